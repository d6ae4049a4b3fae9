/-
  The closed facts of the row of AuditMerged, in parts.
-/
import Derived.Test.YtinpiodfpnbllaaGreatDoorRows
import Derived.ProofKit
import Derived.Test.YtinpiodfpnbllaaGreatDoorAu0
namespace Go.Proofs.YtinpiodfpnbllaaGreatDoor.auditMergedFacts
theorem fa : (Rows.auditMergedRow.inPlace == Tryz.pinned.checked.prog.inPlace 5) = true := by kernel_rfl
theorem fb : (Rows.auditMergedRow.unfollowed == Tryz.pinned.checked.prog.unfollowed 5) = true := by kernel_rfl
theorem fc : (Rows.auditMergedRow.recurses == Tryz.pinned.checked.prog.recurses 5) = true := by kernel_rfl
theorem fd : (Rows.auditMergedRow.named == Tryz.pinned.checked.prog.varsNamed 5) = true := by kernel_rfl
theorem fe : (Rows.auditMergedRow.plainKeys == Tryz.pinned.checked.prog.plainKeys) = true := by kernel_rfl
theorem ff : laidOutB Tryz.pinned.checked.prog = true := by kernel_rfl
theorem fg : mapsRowed Tryz.pinned.checked.prog = true := by kernel_rfl
theorem joined : joinedFacts Tryz.pinned.checked.prog 5 Tryz.f5 Rows.auditMergedSpec Rows.auditMergedRow = true := by
  unfold joinedFacts
  rw [fa, fb, fc, fd, fe, ff, fg]
  kernel_rfl
end Go.Proofs.YtinpiodfpnbllaaGreatDoor.auditMergedFacts
