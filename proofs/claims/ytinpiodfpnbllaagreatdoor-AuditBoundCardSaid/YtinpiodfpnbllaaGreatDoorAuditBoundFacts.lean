/-
  The closed facts of the row of AuditBound, in parts.
-/
import Derived.Test.YtinpiodfpnbllaaGreatDoorRows
import Derived.ProofKit
import Derived.Test.YtinpiodfpnbllaaGreatDoorAu0
namespace Go.Proofs.YtinpiodfpnbllaaGreatDoor.auditBoundFacts
theorem fa : (Rows.auditBoundRow.inPlace == Tryz.pinned.checked.prog.inPlace 9) = true := by kernel_rfl
theorem fb : (Rows.auditBoundRow.unfollowed == Tryz.pinned.checked.prog.unfollowed 9) = true := by kernel_rfl
theorem fc : (Rows.auditBoundRow.recurses == Tryz.pinned.checked.prog.recurses 9) = true := by kernel_rfl
theorem fd : (Rows.auditBoundRow.named == Tryz.pinned.checked.prog.varsNamed 9) = true := by kernel_rfl
theorem fe : (Rows.auditBoundRow.plainKeys == Tryz.pinned.checked.prog.plainKeys) = true := by kernel_rfl
theorem ff : laidOutB Tryz.pinned.checked.prog = true := by kernel_rfl
theorem fg : mapsRowed Tryz.pinned.checked.prog = true := by kernel_rfl
theorem joined : joinedFacts Tryz.pinned.checked.prog 9 Tryz.f9 Rows.auditBoundSpec Rows.auditBoundRow = true := by
  unfold joinedFacts
  rw [fa, fb, fc, fd, fe, ff, fg]
  kernel_rfl
end Go.Proofs.YtinpiodfpnbllaaGreatDoor.auditBoundFacts
