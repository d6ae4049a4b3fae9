/-
  The closed facts of the row of AuditShare, in parts.
-/
import Derived.Test.YtinpiodfpnbllaaGreatDoorRows
import Derived.ProofKit
import Derived.Test.YtinpiodfpnbllaaGreatDoorAu0
namespace Go.Proofs.YtinpiodfpnbllaaGreatDoor.auditShareFacts
theorem fa : (Rows.auditShareRow.inPlace == Tryz.pinned.checked.prog.inPlace 7) = true := by kernel_rfl
theorem fb : (Rows.auditShareRow.unfollowed == Tryz.pinned.checked.prog.unfollowed 7) = true := by kernel_rfl
theorem fc : (Rows.auditShareRow.recurses == Tryz.pinned.checked.prog.recurses 7) = true := by kernel_rfl
theorem fd : (Rows.auditShareRow.named == Tryz.pinned.checked.prog.varsNamed 7) = true := by kernel_rfl
theorem fe : (Rows.auditShareRow.plainKeys == Tryz.pinned.checked.prog.plainKeys) = true := by kernel_rfl
theorem ff : laidOutB Tryz.pinned.checked.prog = true := by kernel_rfl
theorem fg : mapsRowed Tryz.pinned.checked.prog = true := by kernel_rfl
theorem joined : joinedFacts Tryz.pinned.checked.prog 7 Tryz.f7 Rows.auditShareSpec Rows.auditShareRow = true := by
  unfold joinedFacts
  rw [fa, fb, fc, fd, fe, ff, fg]
  kernel_rfl
end Go.Proofs.YtinpiodfpnbllaaGreatDoor.auditShareFacts
