/-
  The closed facts of the row of AuditOtherKey, in parts.
-/
import Derived.Test.YtinpiodfpnbllaaGreatDoorRows
import Derived.ProofKit
import Derived.Test.YtinpiodfpnbllaaGreatDoorAu0
namespace Go.Proofs.YtinpiodfpnbllaaGreatDoor.auditOtherKeyFacts
theorem fa : (Rows.auditOtherKeyRow.inPlace == Tryz.pinned.checked.prog.inPlace 12) = true := by kernel_rfl
theorem fb : (Rows.auditOtherKeyRow.unfollowed == Tryz.pinned.checked.prog.unfollowed 12) = true := by kernel_rfl
theorem fc : (Rows.auditOtherKeyRow.recurses == Tryz.pinned.checked.prog.recurses 12) = true := by kernel_rfl
theorem fd : (Rows.auditOtherKeyRow.named == Tryz.pinned.checked.prog.varsNamed 12) = true := by kernel_rfl
theorem fe : (Rows.auditOtherKeyRow.plainKeys == Tryz.pinned.checked.prog.plainKeys) = true := by kernel_rfl
theorem ff : laidOutB Tryz.pinned.checked.prog = true := by kernel_rfl
theorem fg : mapsRowed Tryz.pinned.checked.prog = true := by kernel_rfl
theorem joined : joinedFacts Tryz.pinned.checked.prog 12 Tryz.f12 Rows.auditOtherKeySpec Rows.auditOtherKeyRow = true := by
  unfold joinedFacts
  rw [fa, fb, fc, fd, fe, ff, fg]
  kernel_rfl
end Go.Proofs.YtinpiodfpnbllaaGreatDoor.auditOtherKeyFacts
