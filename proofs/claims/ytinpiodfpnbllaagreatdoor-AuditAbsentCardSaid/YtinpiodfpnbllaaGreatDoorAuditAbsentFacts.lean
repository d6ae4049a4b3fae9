/-
  The closed facts of the row of AuditAbsent, in parts.
-/
import Derived.Test.YtinpiodfpnbllaaGreatDoorRows
import Derived.ProofKit
import Derived.Test.YtinpiodfpnbllaaGreatDoorAu0
namespace Go.Proofs.YtinpiodfpnbllaaGreatDoor.auditAbsentFacts
theorem fa : (Rows.auditAbsentRow.inPlace == Tryz.pinned.checked.prog.inPlace 14) = true := by kernel_rfl
theorem fb : (Rows.auditAbsentRow.unfollowed == Tryz.pinned.checked.prog.unfollowed 14) = true := by kernel_rfl
theorem fc : (Rows.auditAbsentRow.recurses == Tryz.pinned.checked.prog.recurses 14) = true := by kernel_rfl
theorem fd : (Rows.auditAbsentRow.named == Tryz.pinned.checked.prog.varsNamed 14) = true := by kernel_rfl
theorem fe : (Rows.auditAbsentRow.plainKeys == Tryz.pinned.checked.prog.plainKeys) = true := by kernel_rfl
theorem ff : laidOutB Tryz.pinned.checked.prog = true := by kernel_rfl
theorem fg : mapsRowed Tryz.pinned.checked.prog = true := by kernel_rfl
theorem joined : joinedFacts Tryz.pinned.checked.prog 14 Tryz.f14 Rows.auditAbsentSpec Rows.auditAbsentRow = true := by
  unfold joinedFacts
  rw [fa, fb, fc, fd, fe, ff, fg]
  kernel_rfl
end Go.Proofs.YtinpiodfpnbllaaGreatDoor.auditAbsentFacts
