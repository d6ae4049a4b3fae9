/-
  The closed facts of the row of AuditHonest, in parts.
-/
import Derived.Test.YtinpiodfpnbllaaGreatDoorRows
import Derived.ProofKit
import Derived.Test.YtinpiodfpnbllaaGreatDoorAu0
namespace Go.Proofs.YtinpiodfpnbllaaGreatDoor.auditHonestFacts
theorem fa : (Rows.auditHonestRow.inPlace == Tryz.pinned.checked.prog.inPlace 6) = true := by kernel_rfl
theorem fb : (Rows.auditHonestRow.unfollowed == Tryz.pinned.checked.prog.unfollowed 6) = true := by kernel_rfl
theorem fc : (Rows.auditHonestRow.recurses == Tryz.pinned.checked.prog.recurses 6) = true := by kernel_rfl
theorem fd : (Rows.auditHonestRow.named == Tryz.pinned.checked.prog.varsNamed 6) = true := by kernel_rfl
theorem fe : (Rows.auditHonestRow.plainKeys == Tryz.pinned.checked.prog.plainKeys) = true := by kernel_rfl
theorem ff : laidOutB Tryz.pinned.checked.prog = true := by kernel_rfl
theorem fg : mapsRowed Tryz.pinned.checked.prog = true := by kernel_rfl
theorem joined : joinedFacts Tryz.pinned.checked.prog 6 Tryz.f6 Rows.auditHonestSpec Rows.auditHonestRow = true := by
  unfold joinedFacts
  rw [fa, fb, fc, fd, fe, ff, fg]
  kernel_rfl
end Go.Proofs.YtinpiodfpnbllaaGreatDoor.auditHonestFacts
