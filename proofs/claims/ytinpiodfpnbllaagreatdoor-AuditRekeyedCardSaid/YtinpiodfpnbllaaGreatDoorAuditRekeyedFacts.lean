/-
  The closed facts of the row of AuditRekeyed, in parts.
-/
import Derived.Test.YtinpiodfpnbllaaGreatDoorRows
import Derived.ProofKit
import Derived.Test.YtinpiodfpnbllaaGreatDoorAu0
namespace Go.Proofs.YtinpiodfpnbllaaGreatDoor.auditRekeyedFacts
theorem fa : (Rows.auditRekeyedRow.inPlace == Tryz.pinned.checked.prog.inPlace 15) = true := by kernel_rfl
theorem fb : (Rows.auditRekeyedRow.unfollowed == Tryz.pinned.checked.prog.unfollowed 15) = true := by kernel_rfl
theorem fc : (Rows.auditRekeyedRow.recurses == Tryz.pinned.checked.prog.recurses 15) = true := by kernel_rfl
theorem fd : (Rows.auditRekeyedRow.named == Tryz.pinned.checked.prog.varsNamed 15) = true := by kernel_rfl
theorem fe : (Rows.auditRekeyedRow.plainKeys == Tryz.pinned.checked.prog.plainKeys) = true := by kernel_rfl
theorem ff : laidOutB Tryz.pinned.checked.prog = true := by kernel_rfl
theorem fg : mapsRowed Tryz.pinned.checked.prog = true := by kernel_rfl
theorem joined : joinedFacts Tryz.pinned.checked.prog 15 Tryz.f15 Rows.auditRekeyedSpec Rows.auditRekeyedRow = true := by
  unfold joinedFacts
  rw [fa, fb, fc, fd, fe, ff, fg]
  kernel_rfl
end Go.Proofs.YtinpiodfpnbllaaGreatDoor.auditRekeyedFacts
