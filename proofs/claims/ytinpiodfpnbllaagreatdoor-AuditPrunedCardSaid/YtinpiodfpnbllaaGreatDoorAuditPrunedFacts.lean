/-
  The closed facts of the row of AuditPruned, in parts.
-/
import Derived.Test.YtinpiodfpnbllaaGreatDoorRows
import Derived.ProofKit
import Derived.Test.YtinpiodfpnbllaaGreatDoorAu0
namespace Go.Proofs.YtinpiodfpnbllaaGreatDoor.auditPrunedFacts
theorem fa : (Rows.auditPrunedRow.inPlace == Tryz.pinned.checked.prog.inPlace 10) = true := by kernel_rfl
theorem fb : (Rows.auditPrunedRow.unfollowed == Tryz.pinned.checked.prog.unfollowed 10) = true := by kernel_rfl
theorem fc : (Rows.auditPrunedRow.recurses == Tryz.pinned.checked.prog.recurses 10) = true := by kernel_rfl
theorem fd : (Rows.auditPrunedRow.named == Tryz.pinned.checked.prog.varsNamed 10) = true := by kernel_rfl
theorem fe : (Rows.auditPrunedRow.plainKeys == Tryz.pinned.checked.prog.plainKeys) = true := by kernel_rfl
theorem ff : laidOutB Tryz.pinned.checked.prog = true := by kernel_rfl
theorem fg : mapsRowed Tryz.pinned.checked.prog = true := by kernel_rfl
theorem joined : joinedFacts Tryz.pinned.checked.prog 10 Tryz.f10 Rows.auditPrunedSpec Rows.auditPrunedRow = true := by
  unfold joinedFacts
  rw [fa, fb, fc, fd, fe, ff, fg]
  kernel_rfl
end Go.Proofs.YtinpiodfpnbllaaGreatDoor.auditPrunedFacts
