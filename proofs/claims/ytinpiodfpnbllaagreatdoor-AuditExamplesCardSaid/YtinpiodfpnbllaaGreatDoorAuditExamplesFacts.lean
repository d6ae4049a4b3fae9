/-
  The closed facts of the row of AuditExamples, in parts.
-/
import Derived.Test.YtinpiodfpnbllaaGreatDoorRows
import Derived.ProofKit
import Derived.Test.YtinpiodfpnbllaaGreatDoorAu0
namespace Go.Proofs.YtinpiodfpnbllaaGreatDoor.auditExamplesFacts
theorem fa : (Rows.auditExamplesRow.inPlace == Tryz.pinned.checked.prog.inPlace 17) = true := by kernel_rfl
theorem fb : (Rows.auditExamplesRow.unfollowed == Tryz.pinned.checked.prog.unfollowed 17) = true := by kernel_rfl
theorem fc : (Rows.auditExamplesRow.recurses == Tryz.pinned.checked.prog.recurses 17) = true := by kernel_rfl
theorem fd : (Rows.auditExamplesRow.named == Tryz.pinned.checked.prog.varsNamed 17) = true := by kernel_rfl
theorem fe : (Rows.auditExamplesRow.plainKeys == Tryz.pinned.checked.prog.plainKeys) = true := by kernel_rfl
theorem ff : laidOutB Tryz.pinned.checked.prog = true := by kernel_rfl
theorem fg : mapsRowed Tryz.pinned.checked.prog = true := by kernel_rfl
theorem joined : joinedFacts Tryz.pinned.checked.prog 17 Tryz.f17 Rows.auditExamplesSpec Rows.auditExamplesRow = true := by
  unfold joinedFacts
  rw [fa, fb, fc, fd, fe, ff, fg]
  kernel_rfl
end Go.Proofs.YtinpiodfpnbllaaGreatDoor.auditExamplesFacts
