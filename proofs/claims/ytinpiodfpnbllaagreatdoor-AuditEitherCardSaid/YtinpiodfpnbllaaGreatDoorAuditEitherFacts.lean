/-
  The closed facts of the row of AuditEither, in parts.
-/
import Derived.Test.YtinpiodfpnbllaaGreatDoorRows
import Derived.ProofKit
import Derived.Test.YtinpiodfpnbllaaGreatDoorAu0
namespace Go.Proofs.YtinpiodfpnbllaaGreatDoor.auditEitherFacts
theorem fa : (Rows.auditEitherRow.inPlace == Tryz.pinned.checked.prog.inPlace 16) = true := by kernel_rfl
theorem fb : (Rows.auditEitherRow.unfollowed == Tryz.pinned.checked.prog.unfollowed 16) = true := by kernel_rfl
theorem fc : (Rows.auditEitherRow.recurses == Tryz.pinned.checked.prog.recurses 16) = true := by kernel_rfl
theorem fd : (Rows.auditEitherRow.named == Tryz.pinned.checked.prog.varsNamed 16) = true := by kernel_rfl
theorem fe : (Rows.auditEitherRow.plainKeys == Tryz.pinned.checked.prog.plainKeys) = true := by kernel_rfl
theorem ff : laidOutB Tryz.pinned.checked.prog = true := by kernel_rfl
theorem fg : mapsRowed Tryz.pinned.checked.prog = true := by kernel_rfl
theorem joined : joinedFacts Tryz.pinned.checked.prog 16 Tryz.f16 Rows.auditEitherSpec Rows.auditEitherRow = true := by
  unfold joinedFacts
  rw [fa, fb, fc, fd, fe, ff, fg]
  kernel_rfl
end Go.Proofs.YtinpiodfpnbllaaGreatDoor.auditEitherFacts
