/-
  The closed facts of the row of AuditProved, in parts.
-/
import Derived.Test.YtinpiodfpnbllaaGreatDoorRows
import Derived.ProofKit
import Derived.Test.YtinpiodfpnbllaaGreatDoorAu0
namespace Go.Proofs.YtinpiodfpnbllaaGreatDoor.auditProvedFacts
theorem fa : (Rows.auditProvedRow.inPlace == Tryz.pinned.checked.prog.inPlace 4) = true := by kernel_rfl
theorem fb : (Rows.auditProvedRow.unfollowed == Tryz.pinned.checked.prog.unfollowed 4) = true := by kernel_rfl
theorem fc : (Rows.auditProvedRow.recurses == Tryz.pinned.checked.prog.recurses 4) = true := by kernel_rfl
theorem fd : (Rows.auditProvedRow.named == Tryz.pinned.checked.prog.varsNamed 4) = true := by kernel_rfl
theorem fe : (Rows.auditProvedRow.plainKeys == Tryz.pinned.checked.prog.plainKeys) = true := by kernel_rfl
theorem ff : laidOutB Tryz.pinned.checked.prog = true := by kernel_rfl
theorem fg : mapsRowed Tryz.pinned.checked.prog = true := by kernel_rfl
theorem joined : joinedFacts Tryz.pinned.checked.prog 4 Tryz.f4 Rows.auditProvedSpec Rows.auditProvedRow = true := by
  unfold joinedFacts
  rw [fa, fb, fc, fd, fe, ff, fg]
  kernel_rfl
end Go.Proofs.YtinpiodfpnbllaaGreatDoor.auditProvedFacts
