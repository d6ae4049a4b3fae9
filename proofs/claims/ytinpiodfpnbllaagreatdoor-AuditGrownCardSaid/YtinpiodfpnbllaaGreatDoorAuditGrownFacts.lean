/-
  The closed facts of the row of AuditGrown, in parts.
-/
import Derived.Test.YtinpiodfpnbllaaGreatDoorRows
import Derived.ProofKit
import Derived.Test.YtinpiodfpnbllaaGreatDoorAu0
namespace Go.Proofs.YtinpiodfpnbllaaGreatDoor.auditGrownFacts
theorem fa : (Rows.auditGrownRow.inPlace == Tryz.pinned.checked.prog.inPlace 13) = true := by kernel_rfl
theorem fb : (Rows.auditGrownRow.unfollowed == Tryz.pinned.checked.prog.unfollowed 13) = true := by kernel_rfl
theorem fc : (Rows.auditGrownRow.recurses == Tryz.pinned.checked.prog.recurses 13) = true := by kernel_rfl
theorem fd : (Rows.auditGrownRow.named == Tryz.pinned.checked.prog.varsNamed 13) = true := by kernel_rfl
theorem fe : (Rows.auditGrownRow.plainKeys == Tryz.pinned.checked.prog.plainKeys) = true := by kernel_rfl
theorem ff : laidOutB Tryz.pinned.checked.prog = true := by kernel_rfl
theorem fg : mapsRowed Tryz.pinned.checked.prog = true := by kernel_rfl
theorem joined : joinedFacts Tryz.pinned.checked.prog 13 Tryz.f13 Rows.auditGrownSpec Rows.auditGrownRow = true := by
  unfold joinedFacts
  rw [fa, fb, fc, fd, fe, ff, fg]
  kernel_rfl
end Go.Proofs.YtinpiodfpnbllaaGreatDoor.auditGrownFacts
