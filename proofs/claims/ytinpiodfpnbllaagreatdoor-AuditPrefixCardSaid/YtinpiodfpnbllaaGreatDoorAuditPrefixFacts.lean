/-
  The closed facts of the row of AuditPrefix, in parts.
-/
import Derived.Test.YtinpiodfpnbllaaGreatDoorRows
import Derived.ProofKit
import Derived.Test.YtinpiodfpnbllaaGreatDoorAu0
namespace Go.Proofs.YtinpiodfpnbllaaGreatDoor.auditPrefixFacts
theorem fa : (Rows.auditPrefixRow.inPlace == Tryz.pinned.checked.prog.inPlace 11) = true := by kernel_rfl
theorem fb : (Rows.auditPrefixRow.unfollowed == Tryz.pinned.checked.prog.unfollowed 11) = true := by kernel_rfl
theorem fc : (Rows.auditPrefixRow.recurses == Tryz.pinned.checked.prog.recurses 11) = true := by kernel_rfl
theorem fd : (Rows.auditPrefixRow.named == Tryz.pinned.checked.prog.varsNamed 11) = true := by kernel_rfl
theorem fe : (Rows.auditPrefixRow.plainKeys == Tryz.pinned.checked.prog.plainKeys) = true := by kernel_rfl
theorem ff : laidOutB Tryz.pinned.checked.prog = true := by kernel_rfl
theorem fg : mapsRowed Tryz.pinned.checked.prog = true := by kernel_rfl
theorem joined : joinedFacts Tryz.pinned.checked.prog 11 Tryz.f11 Rows.auditPrefixSpec Rows.auditPrefixRow = true := by
  unfold joinedFacts
  rw [fa, fb, fc, fd, fe, ff, fg]
  kernel_rfl
end Go.Proofs.YtinpiodfpnbllaaGreatDoor.auditPrefixFacts
