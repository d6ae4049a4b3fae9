/-
  NARROWER THAN 'FOR EVERY INPUT', by the rows' own cells (each row's printed sentence says how): AuditJudges: laid · AuditProved: laid · AuditMerged: laid · AuditHonest: laid · AuditShare: laid · AuditOpenings: laid · AuditBound: laid · AuditPruned: laid · AuditPrefix: laid · AuditOtherKey: laid · AuditGrown: laid · AuditAbsent: laid · AuditRekeyed: laid · AuditEither: laid · AuditExamples: laid.
  DERIVED. THE GIVEN ROWS OF THIS SEAT. 15 by the template 'for every input the law returns true; each argument reads behind the call as it read before'; 0 by the template 'total and deterministic' (their statements: YtinpiodfpnbllaaGreatDoorTotals.lean).
  GIVEN WITH THE SEED: the statements are not yours to turn. If you find one false, say at which input.
  Laid BY PROGRAM, IN A SANDBOX (cutbox-rows.mjs): the forced cells as the released guide's own fill.sh prints them over the translation aee6857ccbd48d6b… (all of the seat's roots in one cut). By AI agents, Wed Nov 11 2026. No macro, syntax, notation, axiom, sorry.
-/
import Derived.Test.YtinpiodfpnbllaaGreatDoorChecked
import GoSem.Claim
import GoSem.ClaimJoined
import GoSem.ClaimMapViews
import Derived.JoinedTies
import Derived.KernelRfl
namespace Go.Proofs.YtinpiodfpnbllaaGreatDoor
/- THE CELL 'sum', in the pinned program and in every row, IS THE sha256 OF THE DUMP (.gsa) THAT YtinpiodfpnbllaaGreatDoorProg.lean LOADS. Nothing in Lean hashes anything: it is a label: what it is worth is what the hold of that sum in a sandbox is worth. -/
noncomputable def Tryz.pinned : Pinned := { name := "ytinpiodfpnbllaagreatdoor", sum := "aee6857ccbd48d6bd728581c059af603237f086bde88b401c4b7db929f62acb2", checked := Tryz.checked }
namespace Rows
def none {H : Type} : Left H := { results := [], args := [] }

/- WHAT THE LISTED PACKAGE-LEVEL VARIABLES READ AS WHEN THE CALL BEGINS. Each datum BY PROGRAM (the guide's laid-datum.mjs) off the statement by which the dump's own 'gosem.cut.vars' lays the variable. In a bare row this is a premise. The card (YtinpiodfpnbllaaGreatDoorCards.lean) ties it to the program's text. -/
def laid_headend_audit_tests {H : Type} : DataW H := .iface "func table" (.agg [.agg [.lit (.int .u8 1), .iface "func" (.lit (.string [104, 101, 97, 100, 101, 110, 100, 47, 97, 117, 100, 105, 116, 46, 116, 101, 115, 116, 115, 36, 49]))], .agg [.lit (.int .u8 2), .iface "func" (.lit (.string [104, 101, 97, 100, 101, 110, 100, 47, 97, 117, 100, 105, 116, 46, 116, 101, 115, 116, 115, 36, 50]))], .agg [.lit (.int .u8 4), .iface "func" (.lit (.string [104, 101, 97, 100, 101, 110, 100, 47, 97, 117, 100, 105, 116, 46, 116, 101, 115, 116, 115, 36, 51]))]])

/-- 'headendlaw09.AuditJudges': WHATEVER THE INPUT: true; the input reads as it did. -/
def auditJudgesSpec : ChangeSpec := { name := "auditJudges", fn := fun _ => fun
  | [d1, d2, d3, d4, d5] => { results := [.lit (.bool true)], args := [d1, d2, d3, d4, d5] }
  | _ => none }
def auditJudgesRow : OpenClaim := { program := "ytinpiodfpnbllaagreatdoor", sum := "aee6857ccbd48d6bd728581c059af603237f086bde88b401c4b7db929f62acb2", func := "headend/headendlaw09.AuditJudges", spec := "auditJudges", unfollowed := true, recurses := true, named := ["math/bits.overflowError", "headend/audit.tests"], apart := false, laid := [("headend/audit.tests", laid_headend_audit_tests)] }
def AuditJudgesSaid : Prop := auditJudgesRow.holds Tryz.pinned (OpenSpec.ofChange auditJudgesSpec)

/-- ITS FALSE NEIGHBOUR: 'it returns false'. Refute it at one input. -/
def auditJudgesWrong : ChangeSpec := { name := "auditJudges", fn := fun _ => fun
  | [d1, d2, d3, d4, d5] => { results := [.lit (.bool false)], args := [d1, d2, d3, d4, d5] }
  | _ => none }
def AuditJudgesWrongFalsely : Prop := auditJudgesRow.holds Tryz.pinned (OpenSpec.ofChange auditJudgesWrong)

/-- 'headendlaw09.AuditProved': WHATEVER THE INPUT: true; the input reads as it did. -/
def auditProvedSpec : ChangeSpec := { name := "auditProved", fn := fun _ => fun
  | [d1, d2] => { results := [.lit (.bool true)], args := [d1, d2] }
  | _ => none }
def auditProvedRow : OpenClaim := { program := "ytinpiodfpnbllaagreatdoor", sum := "aee6857ccbd48d6bd728581c059af603237f086bde88b401c4b7db929f62acb2", func := "headend/headendlaw09.AuditProved", spec := "auditProved", unfollowed := true, recurses := true, named := ["headend/audit.tests", "math/bits.overflowError"], apart := false, laid := [("headend/audit.tests", laid_headend_audit_tests)] }
def AuditProvedSaid : Prop := auditProvedRow.holds Tryz.pinned (OpenSpec.ofChange auditProvedSpec)

/-- ITS FALSE NEIGHBOUR: 'it returns false'. Refute it at one input. -/
def auditProvedWrong : ChangeSpec := { name := "auditProved", fn := fun _ => fun
  | [d1, d2] => { results := [.lit (.bool false)], args := [d1, d2] }
  | _ => none }
def AuditProvedWrongFalsely : Prop := auditProvedRow.holds Tryz.pinned (OpenSpec.ofChange auditProvedWrong)

/-- 'headendlaw09.AuditMerged': WHATEVER THE INPUT: true; the input reads as it did. -/
def auditMergedSpec : ChangeSpec := { name := "auditMerged", fn := fun _ => fun
  | [d1, d2, d3] => { results := [.lit (.bool true)], args := [d1, d2, d3] }
  | _ => none }
def auditMergedRow : OpenClaim := { program := "ytinpiodfpnbllaagreatdoor", sum := "aee6857ccbd48d6bd728581c059af603237f086bde88b401c4b7db929f62acb2", func := "headend/headendlaw09.AuditMerged", spec := "auditMerged", unfollowed := true, recurses := true, named := ["headend/audit.tests", "math/bits.overflowError"], apart := false, laid := [("headend/audit.tests", laid_headend_audit_tests)] }
def AuditMergedSaid : Prop := auditMergedRow.holds Tryz.pinned (OpenSpec.ofChange auditMergedSpec)

/-- ITS FALSE NEIGHBOUR: 'it returns false'. Refute it at one input. -/
def auditMergedWrong : ChangeSpec := { name := "auditMerged", fn := fun _ => fun
  | [d1, d2, d3] => { results := [.lit (.bool false)], args := [d1, d2, d3] }
  | _ => none }
def AuditMergedWrongFalsely : Prop := auditMergedRow.holds Tryz.pinned (OpenSpec.ofChange auditMergedWrong)

/-- 'headendlaw09.AuditHonest': WHATEVER THE INPUT: true; the input reads as it did. -/
def auditHonestSpec : ChangeSpec := { name := "auditHonest", fn := fun _ => fun
  | [d1, d2, d3, d4, d5, d6] => { results := [.lit (.bool true)], args := [d1, d2, d3, d4, d5, d6] }
  | _ => none }
def auditHonestRow : OpenClaim := { program := "ytinpiodfpnbllaagreatdoor", sum := "aee6857ccbd48d6bd728581c059af603237f086bde88b401c4b7db929f62acb2", func := "headend/headendlaw09.AuditHonest", spec := "auditHonest", unfollowed := true, recurses := true, named := ["headend/audit.tests", "math/bits.overflowError"], apart := false, laid := [("headend/audit.tests", laid_headend_audit_tests)] }
def AuditHonestSaid : Prop := auditHonestRow.holds Tryz.pinned (OpenSpec.ofChange auditHonestSpec)

/-- ITS FALSE NEIGHBOUR: 'it returns false'. Refute it at one input. -/
def auditHonestWrong : ChangeSpec := { name := "auditHonest", fn := fun _ => fun
  | [d1, d2, d3, d4, d5, d6] => { results := [.lit (.bool false)], args := [d1, d2, d3, d4, d5, d6] }
  | _ => none }
def AuditHonestWrongFalsely : Prop := auditHonestRow.holds Tryz.pinned (OpenSpec.ofChange auditHonestWrong)

/-- 'headendlaw09.AuditShare': WHATEVER THE INPUT: true; the input reads as it did. -/
def auditShareSpec : ChangeSpec := { name := "auditShare", fn := fun _ => fun
  | [d1, d2] => { results := [.lit (.bool true)], args := [d1, d2] }
  | _ => none }
def auditShareRow : OpenClaim := { program := "ytinpiodfpnbllaagreatdoor", sum := "aee6857ccbd48d6bd728581c059af603237f086bde88b401c4b7db929f62acb2", func := "headend/headendlaw09.AuditShare", spec := "auditShare", unfollowed := true, recurses := true, named := ["headend/audit.tests", "math/bits.overflowError"], apart := false, laid := [("headend/audit.tests", laid_headend_audit_tests)] }
def AuditShareSaid : Prop := auditShareRow.holds Tryz.pinned (OpenSpec.ofChange auditShareSpec)

/-- ITS FALSE NEIGHBOUR: 'it returns false'. Refute it at one input. -/
def auditShareWrong : ChangeSpec := { name := "auditShare", fn := fun _ => fun
  | [d1, d2] => { results := [.lit (.bool false)], args := [d1, d2] }
  | _ => none }
def AuditShareWrongFalsely : Prop := auditShareRow.holds Tryz.pinned (OpenSpec.ofChange auditShareWrong)

/-- 'headendlaw09.AuditOpenings': WHATEVER THE INPUT: true; the input reads as it did. -/
def auditOpeningsSpec : ChangeSpec := { name := "auditOpenings", fn := fun _ => fun
  | [d1, d2, d3, d4] => { results := [.lit (.bool true)], args := [d1, d2, d3, d4] }
  | _ => none }
def auditOpeningsRow : OpenClaim := { program := "ytinpiodfpnbllaagreatdoor", sum := "aee6857ccbd48d6bd728581c059af603237f086bde88b401c4b7db929f62acb2", func := "headend/headendlaw09.AuditOpenings", spec := "auditOpenings", unfollowed := true, recurses := true, named := ["headend/audit.tests", "math/bits.overflowError"], apart := false, laid := [("headend/audit.tests", laid_headend_audit_tests)] }
def AuditOpeningsSaid : Prop := auditOpeningsRow.holds Tryz.pinned (OpenSpec.ofChange auditOpeningsSpec)

/-- ITS FALSE NEIGHBOUR: 'it returns false'. Refute it at one input. -/
def auditOpeningsWrong : ChangeSpec := { name := "auditOpenings", fn := fun _ => fun
  | [d1, d2, d3, d4] => { results := [.lit (.bool false)], args := [d1, d2, d3, d4] }
  | _ => none }
def AuditOpeningsWrongFalsely : Prop := auditOpeningsRow.holds Tryz.pinned (OpenSpec.ofChange auditOpeningsWrong)

/-- 'headendlaw09.AuditBound': WHATEVER THE INPUT: true; the input reads as it did. -/
def auditBoundSpec : ChangeSpec := { name := "auditBound", fn := fun _ => fun
  | [d1, d2, d3] => { results := [.lit (.bool true)], args := [d1, d2, d3] }
  | _ => none }
def auditBoundRow : OpenClaim := { program := "ytinpiodfpnbllaagreatdoor", sum := "aee6857ccbd48d6bd728581c059af603237f086bde88b401c4b7db929f62acb2", func := "headend/headendlaw09.AuditBound", spec := "auditBound", unfollowed := true, recurses := true, named := ["headend/audit.tests", "math/bits.overflowError"], apart := false, laid := [("headend/audit.tests", laid_headend_audit_tests)] }
def AuditBoundSaid : Prop := auditBoundRow.holds Tryz.pinned (OpenSpec.ofChange auditBoundSpec)

/-- ITS FALSE NEIGHBOUR: 'it returns false'. Refute it at one input. -/
def auditBoundWrong : ChangeSpec := { name := "auditBound", fn := fun _ => fun
  | [d1, d2, d3] => { results := [.lit (.bool false)], args := [d1, d2, d3] }
  | _ => none }
def AuditBoundWrongFalsely : Prop := auditBoundRow.holds Tryz.pinned (OpenSpec.ofChange auditBoundWrong)

/-- 'headendlaw09.AuditPruned': WHATEVER THE INPUT: true; the input reads as it did. -/
def auditPrunedSpec : ChangeSpec := { name := "auditPruned", fn := fun _ => fun
  | [d1, d2, d3, d4] => { results := [.lit (.bool true)], args := [d1, d2, d3, d4] }
  | _ => none }
def auditPrunedRow : OpenClaim := { program := "ytinpiodfpnbllaagreatdoor", sum := "aee6857ccbd48d6bd728581c059af603237f086bde88b401c4b7db929f62acb2", func := "headend/headendlaw09.AuditPruned", spec := "auditPruned", unfollowed := true, recurses := true, named := ["headend/audit.tests", "math/bits.overflowError"], apart := false, laid := [("headend/audit.tests", laid_headend_audit_tests)] }
def AuditPrunedSaid : Prop := auditPrunedRow.holds Tryz.pinned (OpenSpec.ofChange auditPrunedSpec)

/-- ITS FALSE NEIGHBOUR: 'it returns false'. Refute it at one input. -/
def auditPrunedWrong : ChangeSpec := { name := "auditPruned", fn := fun _ => fun
  | [d1, d2, d3, d4] => { results := [.lit (.bool false)], args := [d1, d2, d3, d4] }
  | _ => none }
def AuditPrunedWrongFalsely : Prop := auditPrunedRow.holds Tryz.pinned (OpenSpec.ofChange auditPrunedWrong)

/-- 'headendlaw09.AuditPrefix': WHATEVER THE INPUT: true; the input reads as it did. -/
def auditPrefixSpec : ChangeSpec := { name := "auditPrefix", fn := fun _ => fun
  | [d1, d2, d3] => { results := [.lit (.bool true)], args := [d1, d2, d3] }
  | _ => none }
def auditPrefixRow : OpenClaim := { program := "ytinpiodfpnbllaagreatdoor", sum := "aee6857ccbd48d6bd728581c059af603237f086bde88b401c4b7db929f62acb2", func := "headend/headendlaw09.AuditPrefix", spec := "auditPrefix", unfollowed := true, recurses := true, named := ["headend/audit.tests", "math/bits.overflowError"], apart := false, laid := [("headend/audit.tests", laid_headend_audit_tests)] }
def AuditPrefixSaid : Prop := auditPrefixRow.holds Tryz.pinned (OpenSpec.ofChange auditPrefixSpec)

/-- ITS FALSE NEIGHBOUR: 'it returns false'. Refute it at one input. -/
def auditPrefixWrong : ChangeSpec := { name := "auditPrefix", fn := fun _ => fun
  | [d1, d2, d3] => { results := [.lit (.bool false)], args := [d1, d2, d3] }
  | _ => none }
def AuditPrefixWrongFalsely : Prop := auditPrefixRow.holds Tryz.pinned (OpenSpec.ofChange auditPrefixWrong)

/-- 'headendlaw09.AuditOtherKey': WHATEVER THE INPUT: true; the input reads as it did. -/
def auditOtherKeySpec : ChangeSpec := { name := "auditOtherKey", fn := fun _ => fun
  | [d1, d2, d3] => { results := [.lit (.bool true)], args := [d1, d2, d3] }
  | _ => none }
def auditOtherKeyRow : OpenClaim := { program := "ytinpiodfpnbllaagreatdoor", sum := "aee6857ccbd48d6bd728581c059af603237f086bde88b401c4b7db929f62acb2", func := "headend/headendlaw09.AuditOtherKey", spec := "auditOtherKey", unfollowed := true, recurses := true, named := ["headend/audit.tests", "math/bits.overflowError"], apart := false, laid := [("headend/audit.tests", laid_headend_audit_tests)] }
def AuditOtherKeySaid : Prop := auditOtherKeyRow.holds Tryz.pinned (OpenSpec.ofChange auditOtherKeySpec)

/-- ITS FALSE NEIGHBOUR: 'it returns false'. Refute it at one input. -/
def auditOtherKeyWrong : ChangeSpec := { name := "auditOtherKey", fn := fun _ => fun
  | [d1, d2, d3] => { results := [.lit (.bool false)], args := [d1, d2, d3] }
  | _ => none }
def AuditOtherKeyWrongFalsely : Prop := auditOtherKeyRow.holds Tryz.pinned (OpenSpec.ofChange auditOtherKeyWrong)

/-- 'headendlaw09.AuditGrown': WHATEVER THE INPUT: true; the input reads as it did. -/
def auditGrownSpec : ChangeSpec := { name := "auditGrown", fn := fun _ => fun
  | [d1, d2] => { results := [.lit (.bool true)], args := [d1, d2] }
  | _ => none }
def auditGrownRow : OpenClaim := { program := "ytinpiodfpnbllaagreatdoor", sum := "aee6857ccbd48d6bd728581c059af603237f086bde88b401c4b7db929f62acb2", func := "headend/headendlaw09.AuditGrown", spec := "auditGrown", unfollowed := true, recurses := true, named := ["headend/audit.tests", "math/bits.overflowError"], apart := false, laid := [("headend/audit.tests", laid_headend_audit_tests)] }
def AuditGrownSaid : Prop := auditGrownRow.holds Tryz.pinned (OpenSpec.ofChange auditGrownSpec)

/-- ITS FALSE NEIGHBOUR: 'it returns false'. Refute it at one input. -/
def auditGrownWrong : ChangeSpec := { name := "auditGrown", fn := fun _ => fun
  | [d1, d2] => { results := [.lit (.bool false)], args := [d1, d2] }
  | _ => none }
def AuditGrownWrongFalsely : Prop := auditGrownRow.holds Tryz.pinned (OpenSpec.ofChange auditGrownWrong)

/-- 'headendlaw09.AuditAbsent': WHATEVER THE INPUT: true; the input reads as it did. -/
def auditAbsentSpec : ChangeSpec := { name := "auditAbsent", fn := fun _ => fun
  | [d1, d2, d3] => { results := [.lit (.bool true)], args := [d1, d2, d3] }
  | _ => none }
def auditAbsentRow : OpenClaim := { program := "ytinpiodfpnbllaagreatdoor", sum := "aee6857ccbd48d6bd728581c059af603237f086bde88b401c4b7db929f62acb2", func := "headend/headendlaw09.AuditAbsent", spec := "auditAbsent", unfollowed := true, recurses := true, named := ["headend/audit.tests", "math/bits.overflowError"], apart := false, laid := [("headend/audit.tests", laid_headend_audit_tests)] }
def AuditAbsentSaid : Prop := auditAbsentRow.holds Tryz.pinned (OpenSpec.ofChange auditAbsentSpec)

/-- ITS FALSE NEIGHBOUR: 'it returns false'. Refute it at one input. -/
def auditAbsentWrong : ChangeSpec := { name := "auditAbsent", fn := fun _ => fun
  | [d1, d2, d3] => { results := [.lit (.bool false)], args := [d1, d2, d3] }
  | _ => none }
def AuditAbsentWrongFalsely : Prop := auditAbsentRow.holds Tryz.pinned (OpenSpec.ofChange auditAbsentWrong)

/-- 'headendlaw09.AuditRekeyed': WHATEVER THE INPUT: true; the input reads as it did. -/
def auditRekeyedSpec : ChangeSpec := { name := "auditRekeyed", fn := fun _ => fun
  | [d1, d2, d3] => { results := [.lit (.bool true)], args := [d1, d2, d3] }
  | _ => none }
def auditRekeyedRow : OpenClaim := { program := "ytinpiodfpnbllaagreatdoor", sum := "aee6857ccbd48d6bd728581c059af603237f086bde88b401c4b7db929f62acb2", func := "headend/headendlaw09.AuditRekeyed", spec := "auditRekeyed", unfollowed := true, recurses := true, named := ["headend/audit.tests", "math/bits.overflowError"], apart := false, laid := [("headend/audit.tests", laid_headend_audit_tests)] }
def AuditRekeyedSaid : Prop := auditRekeyedRow.holds Tryz.pinned (OpenSpec.ofChange auditRekeyedSpec)

/-- ITS FALSE NEIGHBOUR: 'it returns false'. Refute it at one input. -/
def auditRekeyedWrong : ChangeSpec := { name := "auditRekeyed", fn := fun _ => fun
  | [d1, d2, d3] => { results := [.lit (.bool false)], args := [d1, d2, d3] }
  | _ => none }
def AuditRekeyedWrongFalsely : Prop := auditRekeyedRow.holds Tryz.pinned (OpenSpec.ofChange auditRekeyedWrong)

/-- 'headendlaw09.AuditEither': WHATEVER THE INPUT: true; the input reads as it did. -/
def auditEitherSpec : ChangeSpec := { name := "auditEither", fn := fun _ => fun
  | [d1, d2] => { results := [.lit (.bool true)], args := [d1, d2] }
  | _ => none }
def auditEitherRow : OpenClaim := { program := "ytinpiodfpnbllaagreatdoor", sum := "aee6857ccbd48d6bd728581c059af603237f086bde88b401c4b7db929f62acb2", func := "headend/headendlaw09.AuditEither", spec := "auditEither", unfollowed := true, recurses := true, named := ["headend/audit.tests", "math/bits.overflowError"], apart := false, laid := [("headend/audit.tests", laid_headend_audit_tests)] }
def AuditEitherSaid : Prop := auditEitherRow.holds Tryz.pinned (OpenSpec.ofChange auditEitherSpec)

/-- ITS FALSE NEIGHBOUR: 'it returns false'. Refute it at one input. -/
def auditEitherWrong : ChangeSpec := { name := "auditEither", fn := fun _ => fun
  | [d1, d2] => { results := [.lit (.bool false)], args := [d1, d2] }
  | _ => none }
def AuditEitherWrongFalsely : Prop := auditEitherRow.holds Tryz.pinned (OpenSpec.ofChange auditEitherWrong)

/-- 'headendlaw09.AuditExamples': WHATEVER THE INPUT: true; the input reads as it did. -/
def auditExamplesSpec : ChangeSpec := { name := "auditExamples", fn := fun _ => fun
  | [] => { results := [.lit (.bool true)], args := [] }
  | _ => none }
def auditExamplesRow : OpenClaim := { program := "ytinpiodfpnbllaagreatdoor", sum := "aee6857ccbd48d6bd728581c059af603237f086bde88b401c4b7db929f62acb2", func := "headend/headendlaw09.AuditExamples", spec := "auditExamples", unfollowed := true, recurses := true, named := ["headend/audit.tests", "math/bits.overflowError"], apart := false, laid := [("headend/audit.tests", laid_headend_audit_tests)] }
def AuditExamplesSaid : Prop := auditExamplesRow.holds Tryz.pinned (OpenSpec.ofChange auditExamplesSpec)

/-- ITS FALSE NEIGHBOUR: 'it returns false'. Refute it at one input. -/
def auditExamplesWrong : ChangeSpec := { name := "auditExamples", fn := fun _ => fun
  | [] => { results := [.lit (.bool false)], args := [] }
  | _ => none }
def AuditExamplesWrongFalsely : Prop := auditExamplesRow.holds Tryz.pinned (OpenSpec.ofChange auditExamplesWrong)

/- THE SECOND FORM. 'bulk': how many values and letters a reading holds, each counted each time it is reached (what is shared counts as often as it is met; a slice's spare places count too). A statement '..UptoSaid' is the law's where the arguments, and the package variables that the reading takes, are together of bulk at most 1048576: NARROWER than '..Said'. Prove '..Said' where nothing that the law and all that it calls make is longer than what came in: it says more and counts as full. Else prove '..UptoSaid'. A law counts once. -/
mutual
def uptoBulk {H : Type} : DataW H → Nat
  | .lit (.string bytes) => bytes.length + 1
  | .lit _ => 1
  | .nil => 1
  | .ptr d => uptoBulk d + 1
  | .slice elems spare => uptoBulkAll elems + uptoBulkAll spare + 1
  | .agg parts => uptoBulkAll parts + 1
  | .iface _ d => uptoBulk d + 1
  | .map entries => uptoBulkEntries entries + 1
  | .held _ => 1
def uptoBulkAll {H : Type} : List (DataW H) → Nat
  | [] => 0
  | d :: r => uptoBulk d + uptoBulkAll r
def uptoBulkEntries {H : Type} : List (Lit × DataW H) → Nat
  | [] => 0
  | x :: r => uptoBulkEntry x + uptoBulkEntries r
def uptoBulkEntry {H : Type} : Lit × DataW H → Nat
  | (.string bytes, d) => bytes.length + uptoBulk d + 1
  | (_, d) => uptoBulk d + 1
 end
def uptoSmall : (H : Type) → List (DataW H) → Bool := fun _ ds => decide (uptoBulkAll ds ≤ 1048576)
def OpenSpec.upto (s : _root_.Go.ChangeSpec) : _root_.Go.OpenSpec := { _root_.Go.OpenSpec.ofChange s with cond := some uptoSmall }

/-- 'headendlaw09.AuditJudges', WHERE WHAT IT READS IS OF BULK AT MOST 1048576: true; the input reads as it did. -/
def auditJudgesUptoRow : OpenClaim := { program := "ytinpiodfpnbllaagreatdoor", sum := "aee6857ccbd48d6bd728581c059af603237f086bde88b401c4b7db929f62acb2", func := "headend/headendlaw09.AuditJudges", spec := "auditJudges", unfollowed := true, recurses := true, named := ["math/bits.overflowError", "headend/audit.tests"], apart := false, laid := [("headend/audit.tests", laid_headend_audit_tests)], narrowed := true }
def AuditJudgesUptoSaid : Prop := auditJudgesUptoRow.holds Tryz.pinned (OpenSpec.upto auditJudgesSpec)

/-- 'headendlaw09.AuditProved', WHERE WHAT IT READS IS OF BULK AT MOST 1048576: true; the input reads as it did. -/
def auditProvedUptoRow : OpenClaim := { program := "ytinpiodfpnbllaagreatdoor", sum := "aee6857ccbd48d6bd728581c059af603237f086bde88b401c4b7db929f62acb2", func := "headend/headendlaw09.AuditProved", spec := "auditProved", unfollowed := true, recurses := true, named := ["headend/audit.tests", "math/bits.overflowError"], apart := false, laid := [("headend/audit.tests", laid_headend_audit_tests)], narrowed := true }
def AuditProvedUptoSaid : Prop := auditProvedUptoRow.holds Tryz.pinned (OpenSpec.upto auditProvedSpec)

/-- 'headendlaw09.AuditMerged', WHERE WHAT IT READS IS OF BULK AT MOST 1048576: true; the input reads as it did. -/
def auditMergedUptoRow : OpenClaim := { program := "ytinpiodfpnbllaagreatdoor", sum := "aee6857ccbd48d6bd728581c059af603237f086bde88b401c4b7db929f62acb2", func := "headend/headendlaw09.AuditMerged", spec := "auditMerged", unfollowed := true, recurses := true, named := ["headend/audit.tests", "math/bits.overflowError"], apart := false, laid := [("headend/audit.tests", laid_headend_audit_tests)], narrowed := true }
def AuditMergedUptoSaid : Prop := auditMergedUptoRow.holds Tryz.pinned (OpenSpec.upto auditMergedSpec)

/-- 'headendlaw09.AuditHonest', WHERE WHAT IT READS IS OF BULK AT MOST 1048576: true; the input reads as it did. -/
def auditHonestUptoRow : OpenClaim := { program := "ytinpiodfpnbllaagreatdoor", sum := "aee6857ccbd48d6bd728581c059af603237f086bde88b401c4b7db929f62acb2", func := "headend/headendlaw09.AuditHonest", spec := "auditHonest", unfollowed := true, recurses := true, named := ["headend/audit.tests", "math/bits.overflowError"], apart := false, laid := [("headend/audit.tests", laid_headend_audit_tests)], narrowed := true }
def AuditHonestUptoSaid : Prop := auditHonestUptoRow.holds Tryz.pinned (OpenSpec.upto auditHonestSpec)

/-- 'headendlaw09.AuditShare', WHERE WHAT IT READS IS OF BULK AT MOST 1048576: true; the input reads as it did. -/
def auditShareUptoRow : OpenClaim := { program := "ytinpiodfpnbllaagreatdoor", sum := "aee6857ccbd48d6bd728581c059af603237f086bde88b401c4b7db929f62acb2", func := "headend/headendlaw09.AuditShare", spec := "auditShare", unfollowed := true, recurses := true, named := ["headend/audit.tests", "math/bits.overflowError"], apart := false, laid := [("headend/audit.tests", laid_headend_audit_tests)], narrowed := true }
def AuditShareUptoSaid : Prop := auditShareUptoRow.holds Tryz.pinned (OpenSpec.upto auditShareSpec)

/-- 'headendlaw09.AuditOpenings', WHERE WHAT IT READS IS OF BULK AT MOST 1048576: true; the input reads as it did. -/
def auditOpeningsUptoRow : OpenClaim := { program := "ytinpiodfpnbllaagreatdoor", sum := "aee6857ccbd48d6bd728581c059af603237f086bde88b401c4b7db929f62acb2", func := "headend/headendlaw09.AuditOpenings", spec := "auditOpenings", unfollowed := true, recurses := true, named := ["headend/audit.tests", "math/bits.overflowError"], apart := false, laid := [("headend/audit.tests", laid_headend_audit_tests)], narrowed := true }
def AuditOpeningsUptoSaid : Prop := auditOpeningsUptoRow.holds Tryz.pinned (OpenSpec.upto auditOpeningsSpec)

/-- 'headendlaw09.AuditBound', WHERE WHAT IT READS IS OF BULK AT MOST 1048576: true; the input reads as it did. -/
def auditBoundUptoRow : OpenClaim := { program := "ytinpiodfpnbllaagreatdoor", sum := "aee6857ccbd48d6bd728581c059af603237f086bde88b401c4b7db929f62acb2", func := "headend/headendlaw09.AuditBound", spec := "auditBound", unfollowed := true, recurses := true, named := ["headend/audit.tests", "math/bits.overflowError"], apart := false, laid := [("headend/audit.tests", laid_headend_audit_tests)], narrowed := true }
def AuditBoundUptoSaid : Prop := auditBoundUptoRow.holds Tryz.pinned (OpenSpec.upto auditBoundSpec)

/-- 'headendlaw09.AuditPruned', WHERE WHAT IT READS IS OF BULK AT MOST 1048576: true; the input reads as it did. -/
def auditPrunedUptoRow : OpenClaim := { program := "ytinpiodfpnbllaagreatdoor", sum := "aee6857ccbd48d6bd728581c059af603237f086bde88b401c4b7db929f62acb2", func := "headend/headendlaw09.AuditPruned", spec := "auditPruned", unfollowed := true, recurses := true, named := ["headend/audit.tests", "math/bits.overflowError"], apart := false, laid := [("headend/audit.tests", laid_headend_audit_tests)], narrowed := true }
def AuditPrunedUptoSaid : Prop := auditPrunedUptoRow.holds Tryz.pinned (OpenSpec.upto auditPrunedSpec)

/-- 'headendlaw09.AuditPrefix', WHERE WHAT IT READS IS OF BULK AT MOST 1048576: true; the input reads as it did. -/
def auditPrefixUptoRow : OpenClaim := { program := "ytinpiodfpnbllaagreatdoor", sum := "aee6857ccbd48d6bd728581c059af603237f086bde88b401c4b7db929f62acb2", func := "headend/headendlaw09.AuditPrefix", spec := "auditPrefix", unfollowed := true, recurses := true, named := ["headend/audit.tests", "math/bits.overflowError"], apart := false, laid := [("headend/audit.tests", laid_headend_audit_tests)], narrowed := true }
def AuditPrefixUptoSaid : Prop := auditPrefixUptoRow.holds Tryz.pinned (OpenSpec.upto auditPrefixSpec)

/-- 'headendlaw09.AuditOtherKey', WHERE WHAT IT READS IS OF BULK AT MOST 1048576: true; the input reads as it did. -/
def auditOtherKeyUptoRow : OpenClaim := { program := "ytinpiodfpnbllaagreatdoor", sum := "aee6857ccbd48d6bd728581c059af603237f086bde88b401c4b7db929f62acb2", func := "headend/headendlaw09.AuditOtherKey", spec := "auditOtherKey", unfollowed := true, recurses := true, named := ["headend/audit.tests", "math/bits.overflowError"], apart := false, laid := [("headend/audit.tests", laid_headend_audit_tests)], narrowed := true }
def AuditOtherKeyUptoSaid : Prop := auditOtherKeyUptoRow.holds Tryz.pinned (OpenSpec.upto auditOtherKeySpec)

/-- 'headendlaw09.AuditGrown', WHERE WHAT IT READS IS OF BULK AT MOST 1048576: true; the input reads as it did. -/
def auditGrownUptoRow : OpenClaim := { program := "ytinpiodfpnbllaagreatdoor", sum := "aee6857ccbd48d6bd728581c059af603237f086bde88b401c4b7db929f62acb2", func := "headend/headendlaw09.AuditGrown", spec := "auditGrown", unfollowed := true, recurses := true, named := ["headend/audit.tests", "math/bits.overflowError"], apart := false, laid := [("headend/audit.tests", laid_headend_audit_tests)], narrowed := true }
def AuditGrownUptoSaid : Prop := auditGrownUptoRow.holds Tryz.pinned (OpenSpec.upto auditGrownSpec)

/-- 'headendlaw09.AuditAbsent', WHERE WHAT IT READS IS OF BULK AT MOST 1048576: true; the input reads as it did. -/
def auditAbsentUptoRow : OpenClaim := { program := "ytinpiodfpnbllaagreatdoor", sum := "aee6857ccbd48d6bd728581c059af603237f086bde88b401c4b7db929f62acb2", func := "headend/headendlaw09.AuditAbsent", spec := "auditAbsent", unfollowed := true, recurses := true, named := ["headend/audit.tests", "math/bits.overflowError"], apart := false, laid := [("headend/audit.tests", laid_headend_audit_tests)], narrowed := true }
def AuditAbsentUptoSaid : Prop := auditAbsentUptoRow.holds Tryz.pinned (OpenSpec.upto auditAbsentSpec)

/-- 'headendlaw09.AuditRekeyed', WHERE WHAT IT READS IS OF BULK AT MOST 1048576: true; the input reads as it did. -/
def auditRekeyedUptoRow : OpenClaim := { program := "ytinpiodfpnbllaagreatdoor", sum := "aee6857ccbd48d6bd728581c059af603237f086bde88b401c4b7db929f62acb2", func := "headend/headendlaw09.AuditRekeyed", spec := "auditRekeyed", unfollowed := true, recurses := true, named := ["headend/audit.tests", "math/bits.overflowError"], apart := false, laid := [("headend/audit.tests", laid_headend_audit_tests)], narrowed := true }
def AuditRekeyedUptoSaid : Prop := auditRekeyedUptoRow.holds Tryz.pinned (OpenSpec.upto auditRekeyedSpec)

/-- 'headendlaw09.AuditEither', WHERE WHAT IT READS IS OF BULK AT MOST 1048576: true; the input reads as it did. -/
def auditEitherUptoRow : OpenClaim := { program := "ytinpiodfpnbllaagreatdoor", sum := "aee6857ccbd48d6bd728581c059af603237f086bde88b401c4b7db929f62acb2", func := "headend/headendlaw09.AuditEither", spec := "auditEither", unfollowed := true, recurses := true, named := ["headend/audit.tests", "math/bits.overflowError"], apart := false, laid := [("headend/audit.tests", laid_headend_audit_tests)], narrowed := true }
def AuditEitherUptoSaid : Prop := auditEitherUptoRow.holds Tryz.pinned (OpenSpec.upto auditEitherSpec)

/-- 'headendlaw09.AuditExamples', WHERE WHAT IT READS IS OF BULK AT MOST 1048576: true; the input reads as it did. -/
def auditExamplesUptoRow : OpenClaim := { program := "ytinpiodfpnbllaagreatdoor", sum := "aee6857ccbd48d6bd728581c059af603237f086bde88b401c4b7db929f62acb2", func := "headend/headendlaw09.AuditExamples", spec := "auditExamples", unfollowed := true, recurses := true, named := ["headend/audit.tests", "math/bits.overflowError"], apart := false, laid := [("headend/audit.tests", laid_headend_audit_tests)], narrowed := true }
def AuditExamplesUptoSaid : Prop := auditExamplesUptoRow.holds Tryz.pinned (OpenSpec.upto auditExamplesSpec)

end Rows
end Go.Proofs.YtinpiodfpnbllaaGreatDoor
