/-
  No cell of these rows narrows 'for every input' (looked for: loops, veiled, ifaces, maps, wideKeys, modest, calm, conditions, laid).
  DERIVED. THE GIVEN ROWS OF THIS SEAT. 16 by the template 'for every input the law returns true; each argument reads behind the call as it read before'; 0 by the template 'total and deterministic' (their statements: YtenpkmgbaajeeaaGreatTotals.lean).
  GIVEN WITH THE SEED: the statements are not yours to turn. If you find one false, say at which input.
  Laid BY PROGRAM, IN A SANDBOX (cutbox-rows.mjs): the forced cells as the released guide's own fill.sh prints them over the translation dd844e5bb38684d5… (all of the seat's roots in one cut). By AI agents, Wed Nov 11 2026. No macro, syntax, notation, axiom, sorry.
-/
import Derived.Test.YtenpkmgbaajeeaaGreatChecked
import GoSem.Claim
import GoSem.ClaimJoined
import GoSem.ClaimMapViews
import Derived.JoinedTies
import Derived.KernelRfl
namespace Go.Proofs.YtenpkmgbaajeeaaGreat
/- THE CELL 'sum', in the pinned program and in every row, IS THE sha256 OF THE DUMP (.gsa) THAT YtenpkmgbaajeeaaGreatProg.lean LOADS. Nothing in Lean hashes anything: it is a label: what it is worth is what the hold of that sum in a sandbox is worth. -/
noncomputable def Tryz.pinned : Pinned := { name := "ytenpkmgbaajeeaagreat", sum := "dd844e5bb38684d53654e7acb33591a8c026506bdd7ba46769f18cc51f820013", checked := Tryz.checked }
namespace Rows
def none {H : Type} : Left H := { results := [], args := [] }

/-- 'headendlaw07.CodeSteps': WHATEVER THE INPUT: true; the input reads as it did. -/
def codeStepsSpec : ChangeSpec := { name := "codeSteps", fn := fun _ => fun
  | [d1, d2, d3] => { results := [.lit (.bool true)], args := [d1, d2, d3] }
  | _ => none }
def codeStepsRow : OpenClaim := { program := "ytenpkmgbaajeeaagreat", sum := "dd844e5bb38684d53654e7acb33591a8c026506bdd7ba46769f18cc51f820013", func := "headend/headendlaw07.CodeSteps", spec := "codeSteps", unfollowed := true, recurses := true, named := ["math/bits.overflowError"], apart := false }
def CodeStepsSaid : Prop := codeStepsRow.holds Tryz.pinned (OpenSpec.ofChange codeStepsSpec)

/-- ITS FALSE NEIGHBOUR: 'it returns false'. Refute it at one input. -/
def codeStepsWrong : ChangeSpec := { name := "codeSteps", fn := fun _ => fun
  | [d1, d2, d3] => { results := [.lit (.bool false)], args := [d1, d2, d3] }
  | _ => none }
def CodeStepsWrongFalsely : Prop := codeStepsRow.holds Tryz.pinned (OpenSpec.ofChange codeStepsWrong)

/-- 'headendlaw07.CodeChances': WHATEVER THE INPUT: true; the input reads as it did. -/
def codeChancesSpec : ChangeSpec := { name := "codeChances", fn := fun _ => fun
  | [d1, d2, d3, d4] => { results := [.lit (.bool true)], args := [d1, d2, d3, d4] }
  | _ => none }
def codeChancesRow : OpenClaim := { program := "ytenpkmgbaajeeaagreat", sum := "dd844e5bb38684d53654e7acb33591a8c026506bdd7ba46769f18cc51f820013", func := "headend/headendlaw07.CodeChances", spec := "codeChances", unfollowed := true, recurses := true, named := ["math/bits.overflowError"], apart := false }
def CodeChancesSaid : Prop := codeChancesRow.holds Tryz.pinned (OpenSpec.ofChange codeChancesSpec)

/-- ITS FALSE NEIGHBOUR: 'it returns false'. Refute it at one input. -/
def codeChancesWrong : ChangeSpec := { name := "codeChances", fn := fun _ => fun
  | [d1, d2, d3, d4] => { results := [.lit (.bool false)], args := [d1, d2, d3, d4] }
  | _ => none }
def CodeChancesWrongFalsely : Prop := codeChancesRow.holds Tryz.pinned (OpenSpec.ofChange codeChancesWrong)

/-- 'headendlaw07.CodeLevels': WHATEVER THE INPUT: true; the input reads as it did. -/
def codeLevelsSpec : ChangeSpec := { name := "codeLevels", fn := fun _ => fun
  | [d1, d2, d3, d4] => { results := [.lit (.bool true)], args := [d1, d2, d3, d4] }
  | _ => none }
def codeLevelsRow : OpenClaim := { program := "ytenpkmgbaajeeaagreat", sum := "dd844e5bb38684d53654e7acb33591a8c026506bdd7ba46769f18cc51f820013", func := "headend/headendlaw07.CodeLevels", spec := "codeLevels", unfollowed := true, recurses := true, named := ["math/bits.overflowError"], apart := false }
def CodeLevelsSaid : Prop := codeLevelsRow.holds Tryz.pinned (OpenSpec.ofChange codeLevelsSpec)

/-- ITS FALSE NEIGHBOUR: 'it returns false'. Refute it at one input. -/
def codeLevelsWrong : ChangeSpec := { name := "codeLevels", fn := fun _ => fun
  | [d1, d2, d3, d4] => { results := [.lit (.bool false)], args := [d1, d2, d3, d4] }
  | _ => none }
def CodeLevelsWrongFalsely : Prop := codeLevelsRow.holds Tryz.pinned (OpenSpec.ofChange codeLevelsWrong)

/-- 'headendlaw07.CodeEnds': WHATEVER THE INPUT: true; the input reads as it did. -/
def codeEndsSpec : ChangeSpec := { name := "codeEnds", fn := fun _ => fun
  | [d1, d2, d3] => { results := [.lit (.bool true)], args := [d1, d2, d3] }
  | _ => none }
def codeEndsRow : OpenClaim := { program := "ytenpkmgbaajeeaagreat", sum := "dd844e5bb38684d53654e7acb33591a8c026506bdd7ba46769f18cc51f820013", func := "headend/headendlaw07.CodeEnds", spec := "codeEnds", unfollowed := true, recurses := true, named := ["math/bits.overflowError"], apart := false }
def CodeEndsSaid : Prop := codeEndsRow.holds Tryz.pinned (OpenSpec.ofChange codeEndsSpec)

/-- ITS FALSE NEIGHBOUR: 'it returns false'. Refute it at one input. -/
def codeEndsWrong : ChangeSpec := { name := "codeEnds", fn := fun _ => fun
  | [d1, d2, d3] => { results := [.lit (.bool false)], args := [d1, d2, d3] }
  | _ => none }
def CodeEndsWrongFalsely : Prop := codeEndsRow.holds Tryz.pinned (OpenSpec.ofChange codeEndsWrong)

/-- 'headendlaw07.CodeExact': WHATEVER THE INPUT: true; the input reads as it did. -/
def codeExactSpec : ChangeSpec := { name := "codeExact", fn := fun _ => fun
  | [d1, d2, d3] => { results := [.lit (.bool true)], args := [d1, d2, d3] }
  | _ => none }
def codeExactRow : OpenClaim := { program := "ytenpkmgbaajeeaagreat", sum := "dd844e5bb38684d53654e7acb33591a8c026506bdd7ba46769f18cc51f820013", func := "headend/headendlaw07.CodeExact", spec := "codeExact", unfollowed := true, recurses := true, named := ["math/bits.overflowError"], apart := false }
def CodeExactSaid : Prop := codeExactRow.holds Tryz.pinned (OpenSpec.ofChange codeExactSpec)

/-- ITS FALSE NEIGHBOUR: 'it returns false'. Refute it at one input. -/
def codeExactWrong : ChangeSpec := { name := "codeExact", fn := fun _ => fun
  | [d1, d2, d3] => { results := [.lit (.bool false)], args := [d1, d2, d3] }
  | _ => none }
def CodeExactWrongFalsely : Prop := codeExactRow.holds Tryz.pinned (OpenSpec.ofChange codeExactWrong)

/-- 'headendlaw07.CodeBest': WHATEVER THE INPUT: true; the input reads as it did. -/
def codeBestSpec : ChangeSpec := { name := "codeBest", fn := fun _ => fun
  | [d1, d2, d3] => { results := [.lit (.bool true)], args := [d1, d2, d3] }
  | _ => none }
def codeBestRow : OpenClaim := { program := "ytenpkmgbaajeeaagreat", sum := "dd844e5bb38684d53654e7acb33591a8c026506bdd7ba46769f18cc51f820013", func := "headend/headendlaw07.CodeBest", spec := "codeBest", unfollowed := true, recurses := true, named := ["math/bits.overflowError"], apart := false }
def CodeBestSaid : Prop := codeBestRow.holds Tryz.pinned (OpenSpec.ofChange codeBestSpec)

/-- ITS FALSE NEIGHBOUR: 'it returns false'. Refute it at one input. -/
def codeBestWrong : ChangeSpec := { name := "codeBest", fn := fun _ => fun
  | [d1, d2, d3] => { results := [.lit (.bool false)], args := [d1, d2, d3] }
  | _ => none }
def CodeBestWrongFalsely : Prop := codeBestRow.holds Tryz.pinned (OpenSpec.ofChange codeBestWrong)

/-- 'headendlaw07.CodeInnocent': WHATEVER THE INPUT: true; the input reads as it did. -/
def codeInnocentSpec : ChangeSpec := { name := "codeInnocent", fn := fun _ => fun
  | [d1, d2] => { results := [.lit (.bool true)], args := [d1, d2] }
  | _ => none }
def codeInnocentRow : OpenClaim := { program := "ytenpkmgbaajeeaagreat", sum := "dd844e5bb38684d53654e7acb33591a8c026506bdd7ba46769f18cc51f820013", func := "headend/headendlaw07.CodeInnocent", spec := "codeInnocent", unfollowed := true, recurses := true, named := ["math/bits.overflowError"], apart := false }
def CodeInnocentSaid : Prop := codeInnocentRow.holds Tryz.pinned (OpenSpec.ofChange codeInnocentSpec)

/-- ITS FALSE NEIGHBOUR: 'it returns false'. Refute it at one input. -/
def codeInnocentWrong : ChangeSpec := { name := "codeInnocent", fn := fun _ => fun
  | [d1, d2] => { results := [.lit (.bool false)], args := [d1, d2] }
  | _ => none }
def CodeInnocentWrongFalsely : Prop := codeInnocentRow.holds Tryz.pinned (OpenSpec.ofChange codeInnocentWrong)

/-- 'headendlaw07.CodeThreshold': WHATEVER THE INPUT: true; the input reads as it did. -/
def codeThresholdSpec : ChangeSpec := { name := "codeThreshold", fn := fun _ => fun
  | [d1, d2] => { results := [.lit (.bool true)], args := [d1, d2] }
  | _ => none }
def codeThresholdRow : OpenClaim := { program := "ytenpkmgbaajeeaagreat", sum := "dd844e5bb38684d53654e7acb33591a8c026506bdd7ba46769f18cc51f820013", func := "headend/headendlaw07.CodeThreshold", spec := "codeThreshold", unfollowed := true, recurses := true, named := ["math/bits.overflowError"], apart := false }
def CodeThresholdSaid : Prop := codeThresholdRow.holds Tryz.pinned (OpenSpec.ofChange codeThresholdSpec)

/-- ITS FALSE NEIGHBOUR: 'it returns false'. Refute it at one input. -/
def codeThresholdWrong : ChangeSpec := { name := "codeThreshold", fn := fun _ => fun
  | [d1, d2] => { results := [.lit (.bool false)], args := [d1, d2] }
  | _ => none }
def CodeThresholdWrongFalsely : Prop := codeThresholdRow.holds Tryz.pinned (OpenSpec.ofChange codeThresholdWrong)

/-- 'headendlaw07.CodeLone': WHATEVER THE INPUT: true; the input reads as it did. -/
def codeLoneSpec : ChangeSpec := { name := "codeLone", fn := fun _ => fun
  | [d1, d2] => { results := [.lit (.bool true)], args := [d1, d2] }
  | _ => none }
def codeLoneRow : OpenClaim := { program := "ytenpkmgbaajeeaagreat", sum := "dd844e5bb38684d53654e7acb33591a8c026506bdd7ba46769f18cc51f820013", func := "headend/headendlaw07.CodeLone", spec := "codeLone", unfollowed := true, recurses := true, named := ["math/bits.overflowError"], apart := false }
def CodeLoneSaid : Prop := codeLoneRow.holds Tryz.pinned (OpenSpec.ofChange codeLoneSpec)

/-- ITS FALSE NEIGHBOUR: 'it returns false'. Refute it at one input. -/
def codeLoneWrong : ChangeSpec := { name := "codeLone", fn := fun _ => fun
  | [d1, d2] => { results := [.lit (.bool false)], args := [d1, d2] }
  | _ => none }
def CodeLoneWrongFalsely : Prop := codeLoneRow.holds Tryz.pinned (OpenSpec.ofChange codeLoneWrong)

/-- 'headendlaw07.CodeBound': WHATEVER THE INPUT: true; the input reads as it did. -/
def codeBoundSpec : ChangeSpec := { name := "codeBound", fn := fun _ => fun
  | [d1, d2, d3, d4] => { results := [.lit (.bool true)], args := [d1, d2, d3, d4] }
  | _ => none }
def codeBoundRow : OpenClaim := { program := "ytenpkmgbaajeeaagreat", sum := "dd844e5bb38684d53654e7acb33591a8c026506bdd7ba46769f18cc51f820013", func := "headend/headendlaw07.CodeBound", spec := "codeBound", unfollowed := true, recurses := true, named := ["math/bits.overflowError"], apart := false }
def CodeBoundSaid : Prop := codeBoundRow.holds Tryz.pinned (OpenSpec.ofChange codeBoundSpec)

/-- ITS FALSE NEIGHBOUR: 'it returns false'. Refute it at one input. -/
def codeBoundWrong : ChangeSpec := { name := "codeBound", fn := fun _ => fun
  | [d1, d2, d3, d4] => { results := [.lit (.bool false)], args := [d1, d2, d3, d4] }
  | _ => none }
def CodeBoundWrongFalsely : Prop := codeBoundRow.holds Tryz.pinned (OpenSpec.ofChange codeBoundWrong)

/-- 'headendlaw07.CodeSymmetric': WHATEVER THE INPUT: true; the input reads as it did. -/
def codeSymmetricSpec : ChangeSpec := { name := "codeSymmetric", fn := fun _ => fun
  | [d1, d2, d3] => { results := [.lit (.bool true)], args := [d1, d2, d3] }
  | _ => none }
def codeSymmetricRow : OpenClaim := { program := "ytenpkmgbaajeeaagreat", sum := "dd844e5bb38684d53654e7acb33591a8c026506bdd7ba46769f18cc51f820013", func := "headend/headendlaw07.CodeSymmetric", spec := "codeSymmetric", unfollowed := true, recurses := true, named := ["math/bits.overflowError"], apart := false }
def CodeSymmetricSaid : Prop := codeSymmetricRow.holds Tryz.pinned (OpenSpec.ofChange codeSymmetricSpec)

/-- ITS FALSE NEIGHBOUR: 'it returns false'. Refute it at one input. -/
def codeSymmetricWrong : ChangeSpec := { name := "codeSymmetric", fn := fun _ => fun
  | [d1, d2, d3] => { results := [.lit (.bool false)], args := [d1, d2, d3] }
  | _ => none }
def CodeSymmetricWrongFalsely : Prop := codeSymmetricRow.holds Tryz.pinned (OpenSpec.ofChange codeSymmetricWrong)

/-- 'headendlaw07.CodeExamples': WHATEVER THE INPUT: true; the input reads as it did. -/
def codeExamplesSpec : ChangeSpec := { name := "codeExamples", fn := fun _ => fun
  | [] => { results := [.lit (.bool true)], args := [] }
  | _ => none }
def codeExamplesRow : OpenClaim := { program := "ytenpkmgbaajeeaagreat", sum := "dd844e5bb38684d53654e7acb33591a8c026506bdd7ba46769f18cc51f820013", func := "headend/headendlaw07.CodeExamples", spec := "codeExamples", unfollowed := true, recurses := true, named := ["math/bits.overflowError"], apart := false }
def CodeExamplesSaid : Prop := codeExamplesRow.holds Tryz.pinned (OpenSpec.ofChange codeExamplesSpec)

/-- ITS FALSE NEIGHBOUR: 'it returns false'. Refute it at one input. -/
def codeExamplesWrong : ChangeSpec := { name := "codeExamples", fn := fun _ => fun
  | [] => { results := [.lit (.bool false)], args := [] }
  | _ => none }
def CodeExamplesWrongFalsely : Prop := codeExamplesRow.holds Tryz.pinned (OpenSpec.ofChange codeExamplesWrong)

/-- 'headendlaw07.CodeComplete': WHATEVER THE INPUT: true; the input reads as it did. -/
def codeCompleteSpec : ChangeSpec := { name := "codeComplete", fn := fun _ => fun
  | [d1, d2] => { results := [.lit (.bool true)], args := [d1, d2] }
  | _ => none }
def codeCompleteRow : OpenClaim := { program := "ytenpkmgbaajeeaagreat", sum := "dd844e5bb38684d53654e7acb33591a8c026506bdd7ba46769f18cc51f820013", func := "headend/headendlaw07.CodeComplete", spec := "codeComplete", unfollowed := true, recurses := true, named := ["math/bits.overflowError"], apart := false }
def CodeCompleteSaid : Prop := codeCompleteRow.holds Tryz.pinned (OpenSpec.ofChange codeCompleteSpec)

/-- ITS FALSE NEIGHBOUR: 'it returns false'. Refute it at one input. -/
def codeCompleteWrong : ChangeSpec := { name := "codeComplete", fn := fun _ => fun
  | [d1, d2] => { results := [.lit (.bool false)], args := [d1, d2] }
  | _ => none }
def CodeCompleteWrongFalsely : Prop := codeCompleteRow.holds Tryz.pinned (OpenSpec.ofChange codeCompleteWrong)

/-- 'headendlaw07.CodeEscapes': WHATEVER THE INPUT: true; the input reads as it did. -/
def codeEscapesSpec : ChangeSpec := { name := "codeEscapes", fn := fun _ => fun
  | [d] => { results := [.lit (.bool true)], args := [d] }
  | _ => none }
def codeEscapesRow : OpenClaim := { program := "ytenpkmgbaajeeaagreat", sum := "dd844e5bb38684d53654e7acb33591a8c026506bdd7ba46769f18cc51f820013", func := "headend/headendlaw07.CodeEscapes", spec := "codeEscapes", unfollowed := true, recurses := true, named := ["math/bits.overflowError"], apart := false }
def CodeEscapesSaid : Prop := codeEscapesRow.holds Tryz.pinned (OpenSpec.ofChange codeEscapesSpec)

/-- ITS FALSE NEIGHBOUR: 'it returns false'. Refute it at one input. -/
def codeEscapesWrong : ChangeSpec := { name := "codeEscapes", fn := fun _ => fun
  | [d] => { results := [.lit (.bool false)], args := [d] }
  | _ => none }
def CodeEscapesWrongFalsely : Prop := codeEscapesRow.holds Tryz.pinned (OpenSpec.ofChange codeEscapesWrong)

/-- 'headendlaw07.CodeTraces': WHATEVER THE INPUT: true; the input reads as it did. -/
def codeTracesSpec : ChangeSpec := { name := "codeTraces", fn := fun _ => fun
  | [d1, d2, d3, d4] => { results := [.lit (.bool true)], args := [d1, d2, d3, d4] }
  | _ => none }
def codeTracesRow : OpenClaim := { program := "ytenpkmgbaajeeaagreat", sum := "dd844e5bb38684d53654e7acb33591a8c026506bdd7ba46769f18cc51f820013", func := "headend/headendlaw07.CodeTraces", spec := "codeTraces", unfollowed := true, recurses := true, named := ["math/bits.overflowError"], apart := false }
def CodeTracesSaid : Prop := codeTracesRow.holds Tryz.pinned (OpenSpec.ofChange codeTracesSpec)

/-- ITS FALSE NEIGHBOUR: 'it returns false'. Refute it at one input. -/
def codeTracesWrong : ChangeSpec := { name := "codeTraces", fn := fun _ => fun
  | [d1, d2, d3, d4] => { results := [.lit (.bool false)], args := [d1, d2, d3, d4] }
  | _ => none }
def CodeTracesWrongFalsely : Prop := codeTracesRow.holds Tryz.pinned (OpenSpec.ofChange codeTracesWrong)

/-- 'headendlaw07.CodeTwoLevels': WHATEVER THE INPUT: true; the input reads as it did. -/
def codeTwoLevelsSpec : ChangeSpec := { name := "codeTwoLevels", fn := fun _ => fun
  | [d1, d2, d3, d4] => { results := [.lit (.bool true)], args := [d1, d2, d3, d4] }
  | _ => none }
def codeTwoLevelsRow : OpenClaim := { program := "ytenpkmgbaajeeaagreat", sum := "dd844e5bb38684d53654e7acb33591a8c026506bdd7ba46769f18cc51f820013", func := "headend/headendlaw07.CodeTwoLevels", spec := "codeTwoLevels", unfollowed := true, recurses := true, named := ["math/bits.overflowError"], apart := false }
def CodeTwoLevelsSaid : Prop := codeTwoLevelsRow.holds Tryz.pinned (OpenSpec.ofChange codeTwoLevelsSpec)

/-- ITS FALSE NEIGHBOUR: 'it returns false'. Refute it at one input. -/
def codeTwoLevelsWrong : ChangeSpec := { name := "codeTwoLevels", fn := fun _ => fun
  | [d1, d2, d3, d4] => { results := [.lit (.bool false)], args := [d1, d2, d3, d4] }
  | _ => none }
def CodeTwoLevelsWrongFalsely : Prop := codeTwoLevelsRow.holds Tryz.pinned (OpenSpec.ofChange codeTwoLevelsWrong)

/- THE SECOND FORM. 'bulk': how many values and letters a reading holds, each counted each time it is reached (what is shared counts as often as it is met; a slice's spare places count too). A statement '..UptoSaid' is the law's where the arguments, and the package variables that the reading takes, are together of bulk at most 1048576: NARROWER than '..Said'. Prove '..Said' where nothing that the law and all that it calls make is longer than what came in: it says more and counts as full. Else prove '..UptoSaid'. A law counts once. -/
mutual
def uptoBulk {H : Type} : DataW H → Nat
  | .lit (.string bytes) => bytes.length + 1
  | .lit _ => 1
  | .nil => 1
  | .ptr d => uptoBulk d + 1
  | .slice elems spare => uptoBulkAll elems + uptoBulkAll spare + 1
  | .agg parts => uptoBulkAll parts + 1
  | .iface _ d => uptoBulk d + 1
  | .map entries => uptoBulkEntries entries + 1
  | .held _ => 1
def uptoBulkAll {H : Type} : List (DataW H) → Nat
  | [] => 0
  | d :: r => uptoBulk d + uptoBulkAll r
def uptoBulkEntries {H : Type} : List (Lit × DataW H) → Nat
  | [] => 0
  | x :: r => uptoBulkEntry x + uptoBulkEntries r
def uptoBulkEntry {H : Type} : Lit × DataW H → Nat
  | (.string bytes, d) => bytes.length + uptoBulk d + 1
  | (_, d) => uptoBulk d + 1
 end
def uptoSmall : (H : Type) → List (DataW H) → Bool := fun _ ds => decide (uptoBulkAll ds ≤ 1048576)
def OpenSpec.upto (s : _root_.Go.ChangeSpec) : _root_.Go.OpenSpec := { _root_.Go.OpenSpec.ofChange s with cond := some uptoSmall }

/-- 'headendlaw07.CodeSteps', WHERE WHAT IT READS IS OF BULK AT MOST 1048576: true; the input reads as it did. -/
def codeStepsUptoRow : OpenClaim := { program := "ytenpkmgbaajeeaagreat", sum := "dd844e5bb38684d53654e7acb33591a8c026506bdd7ba46769f18cc51f820013", func := "headend/headendlaw07.CodeSteps", spec := "codeSteps", unfollowed := true, recurses := true, named := ["math/bits.overflowError"], apart := false, narrowed := true }
def CodeStepsUptoSaid : Prop := codeStepsUptoRow.holds Tryz.pinned (OpenSpec.upto codeStepsSpec)

/-- 'headendlaw07.CodeChances', WHERE WHAT IT READS IS OF BULK AT MOST 1048576: true; the input reads as it did. -/
def codeChancesUptoRow : OpenClaim := { program := "ytenpkmgbaajeeaagreat", sum := "dd844e5bb38684d53654e7acb33591a8c026506bdd7ba46769f18cc51f820013", func := "headend/headendlaw07.CodeChances", spec := "codeChances", unfollowed := true, recurses := true, named := ["math/bits.overflowError"], apart := false, narrowed := true }
def CodeChancesUptoSaid : Prop := codeChancesUptoRow.holds Tryz.pinned (OpenSpec.upto codeChancesSpec)

/-- 'headendlaw07.CodeLevels', WHERE WHAT IT READS IS OF BULK AT MOST 1048576: true; the input reads as it did. -/
def codeLevelsUptoRow : OpenClaim := { program := "ytenpkmgbaajeeaagreat", sum := "dd844e5bb38684d53654e7acb33591a8c026506bdd7ba46769f18cc51f820013", func := "headend/headendlaw07.CodeLevels", spec := "codeLevels", unfollowed := true, recurses := true, named := ["math/bits.overflowError"], apart := false, narrowed := true }
def CodeLevelsUptoSaid : Prop := codeLevelsUptoRow.holds Tryz.pinned (OpenSpec.upto codeLevelsSpec)

/-- 'headendlaw07.CodeEnds', WHERE WHAT IT READS IS OF BULK AT MOST 1048576: true; the input reads as it did. -/
def codeEndsUptoRow : OpenClaim := { program := "ytenpkmgbaajeeaagreat", sum := "dd844e5bb38684d53654e7acb33591a8c026506bdd7ba46769f18cc51f820013", func := "headend/headendlaw07.CodeEnds", spec := "codeEnds", unfollowed := true, recurses := true, named := ["math/bits.overflowError"], apart := false, narrowed := true }
def CodeEndsUptoSaid : Prop := codeEndsUptoRow.holds Tryz.pinned (OpenSpec.upto codeEndsSpec)

/-- 'headendlaw07.CodeExact', WHERE WHAT IT READS IS OF BULK AT MOST 1048576: true; the input reads as it did. -/
def codeExactUptoRow : OpenClaim := { program := "ytenpkmgbaajeeaagreat", sum := "dd844e5bb38684d53654e7acb33591a8c026506bdd7ba46769f18cc51f820013", func := "headend/headendlaw07.CodeExact", spec := "codeExact", unfollowed := true, recurses := true, named := ["math/bits.overflowError"], apart := false, narrowed := true }
def CodeExactUptoSaid : Prop := codeExactUptoRow.holds Tryz.pinned (OpenSpec.upto codeExactSpec)

/-- 'headendlaw07.CodeBest', WHERE WHAT IT READS IS OF BULK AT MOST 1048576: true; the input reads as it did. -/
def codeBestUptoRow : OpenClaim := { program := "ytenpkmgbaajeeaagreat", sum := "dd844e5bb38684d53654e7acb33591a8c026506bdd7ba46769f18cc51f820013", func := "headend/headendlaw07.CodeBest", spec := "codeBest", unfollowed := true, recurses := true, named := ["math/bits.overflowError"], apart := false, narrowed := true }
def CodeBestUptoSaid : Prop := codeBestUptoRow.holds Tryz.pinned (OpenSpec.upto codeBestSpec)

/-- 'headendlaw07.CodeInnocent', WHERE WHAT IT READS IS OF BULK AT MOST 1048576: true; the input reads as it did. -/
def codeInnocentUptoRow : OpenClaim := { program := "ytenpkmgbaajeeaagreat", sum := "dd844e5bb38684d53654e7acb33591a8c026506bdd7ba46769f18cc51f820013", func := "headend/headendlaw07.CodeInnocent", spec := "codeInnocent", unfollowed := true, recurses := true, named := ["math/bits.overflowError"], apart := false, narrowed := true }
def CodeInnocentUptoSaid : Prop := codeInnocentUptoRow.holds Tryz.pinned (OpenSpec.upto codeInnocentSpec)

/-- 'headendlaw07.CodeThreshold', WHERE WHAT IT READS IS OF BULK AT MOST 1048576: true; the input reads as it did. -/
def codeThresholdUptoRow : OpenClaim := { program := "ytenpkmgbaajeeaagreat", sum := "dd844e5bb38684d53654e7acb33591a8c026506bdd7ba46769f18cc51f820013", func := "headend/headendlaw07.CodeThreshold", spec := "codeThreshold", unfollowed := true, recurses := true, named := ["math/bits.overflowError"], apart := false, narrowed := true }
def CodeThresholdUptoSaid : Prop := codeThresholdUptoRow.holds Tryz.pinned (OpenSpec.upto codeThresholdSpec)

/-- 'headendlaw07.CodeLone', WHERE WHAT IT READS IS OF BULK AT MOST 1048576: true; the input reads as it did. -/
def codeLoneUptoRow : OpenClaim := { program := "ytenpkmgbaajeeaagreat", sum := "dd844e5bb38684d53654e7acb33591a8c026506bdd7ba46769f18cc51f820013", func := "headend/headendlaw07.CodeLone", spec := "codeLone", unfollowed := true, recurses := true, named := ["math/bits.overflowError"], apart := false, narrowed := true }
def CodeLoneUptoSaid : Prop := codeLoneUptoRow.holds Tryz.pinned (OpenSpec.upto codeLoneSpec)

/-- 'headendlaw07.CodeBound', WHERE WHAT IT READS IS OF BULK AT MOST 1048576: true; the input reads as it did. -/
def codeBoundUptoRow : OpenClaim := { program := "ytenpkmgbaajeeaagreat", sum := "dd844e5bb38684d53654e7acb33591a8c026506bdd7ba46769f18cc51f820013", func := "headend/headendlaw07.CodeBound", spec := "codeBound", unfollowed := true, recurses := true, named := ["math/bits.overflowError"], apart := false, narrowed := true }
def CodeBoundUptoSaid : Prop := codeBoundUptoRow.holds Tryz.pinned (OpenSpec.upto codeBoundSpec)

/-- 'headendlaw07.CodeSymmetric', WHERE WHAT IT READS IS OF BULK AT MOST 1048576: true; the input reads as it did. -/
def codeSymmetricUptoRow : OpenClaim := { program := "ytenpkmgbaajeeaagreat", sum := "dd844e5bb38684d53654e7acb33591a8c026506bdd7ba46769f18cc51f820013", func := "headend/headendlaw07.CodeSymmetric", spec := "codeSymmetric", unfollowed := true, recurses := true, named := ["math/bits.overflowError"], apart := false, narrowed := true }
def CodeSymmetricUptoSaid : Prop := codeSymmetricUptoRow.holds Tryz.pinned (OpenSpec.upto codeSymmetricSpec)

/-- 'headendlaw07.CodeExamples', WHERE WHAT IT READS IS OF BULK AT MOST 1048576: true; the input reads as it did. -/
def codeExamplesUptoRow : OpenClaim := { program := "ytenpkmgbaajeeaagreat", sum := "dd844e5bb38684d53654e7acb33591a8c026506bdd7ba46769f18cc51f820013", func := "headend/headendlaw07.CodeExamples", spec := "codeExamples", unfollowed := true, recurses := true, named := ["math/bits.overflowError"], apart := false, narrowed := true }
def CodeExamplesUptoSaid : Prop := codeExamplesUptoRow.holds Tryz.pinned (OpenSpec.upto codeExamplesSpec)

/-- 'headendlaw07.CodeComplete', WHERE WHAT IT READS IS OF BULK AT MOST 1048576: true; the input reads as it did. -/
def codeCompleteUptoRow : OpenClaim := { program := "ytenpkmgbaajeeaagreat", sum := "dd844e5bb38684d53654e7acb33591a8c026506bdd7ba46769f18cc51f820013", func := "headend/headendlaw07.CodeComplete", spec := "codeComplete", unfollowed := true, recurses := true, named := ["math/bits.overflowError"], apart := false, narrowed := true }
def CodeCompleteUptoSaid : Prop := codeCompleteUptoRow.holds Tryz.pinned (OpenSpec.upto codeCompleteSpec)

/-- 'headendlaw07.CodeEscapes', WHERE WHAT IT READS IS OF BULK AT MOST 1048576: true; the input reads as it did. -/
def codeEscapesUptoRow : OpenClaim := { program := "ytenpkmgbaajeeaagreat", sum := "dd844e5bb38684d53654e7acb33591a8c026506bdd7ba46769f18cc51f820013", func := "headend/headendlaw07.CodeEscapes", spec := "codeEscapes", unfollowed := true, recurses := true, named := ["math/bits.overflowError"], apart := false, narrowed := true }
def CodeEscapesUptoSaid : Prop := codeEscapesUptoRow.holds Tryz.pinned (OpenSpec.upto codeEscapesSpec)

/-- 'headendlaw07.CodeTraces', WHERE WHAT IT READS IS OF BULK AT MOST 1048576: true; the input reads as it did. -/
def codeTracesUptoRow : OpenClaim := { program := "ytenpkmgbaajeeaagreat", sum := "dd844e5bb38684d53654e7acb33591a8c026506bdd7ba46769f18cc51f820013", func := "headend/headendlaw07.CodeTraces", spec := "codeTraces", unfollowed := true, recurses := true, named := ["math/bits.overflowError"], apart := false, narrowed := true }
def CodeTracesUptoSaid : Prop := codeTracesUptoRow.holds Tryz.pinned (OpenSpec.upto codeTracesSpec)

/-- 'headendlaw07.CodeTwoLevels', WHERE WHAT IT READS IS OF BULK AT MOST 1048576: true; the input reads as it did. -/
def codeTwoLevelsUptoRow : OpenClaim := { program := "ytenpkmgbaajeeaagreat", sum := "dd844e5bb38684d53654e7acb33591a8c026506bdd7ba46769f18cc51f820013", func := "headend/headendlaw07.CodeTwoLevels", spec := "codeTwoLevels", unfollowed := true, recurses := true, named := ["math/bits.overflowError"], apart := false, narrowed := true }
def CodeTwoLevelsUptoSaid : Prop := codeTwoLevelsUptoRow.holds Tryz.pinned (OpenSpec.upto codeTwoLevelsSpec)

end Rows
end Go.Proofs.YtenpkmgbaajeeaaGreat
