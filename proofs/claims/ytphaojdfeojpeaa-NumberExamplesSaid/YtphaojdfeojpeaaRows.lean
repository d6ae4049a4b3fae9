/-
  No cell of these rows narrows 'for every input' (looked for: loops, veiled, ifaces, maps, wideKeys, modest, calm, conditions, laid).
  DERIVED. THE GIVEN ROWS OF THIS SEAT. 16 by the template 'for every input the law returns true; each argument reads behind the call as it read before'; 0 by the template 'total and deterministic' (their statements: YtphaojdfeojpeaaTotals.lean).
  GIVEN WITH THE SEED: the statements are not yours to turn. If you find one false, say at which input.
  Laid BY PROGRAM, IN A SANDBOX (cutbox-rows.mjs): the forced cells as the released guide's own fill.sh prints them over the translation 5096060e94459d34… (all of the seat's roots in one cut). By AI agents, Wed Nov 11 2026. No macro, syntax, notation, axiom, sorry.
-/
import Derived.Test.YtphaojdfeojpeaaChecked
import GoSem.Claim
import GoSem.ClaimJoined
import GoSem.ClaimMapViews
import Derived.JoinedTies
import Derived.KernelRfl
namespace Go.Proofs.Ytphaojdfeojpeaa
/- THE CELL 'sum', in the pinned program and in every row, IS THE sha256 OF THE DUMP (.gsa) THAT YtphaojdfeojpeaaProg.lean LOADS. Nothing in Lean hashes anything: it is a label: what it is worth is what the hold of that sum in a sandbox is worth. -/
noncomputable def Try.pinned : Pinned := { name := "ytphaojdfeojpeaa", sum := "5096060e94459d34cc4ffb52d5889324f69360f540054fc29a3d996183f03cc5", checked := Try.checked }
namespace Rows
def none {H : Type} : Left H := { results := [], args := [] }

/-- 'headendlaw01.NumberModular': WHATEVER THE INPUT: true; the input reads as it did. -/
def numberModularSpec : ChangeSpec := { name := "numberModular", fn := fun _ => fun
  | [d1, d2, d3] => { results := [.lit (.bool true)], args := [d1, d2, d3] }
  | _ => none }
def numberModularRow : OpenClaim := { program := "ytphaojdfeojpeaa", sum := "5096060e94459d34cc4ffb52d5889324f69360f540054fc29a3d996183f03cc5", func := "headend/headendlaw01.NumberModular", spec := "numberModular", apart := false }
def NumberModularSaid : Prop := numberModularRow.holds Try.pinned (OpenSpec.ofChange numberModularSpec)

/-- ITS FALSE NEIGHBOUR: 'it returns false'. Refute it at one input. -/
def numberModularWrong : ChangeSpec := { name := "numberModular", fn := fun _ => fun
  | [d1, d2, d3] => { results := [.lit (.bool false)], args := [d1, d2, d3] }
  | _ => none }
def NumberModularWrongFalsely : Prop := numberModularRow.holds Try.pinned (OpenSpec.ofChange numberModularWrong)

/-- 'headendlaw01.NumberGroups': WHATEVER THE INPUT: true; the input reads as it did. -/
def numberGroupsSpec : ChangeSpec := { name := "numberGroups", fn := fun _ => fun
  | [d1, d2] => { results := [.lit (.bool true)], args := [d1, d2] }
  | _ => none }
def numberGroupsRow : OpenClaim := { program := "ytphaojdfeojpeaa", sum := "5096060e94459d34cc4ffb52d5889324f69360f540054fc29a3d996183f03cc5", func := "headend/headendlaw01.NumberGroups", spec := "numberGroups", apart := false }
def NumberGroupsSaid : Prop := numberGroupsRow.holds Try.pinned (OpenSpec.ofChange numberGroupsSpec)

/-- ITS FALSE NEIGHBOUR: 'it returns false'. Refute it at one input. -/
def numberGroupsWrong : ChangeSpec := { name := "numberGroups", fn := fun _ => fun
  | [d1, d2] => { results := [.lit (.bool false)], args := [d1, d2] }
  | _ => none }
def NumberGroupsWrongFalsely : Prop := numberGroupsRow.holds Try.pinned (OpenSpec.ofChange numberGroupsWrong)

/-- 'headendlaw01.NumberTexts': WHATEVER THE INPUT: true; the input reads as it did. -/
def numberTextsSpec : ChangeSpec := { name := "numberTexts", fn := fun _ => fun
  | [d1, d2, d3] => { results := [.lit (.bool true)], args := [d1, d2, d3] }
  | _ => none }
def numberTextsRow : OpenClaim := { program := "ytphaojdfeojpeaa", sum := "5096060e94459d34cc4ffb52d5889324f69360f540054fc29a3d996183f03cc5", func := "headend/headendlaw01.NumberTexts", spec := "numberTexts", unfollowed := true, recurses := true, named := ["math/bits.overflowError"], apart := false }
def NumberTextsSaid : Prop := numberTextsRow.holds Try.pinned (OpenSpec.ofChange numberTextsSpec)

/-- ITS FALSE NEIGHBOUR: 'it returns false'. Refute it at one input. -/
def numberTextsWrong : ChangeSpec := { name := "numberTexts", fn := fun _ => fun
  | [d1, d2, d3] => { results := [.lit (.bool false)], args := [d1, d2, d3] }
  | _ => none }
def NumberTextsWrongFalsely : Prop := numberTextsRow.holds Try.pinned (OpenSpec.ofChange numberTextsWrong)

/-- 'headendlaw01.NumberFractions': WHATEVER THE INPUT: true; the input reads as it did. -/
def numberFractionsSpec : ChangeSpec := { name := "numberFractions", fn := fun _ => fun
  | [d1, d2, d3, d4] => { results := [.lit (.bool true)], args := [d1, d2, d3, d4] }
  | _ => none }
def numberFractionsRow : OpenClaim := { program := "ytphaojdfeojpeaa", sum := "5096060e94459d34cc4ffb52d5889324f69360f540054fc29a3d996183f03cc5", func := "headend/headendlaw01.NumberFractions", spec := "numberFractions", unfollowed := true, recurses := true, named := ["math/bits.overflowError"], apart := false }
def NumberFractionsSaid : Prop := numberFractionsRow.holds Try.pinned (OpenSpec.ofChange numberFractionsSpec)

/-- ITS FALSE NEIGHBOUR: 'it returns false'. Refute it at one input. -/
def numberFractionsWrong : ChangeSpec := { name := "numberFractions", fn := fun _ => fun
  | [d1, d2, d3, d4] => { results := [.lit (.bool false)], args := [d1, d2, d3, d4] }
  | _ => none }
def NumberFractionsWrongFalsely : Prop := numberFractionsRow.holds Try.pinned (OpenSpec.ofChange numberFractionsWrong)

/-- 'headendlaw01.NumberNaturals': WHATEVER THE INPUT: true; the input reads as it did. -/
def numberNaturalsSpec : ChangeSpec := { name := "numberNaturals", fn := fun _ => fun
  | [d1, d2] => { results := [.lit (.bool true)], args := [d1, d2] }
  | _ => none }
def numberNaturalsRow : OpenClaim := { program := "ytphaojdfeojpeaa", sum := "5096060e94459d34cc4ffb52d5889324f69360f540054fc29a3d996183f03cc5", func := "headend/headendlaw01.NumberNaturals", spec := "numberNaturals", unfollowed := true, recurses := true, named := ["math/bits.overflowError"], apart := false }
def NumberNaturalsSaid : Prop := numberNaturalsRow.holds Try.pinned (OpenSpec.ofChange numberNaturalsSpec)

/-- ITS FALSE NEIGHBOUR: 'it returns false'. Refute it at one input. -/
def numberNaturalsWrong : ChangeSpec := { name := "numberNaturals", fn := fun _ => fun
  | [d1, d2] => { results := [.lit (.bool false)], args := [d1, d2] }
  | _ => none }
def NumberNaturalsWrongFalsely : Prop := numberNaturalsRow.holds Try.pinned (OpenSpec.ofChange numberNaturalsWrong)

/-- 'headendlaw01.NumberRing': WHATEVER THE INPUT: true; the input reads as it did. -/
def numberRingSpec : ChangeSpec := { name := "numberRing", fn := fun _ => fun
  | [d1, d2, d3] => { results := [.lit (.bool true)], args := [d1, d2, d3] }
  | _ => none }
def numberRingRow : OpenClaim := { program := "ytphaojdfeojpeaa", sum := "5096060e94459d34cc4ffb52d5889324f69360f540054fc29a3d996183f03cc5", func := "headend/headendlaw01.NumberRing", spec := "numberRing", unfollowed := true, recurses := true, named := ["math/bits.overflowError"], apart := false }
def NumberRingSaid : Prop := numberRingRow.holds Try.pinned (OpenSpec.ofChange numberRingSpec)

/-- ITS FALSE NEIGHBOUR: 'it returns false'. Refute it at one input. -/
def numberRingWrong : ChangeSpec := { name := "numberRing", fn := fun _ => fun
  | [d1, d2, d3] => { results := [.lit (.bool false)], args := [d1, d2, d3] }
  | _ => none }
def NumberRingWrongFalsely : Prop := numberRingRow.holds Try.pinned (OpenSpec.ofChange numberRingWrong)

/-- 'headendlaw01.NumberCommon': WHATEVER THE INPUT: true; the input reads as it did. -/
def numberCommonSpec : ChangeSpec := { name := "numberCommon", fn := fun _ => fun
  | [d1, d2, d3] => { results := [.lit (.bool true)], args := [d1, d2, d3] }
  | _ => none }
def numberCommonRow : OpenClaim := { program := "ytphaojdfeojpeaa", sum := "5096060e94459d34cc4ffb52d5889324f69360f540054fc29a3d996183f03cc5", func := "headend/headendlaw01.NumberCommon", spec := "numberCommon", unfollowed := true, recurses := true, named := ["math/bits.overflowError"], apart := false }
def NumberCommonSaid : Prop := numberCommonRow.holds Try.pinned (OpenSpec.ofChange numberCommonSpec)

/-- ITS FALSE NEIGHBOUR: 'it returns false'. Refute it at one input. -/
def numberCommonWrong : ChangeSpec := { name := "numberCommon", fn := fun _ => fun
  | [d1, d2, d3] => { results := [.lit (.bool false)], args := [d1, d2, d3] }
  | _ => none }
def NumberCommonWrongFalsely : Prop := numberCommonRow.holds Try.pinned (OpenSpec.ofChange numberCommonWrong)

/-- 'headendlaw01.NumberPower': WHATEVER THE INPUT: true; the input reads as it did. -/
def numberPowerSpec : ChangeSpec := { name := "numberPower", fn := fun _ => fun
  | [d1, d2, d3, d4] => { results := [.lit (.bool true)], args := [d1, d2, d3, d4] }
  | _ => none }
def numberPowerRow : OpenClaim := { program := "ytphaojdfeojpeaa", sum := "5096060e94459d34cc4ffb52d5889324f69360f540054fc29a3d996183f03cc5", func := "headend/headendlaw01.NumberPower", spec := "numberPower", unfollowed := true, recurses := true, named := ["math/bits.overflowError"], apart := false }
def NumberPowerSaid : Prop := numberPowerRow.holds Try.pinned (OpenSpec.ofChange numberPowerSpec)

/-- ITS FALSE NEIGHBOUR: 'it returns false'. Refute it at one input. -/
def numberPowerWrong : ChangeSpec := { name := "numberPower", fn := fun _ => fun
  | [d1, d2, d3, d4] => { results := [.lit (.bool false)], args := [d1, d2, d3, d4] }
  | _ => none }
def NumberPowerWrongFalsely : Prop := numberPowerRow.holds Try.pinned (OpenSpec.ofChange numberPowerWrong)

/-- 'headendlaw01.NumberInverse': WHATEVER THE INPUT: true; the input reads as it did. -/
def numberInverseSpec : ChangeSpec := { name := "numberInverse", fn := fun _ => fun
  | [d1, d2] => { results := [.lit (.bool true)], args := [d1, d2] }
  | _ => none }
def numberInverseRow : OpenClaim := { program := "ytphaojdfeojpeaa", sum := "5096060e94459d34cc4ffb52d5889324f69360f540054fc29a3d996183f03cc5", func := "headend/headendlaw01.NumberInverse", spec := "numberInverse", unfollowed := true, recurses := true, named := ["math/bits.overflowError"], apart := false }
def NumberInverseSaid : Prop := numberInverseRow.holds Try.pinned (OpenSpec.ofChange numberInverseSpec)

/-- ITS FALSE NEIGHBOUR: 'it returns false'. Refute it at one input. -/
def numberInverseWrong : ChangeSpec := { name := "numberInverse", fn := fun _ => fun
  | [d1, d2] => { results := [.lit (.bool false)], args := [d1, d2] }
  | _ => none }
def NumberInverseWrongFalsely : Prop := numberInverseRow.holds Try.pinned (OpenSpec.ofChange numberInverseWrong)

/-- 'headendlaw01.NumberElements': WHATEVER THE INPUT: true; the input reads as it did. -/
def numberElementsSpec : ChangeSpec := { name := "numberElements", fn := fun _ => fun
  | [d1, d2, d3] => { results := [.lit (.bool true)], args := [d1, d2, d3] }
  | _ => none }
def numberElementsRow : OpenClaim := { program := "ytphaojdfeojpeaa", sum := "5096060e94459d34cc4ffb52d5889324f69360f540054fc29a3d996183f03cc5", func := "headend/headendlaw01.NumberElements", spec := "numberElements", unfollowed := true, recurses := true, named := ["math/bits.overflowError"], apart := false }
def NumberElementsSaid : Prop := numberElementsRow.holds Try.pinned (OpenSpec.ofChange numberElementsSpec)

/-- ITS FALSE NEIGHBOUR: 'it returns false'. Refute it at one input. -/
def numberElementsWrong : ChangeSpec := { name := "numberElements", fn := fun _ => fun
  | [d1, d2, d3] => { results := [.lit (.bool false)], args := [d1, d2, d3] }
  | _ => none }
def NumberElementsWrongFalsely : Prop := numberElementsRow.holds Try.pinned (OpenSpec.ofChange numberElementsWrong)

/-- 'headendlaw01.NumberPrime': WHATEVER THE INPUT: true; the input reads as it did. -/
def numberPrimeSpec : ChangeSpec := { name := "numberPrime", fn := fun _ => fun
  | [d1, d2] => { results := [.lit (.bool true)], args := [d1, d2] }
  | _ => none }
def numberPrimeRow : OpenClaim := { program := "ytphaojdfeojpeaa", sum := "5096060e94459d34cc4ffb52d5889324f69360f540054fc29a3d996183f03cc5", func := "headend/headendlaw01.NumberPrime", spec := "numberPrime", unfollowed := true, recurses := true, named := ["math/bits.overflowError"], apart := false }
def NumberPrimeSaid : Prop := numberPrimeRow.holds Try.pinned (OpenSpec.ofChange numberPrimeSpec)

/-- ITS FALSE NEIGHBOUR: 'it returns false'. Refute it at one input. -/
def numberPrimeWrong : ChangeSpec := { name := "numberPrime", fn := fun _ => fun
  | [d1, d2] => { results := [.lit (.bool false)], args := [d1, d2] }
  | _ => none }
def NumberPrimeWrongFalsely : Prop := numberPrimeRow.holds Try.pinned (OpenSpec.ofChange numberPrimeWrong)

/-- 'headendlaw01.NumberDivides': WHATEVER THE INPUT: true; the input reads as it did. -/
def numberDividesSpec : ChangeSpec := { name := "numberDivides", fn := fun _ => fun
  | [d1, d2] => { results := [.lit (.bool true)], args := [d1, d2] }
  | _ => none }
def numberDividesRow : OpenClaim := { program := "ytphaojdfeojpeaa", sum := "5096060e94459d34cc4ffb52d5889324f69360f540054fc29a3d996183f03cc5", func := "headend/headendlaw01.NumberDivides", spec := "numberDivides", unfollowed := true, recurses := true, named := ["math/bits.overflowError"], apart := false }
def NumberDividesSaid : Prop := numberDividesRow.holds Try.pinned (OpenSpec.ofChange numberDividesSpec)

/-- ITS FALSE NEIGHBOUR: 'it returns false'. Refute it at one input. -/
def numberDividesWrong : ChangeSpec := { name := "numberDivides", fn := fun _ => fun
  | [d1, d2] => { results := [.lit (.bool false)], args := [d1, d2] }
  | _ => none }
def NumberDividesWrongFalsely : Prop := numberDividesRow.holds Try.pinned (OpenSpec.ofChange numberDividesWrong)

/-- 'headendlaw01.NumberTextBack': WHATEVER THE INPUT: true; the input reads as it did. -/
def numberTextBackSpec : ChangeSpec := { name := "numberTextBack", fn := fun _ => fun
  | [d1, d2] => { results := [.lit (.bool true)], args := [d1, d2] }
  | _ => none }
def numberTextBackRow : OpenClaim := { program := "ytphaojdfeojpeaa", sum := "5096060e94459d34cc4ffb52d5889324f69360f540054fc29a3d996183f03cc5", func := "headend/headendlaw01.NumberTextBack", spec := "numberTextBack", unfollowed := true, recurses := true, named := ["math/bits.overflowError"], apart := false }
def NumberTextBackSaid : Prop := numberTextBackRow.holds Try.pinned (OpenSpec.ofChange numberTextBackSpec)

/-- ITS FALSE NEIGHBOUR: 'it returns false'. Refute it at one input. -/
def numberTextBackWrong : ChangeSpec := { name := "numberTextBack", fn := fun _ => fun
  | [d1, d2] => { results := [.lit (.bool false)], args := [d1, d2] }
  | _ => none }
def NumberTextBackWrongFalsely : Prop := numberTextBackRow.holds Try.pinned (OpenSpec.ofChange numberTextBackWrong)

/-- 'headendlaw01.NumberBack': WHATEVER THE INPUT: true; the input reads as it did. -/
def numberBackSpec : ChangeSpec := { name := "numberBack", fn := fun _ => fun
  | [d1, d2] => { results := [.lit (.bool true)], args := [d1, d2] }
  | _ => none }
def numberBackRow : OpenClaim := { program := "ytphaojdfeojpeaa", sum := "5096060e94459d34cc4ffb52d5889324f69360f540054fc29a3d996183f03cc5", func := "headend/headendlaw01.NumberBack", spec := "numberBack", unfollowed := true, recurses := true, named := ["math/bits.overflowError"], apart := false }
def NumberBackSaid : Prop := numberBackRow.holds Try.pinned (OpenSpec.ofChange numberBackSpec)

/-- ITS FALSE NEIGHBOUR: 'it returns false'. Refute it at one input. -/
def numberBackWrong : ChangeSpec := { name := "numberBack", fn := fun _ => fun
  | [d1, d2] => { results := [.lit (.bool false)], args := [d1, d2] }
  | _ => none }
def NumberBackWrongFalsely : Prop := numberBackRow.holds Try.pinned (OpenSpec.ofChange numberBackWrong)

/-- 'headendlaw01.NumberRatio': WHATEVER THE INPUT: true; the input reads as it did. -/
def numberRatioSpec : ChangeSpec := { name := "numberRatio", fn := fun _ => fun
  | [d1, d2, d3, d4] => { results := [.lit (.bool true)], args := [d1, d2, d3, d4] }
  | _ => none }
def numberRatioRow : OpenClaim := { program := "ytphaojdfeojpeaa", sum := "5096060e94459d34cc4ffb52d5889324f69360f540054fc29a3d996183f03cc5", func := "headend/headendlaw01.NumberRatio", spec := "numberRatio", unfollowed := true, recurses := true, named := ["math/bits.overflowError"], apart := false }
def NumberRatioSaid : Prop := numberRatioRow.holds Try.pinned (OpenSpec.ofChange numberRatioSpec)

/-- ITS FALSE NEIGHBOUR: 'it returns false'. Refute it at one input. -/
def numberRatioWrong : ChangeSpec := { name := "numberRatio", fn := fun _ => fun
  | [d1, d2, d3, d4] => { results := [.lit (.bool false)], args := [d1, d2, d3, d4] }
  | _ => none }
def NumberRatioWrongFalsely : Prop := numberRatioRow.holds Try.pinned (OpenSpec.ofChange numberRatioWrong)

/-- 'headendlaw01.NumberExamples': WHATEVER THE INPUT: true; the input reads as it did. -/
def numberExamplesSpec : ChangeSpec := { name := "numberExamples", fn := fun _ => fun
  | [] => { results := [.lit (.bool true)], args := [] }
  | _ => none }
def numberExamplesRow : OpenClaim := { program := "ytphaojdfeojpeaa", sum := "5096060e94459d34cc4ffb52d5889324f69360f540054fc29a3d996183f03cc5", func := "headend/headendlaw01.NumberExamples", spec := "numberExamples", unfollowed := true, recurses := true, named := ["math/bits.overflowError"], apart := false }
def NumberExamplesSaid : Prop := numberExamplesRow.holds Try.pinned (OpenSpec.ofChange numberExamplesSpec)

/-- ITS FALSE NEIGHBOUR: 'it returns false'. Refute it at one input. -/
def numberExamplesWrong : ChangeSpec := { name := "numberExamples", fn := fun _ => fun
  | [] => { results := [.lit (.bool false)], args := [] }
  | _ => none }
def NumberExamplesWrongFalsely : Prop := numberExamplesRow.holds Try.pinned (OpenSpec.ofChange numberExamplesWrong)

/- THE SECOND FORM. 'bulk': how many values and letters a reading holds, each counted each time it is reached (what is shared counts as often as it is met; a slice's spare places count too). A statement '..UptoSaid' is the law's where the arguments, and the package variables that the reading takes, are together of bulk at most 1048576: NARROWER than '..Said'. Prove '..Said' where nothing that the law and all that it calls make is longer than what came in: it says more and counts as full. Else prove '..UptoSaid'. A law counts once. -/
mutual
def uptoBulk {H : Type} : DataW H → Nat
  | .lit (.string bytes) => bytes.length + 1
  | .lit _ => 1
  | .nil => 1
  | .ptr d => uptoBulk d + 1
  | .slice elems spare => uptoBulkAll elems + uptoBulkAll spare + 1
  | .agg parts => uptoBulkAll parts + 1
  | .iface _ d => uptoBulk d + 1
  | .map entries => uptoBulkEntries entries + 1
  | .held _ => 1
def uptoBulkAll {H : Type} : List (DataW H) → Nat
  | [] => 0
  | d :: r => uptoBulk d + uptoBulkAll r
def uptoBulkEntries {H : Type} : List (Lit × DataW H) → Nat
  | [] => 0
  | x :: r => uptoBulkEntry x + uptoBulkEntries r
def uptoBulkEntry {H : Type} : Lit × DataW H → Nat
  | (.string bytes, d) => bytes.length + uptoBulk d + 1
  | (_, d) => uptoBulk d + 1
 end
def uptoSmall : (H : Type) → List (DataW H) → Bool := fun _ ds => decide (uptoBulkAll ds ≤ 1048576)
def OpenSpec.upto (s : _root_.Go.ChangeSpec) : _root_.Go.OpenSpec := { _root_.Go.OpenSpec.ofChange s with cond := some uptoSmall }

/-- 'headendlaw01.NumberModular', WHERE WHAT IT READS IS OF BULK AT MOST 1048576: true; the input reads as it did. -/
def numberModularUptoRow : OpenClaim := { program := "ytphaojdfeojpeaa", sum := "5096060e94459d34cc4ffb52d5889324f69360f540054fc29a3d996183f03cc5", func := "headend/headendlaw01.NumberModular", spec := "numberModular", apart := false, narrowed := true }
def NumberModularUptoSaid : Prop := numberModularUptoRow.holds Try.pinned (OpenSpec.upto numberModularSpec)

/-- 'headendlaw01.NumberGroups', WHERE WHAT IT READS IS OF BULK AT MOST 1048576: true; the input reads as it did. -/
def numberGroupsUptoRow : OpenClaim := { program := "ytphaojdfeojpeaa", sum := "5096060e94459d34cc4ffb52d5889324f69360f540054fc29a3d996183f03cc5", func := "headend/headendlaw01.NumberGroups", spec := "numberGroups", apart := false, narrowed := true }
def NumberGroupsUptoSaid : Prop := numberGroupsUptoRow.holds Try.pinned (OpenSpec.upto numberGroupsSpec)

/-- 'headendlaw01.NumberTexts', WHERE WHAT IT READS IS OF BULK AT MOST 1048576: true; the input reads as it did. -/
def numberTextsUptoRow : OpenClaim := { program := "ytphaojdfeojpeaa", sum := "5096060e94459d34cc4ffb52d5889324f69360f540054fc29a3d996183f03cc5", func := "headend/headendlaw01.NumberTexts", spec := "numberTexts", unfollowed := true, recurses := true, named := ["math/bits.overflowError"], apart := false, narrowed := true }
def NumberTextsUptoSaid : Prop := numberTextsUptoRow.holds Try.pinned (OpenSpec.upto numberTextsSpec)

/-- 'headendlaw01.NumberFractions', WHERE WHAT IT READS IS OF BULK AT MOST 1048576: true; the input reads as it did. -/
def numberFractionsUptoRow : OpenClaim := { program := "ytphaojdfeojpeaa", sum := "5096060e94459d34cc4ffb52d5889324f69360f540054fc29a3d996183f03cc5", func := "headend/headendlaw01.NumberFractions", spec := "numberFractions", unfollowed := true, recurses := true, named := ["math/bits.overflowError"], apart := false, narrowed := true }
def NumberFractionsUptoSaid : Prop := numberFractionsUptoRow.holds Try.pinned (OpenSpec.upto numberFractionsSpec)

/-- 'headendlaw01.NumberNaturals', WHERE WHAT IT READS IS OF BULK AT MOST 1048576: true; the input reads as it did. -/
def numberNaturalsUptoRow : OpenClaim := { program := "ytphaojdfeojpeaa", sum := "5096060e94459d34cc4ffb52d5889324f69360f540054fc29a3d996183f03cc5", func := "headend/headendlaw01.NumberNaturals", spec := "numberNaturals", unfollowed := true, recurses := true, named := ["math/bits.overflowError"], apart := false, narrowed := true }
def NumberNaturalsUptoSaid : Prop := numberNaturalsUptoRow.holds Try.pinned (OpenSpec.upto numberNaturalsSpec)

/-- 'headendlaw01.NumberRing', WHERE WHAT IT READS IS OF BULK AT MOST 1048576: true; the input reads as it did. -/
def numberRingUptoRow : OpenClaim := { program := "ytphaojdfeojpeaa", sum := "5096060e94459d34cc4ffb52d5889324f69360f540054fc29a3d996183f03cc5", func := "headend/headendlaw01.NumberRing", spec := "numberRing", unfollowed := true, recurses := true, named := ["math/bits.overflowError"], apart := false, narrowed := true }
def NumberRingUptoSaid : Prop := numberRingUptoRow.holds Try.pinned (OpenSpec.upto numberRingSpec)

/-- 'headendlaw01.NumberCommon', WHERE WHAT IT READS IS OF BULK AT MOST 1048576: true; the input reads as it did. -/
def numberCommonUptoRow : OpenClaim := { program := "ytphaojdfeojpeaa", sum := "5096060e94459d34cc4ffb52d5889324f69360f540054fc29a3d996183f03cc5", func := "headend/headendlaw01.NumberCommon", spec := "numberCommon", unfollowed := true, recurses := true, named := ["math/bits.overflowError"], apart := false, narrowed := true }
def NumberCommonUptoSaid : Prop := numberCommonUptoRow.holds Try.pinned (OpenSpec.upto numberCommonSpec)

/-- 'headendlaw01.NumberPower', WHERE WHAT IT READS IS OF BULK AT MOST 1048576: true; the input reads as it did. -/
def numberPowerUptoRow : OpenClaim := { program := "ytphaojdfeojpeaa", sum := "5096060e94459d34cc4ffb52d5889324f69360f540054fc29a3d996183f03cc5", func := "headend/headendlaw01.NumberPower", spec := "numberPower", unfollowed := true, recurses := true, named := ["math/bits.overflowError"], apart := false, narrowed := true }
def NumberPowerUptoSaid : Prop := numberPowerUptoRow.holds Try.pinned (OpenSpec.upto numberPowerSpec)

/-- 'headendlaw01.NumberInverse', WHERE WHAT IT READS IS OF BULK AT MOST 1048576: true; the input reads as it did. -/
def numberInverseUptoRow : OpenClaim := { program := "ytphaojdfeojpeaa", sum := "5096060e94459d34cc4ffb52d5889324f69360f540054fc29a3d996183f03cc5", func := "headend/headendlaw01.NumberInverse", spec := "numberInverse", unfollowed := true, recurses := true, named := ["math/bits.overflowError"], apart := false, narrowed := true }
def NumberInverseUptoSaid : Prop := numberInverseUptoRow.holds Try.pinned (OpenSpec.upto numberInverseSpec)

/-- 'headendlaw01.NumberElements', WHERE WHAT IT READS IS OF BULK AT MOST 1048576: true; the input reads as it did. -/
def numberElementsUptoRow : OpenClaim := { program := "ytphaojdfeojpeaa", sum := "5096060e94459d34cc4ffb52d5889324f69360f540054fc29a3d996183f03cc5", func := "headend/headendlaw01.NumberElements", spec := "numberElements", unfollowed := true, recurses := true, named := ["math/bits.overflowError"], apart := false, narrowed := true }
def NumberElementsUptoSaid : Prop := numberElementsUptoRow.holds Try.pinned (OpenSpec.upto numberElementsSpec)

/-- 'headendlaw01.NumberPrime', WHERE WHAT IT READS IS OF BULK AT MOST 1048576: true; the input reads as it did. -/
def numberPrimeUptoRow : OpenClaim := { program := "ytphaojdfeojpeaa", sum := "5096060e94459d34cc4ffb52d5889324f69360f540054fc29a3d996183f03cc5", func := "headend/headendlaw01.NumberPrime", spec := "numberPrime", unfollowed := true, recurses := true, named := ["math/bits.overflowError"], apart := false, narrowed := true }
def NumberPrimeUptoSaid : Prop := numberPrimeUptoRow.holds Try.pinned (OpenSpec.upto numberPrimeSpec)

/-- 'headendlaw01.NumberDivides', WHERE WHAT IT READS IS OF BULK AT MOST 1048576: true; the input reads as it did. -/
def numberDividesUptoRow : OpenClaim := { program := "ytphaojdfeojpeaa", sum := "5096060e94459d34cc4ffb52d5889324f69360f540054fc29a3d996183f03cc5", func := "headend/headendlaw01.NumberDivides", spec := "numberDivides", unfollowed := true, recurses := true, named := ["math/bits.overflowError"], apart := false, narrowed := true }
def NumberDividesUptoSaid : Prop := numberDividesUptoRow.holds Try.pinned (OpenSpec.upto numberDividesSpec)

/-- 'headendlaw01.NumberTextBack', WHERE WHAT IT READS IS OF BULK AT MOST 1048576: true; the input reads as it did. -/
def numberTextBackUptoRow : OpenClaim := { program := "ytphaojdfeojpeaa", sum := "5096060e94459d34cc4ffb52d5889324f69360f540054fc29a3d996183f03cc5", func := "headend/headendlaw01.NumberTextBack", spec := "numberTextBack", unfollowed := true, recurses := true, named := ["math/bits.overflowError"], apart := false, narrowed := true }
def NumberTextBackUptoSaid : Prop := numberTextBackUptoRow.holds Try.pinned (OpenSpec.upto numberTextBackSpec)

/-- 'headendlaw01.NumberBack', WHERE WHAT IT READS IS OF BULK AT MOST 1048576: true; the input reads as it did. -/
def numberBackUptoRow : OpenClaim := { program := "ytphaojdfeojpeaa", sum := "5096060e94459d34cc4ffb52d5889324f69360f540054fc29a3d996183f03cc5", func := "headend/headendlaw01.NumberBack", spec := "numberBack", unfollowed := true, recurses := true, named := ["math/bits.overflowError"], apart := false, narrowed := true }
def NumberBackUptoSaid : Prop := numberBackUptoRow.holds Try.pinned (OpenSpec.upto numberBackSpec)

/-- 'headendlaw01.NumberRatio', WHERE WHAT IT READS IS OF BULK AT MOST 1048576: true; the input reads as it did. -/
def numberRatioUptoRow : OpenClaim := { program := "ytphaojdfeojpeaa", sum := "5096060e94459d34cc4ffb52d5889324f69360f540054fc29a3d996183f03cc5", func := "headend/headendlaw01.NumberRatio", spec := "numberRatio", unfollowed := true, recurses := true, named := ["math/bits.overflowError"], apart := false, narrowed := true }
def NumberRatioUptoSaid : Prop := numberRatioUptoRow.holds Try.pinned (OpenSpec.upto numberRatioSpec)

/-- 'headendlaw01.NumberExamples', WHERE WHAT IT READS IS OF BULK AT MOST 1048576: true; the input reads as it did. -/
def numberExamplesUptoRow : OpenClaim := { program := "ytphaojdfeojpeaa", sum := "5096060e94459d34cc4ffb52d5889324f69360f540054fc29a3d996183f03cc5", func := "headend/headendlaw01.NumberExamples", spec := "numberExamples", unfollowed := true, recurses := true, named := ["math/bits.overflowError"], apart := false, narrowed := true }
def NumberExamplesUptoSaid : Prop := numberExamplesUptoRow.holds Try.pinned (OpenSpec.upto numberExamplesSpec)

end Rows
end Go.Proofs.Ytphaojdfeojpeaa
