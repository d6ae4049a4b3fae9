/-
  NARROWER THAN 'FOR EVERY INPUT', by the rows' own cells (each row's printed sentence says how): TopStated: laid · TopFramed: laid.
  DERIVED. THE GIVEN ROWS OF THIS SEAT. 2 by the template 'for every input the law returns true; each argument reads behind the call as it read before'; 0 by the template 'total and deterministic' (their statements: YtchnaimpmegbkaaGreatDoorTotals.lean).
  GIVEN WITH THE SEED: the statements are not yours to turn. If you find one false, say at which input.
  Laid BY PROGRAM, IN A SANDBOX (cutbox-rows.mjs): the forced cells as the released guide's own fill.sh prints them over the translation 1673db35bae2e4f7… (all of the seat's roots in one cut). By AI agents, Wed Nov 11 2026. No macro, syntax, notation, axiom, sorry.
-/
import Derived.Test.YtchnaimpmegbkaaGreatDoorChecked
import GoSem.Claim
import GoSem.ClaimJoined
import GoSem.ClaimMapViews
import Derived.JoinedTies
import Derived.KernelRfl
namespace Go.Proofs.YtchnaimpmegbkaaGreatDoor
/- THE CELL 'sum', in the pinned program and in every row, IS THE sha256 OF THE DUMP (.gsa) THAT YtchnaimpmegbkaaGreatDoorProg.lean LOADS. Nothing in Lean hashes anything: it is a label: what it is worth is what the hold of that sum in a sandbox is worth. -/
noncomputable def Tryz.pinned : Pinned := { name := "ytchnaimpmegbkaagreatdoor", sum := "1673db35bae2e4f755da55b8e47067d77681867e4a080df39ce424248101e1e1", checked := Tryz.checked }
namespace Rows
def none {H : Type} : Left H := { results := [], args := [] }

/- WHAT THE LISTED PACKAGE-LEVEL VARIABLES READ AS WHEN THE CALL BEGINS. Each datum BY PROGRAM (the guide's laid-datum.mjs) off the statement by which the dump's own 'gosem.cut.vars' lays the variable. In a bare row this is a premise. The card (YtchnaimpmegbkaaGreatDoorCards.lean) ties it to the program's text. -/
def laid_headend_audit_tests {H : Type} : DataW H := .iface "func table" (.agg [.agg [.lit (.int .u8 1), .iface "func" (.lit (.string [104, 101, 97, 100, 101, 110, 100, 47, 97, 117, 100, 105, 116, 46, 116, 101, 115, 116, 115, 36, 49]))], .agg [.lit (.int .u8 2), .iface "func" (.lit (.string [104, 101, 97, 100, 101, 110, 100, 47, 97, 117, 100, 105, 116, 46, 116, 101, 115, 116, 115, 36, 50]))], .agg [.lit (.int .u8 4), .iface "func" (.lit (.string [104, 101, 97, 100, 101, 110, 100, 47, 97, 117, 100, 105, 116, 46, 116, 101, 115, 116, 115, 36, 51]))]])

/-- 'headendtop.TopStated': WHATEVER THE INPUT: true; the input reads as it did. -/
def topStatedSpec : ChangeSpec := { name := "topStated", fn := fun _ => fun
  | [d1, d2, d3, d4, d5, d6, d7, d8, d9] => { results := [.lit (.bool true)], args := [d1, d2, d3, d4, d5, d6, d7, d8, d9] }
  | _ => none }
def topStatedRow : OpenClaim := { program := "ytchnaimpmegbkaagreatdoor", sum := "1673db35bae2e4f755da55b8e47067d77681867e4a080df39ce424248101e1e1", func := "headend/headendtop.TopStated", spec := "topStated", unfollowed := true, recurses := true, named := ["math/bits.overflowError", "headend/audit.tests"], apart := false, laid := [("headend/audit.tests", laid_headend_audit_tests)] }
def TopStatedSaid : Prop := topStatedRow.holds Tryz.pinned (OpenSpec.ofChange topStatedSpec)

/-- ITS FALSE NEIGHBOUR: 'it returns false'. Refute it at one input. -/
def topStatedWrong : ChangeSpec := { name := "topStated", fn := fun _ => fun
  | [d1, d2, d3, d4, d5, d6, d7, d8, d9] => { results := [.lit (.bool false)], args := [d1, d2, d3, d4, d5, d6, d7, d8, d9] }
  | _ => none }
def TopStatedWrongFalsely : Prop := topStatedRow.holds Tryz.pinned (OpenSpec.ofChange topStatedWrong)

/-- 'headendtop.TopFramed': WHATEVER THE INPUT: true; the input reads as it did. -/
def topFramedSpec : ChangeSpec := { name := "topFramed", fn := fun _ => fun
  | [d1, d2, d3, d4, d5, d6] => { results := [.lit (.bool true)], args := [d1, d2, d3, d4, d5, d6] }
  | _ => none }
def topFramedRow : OpenClaim := { program := "ytchnaimpmegbkaagreatdoor", sum := "1673db35bae2e4f755da55b8e47067d77681867e4a080df39ce424248101e1e1", func := "headend/headendtop.TopFramed", spec := "topFramed", unfollowed := true, recurses := true, named := ["math/bits.overflowError", "headend/audit.tests"], apart := false, laid := [("headend/audit.tests", laid_headend_audit_tests)] }
def TopFramedSaid : Prop := topFramedRow.holds Tryz.pinned (OpenSpec.ofChange topFramedSpec)

/-- ITS FALSE NEIGHBOUR: 'it returns false'. Refute it at one input. -/
def topFramedWrong : ChangeSpec := { name := "topFramed", fn := fun _ => fun
  | [d1, d2, d3, d4, d5, d6] => { results := [.lit (.bool false)], args := [d1, d2, d3, d4, d5, d6] }
  | _ => none }
def TopFramedWrongFalsely : Prop := topFramedRow.holds Tryz.pinned (OpenSpec.ofChange topFramedWrong)

/- THE SECOND FORM. 'bulk': how many values and letters a reading holds, each counted each time it is reached (what is shared counts as often as it is met; a slice's spare places count too). A statement '..UptoSaid' is the law's where the arguments, and the package variables that the reading takes, are together of bulk at most 1048576: NARROWER than '..Said'. Prove '..Said' where nothing that the law and all that it calls make is longer than what came in: it says more and counts as full. Else prove '..UptoSaid'. A law counts once. -/
mutual
def uptoBulk {H : Type} : DataW H → Nat
  | .lit (.string bytes) => bytes.length + 1
  | .lit _ => 1
  | .nil => 1
  | .ptr d => uptoBulk d + 1
  | .slice elems spare => uptoBulkAll elems + uptoBulkAll spare + 1
  | .agg parts => uptoBulkAll parts + 1
  | .iface _ d => uptoBulk d + 1
  | .map entries => uptoBulkEntries entries + 1
  | .held _ => 1
def uptoBulkAll {H : Type} : List (DataW H) → Nat
  | [] => 0
  | d :: r => uptoBulk d + uptoBulkAll r
def uptoBulkEntries {H : Type} : List (Lit × DataW H) → Nat
  | [] => 0
  | x :: r => uptoBulkEntry x + uptoBulkEntries r
def uptoBulkEntry {H : Type} : Lit × DataW H → Nat
  | (.string bytes, d) => bytes.length + uptoBulk d + 1
  | (_, d) => uptoBulk d + 1
 end
def uptoSmall : (H : Type) → List (DataW H) → Bool := fun _ ds => decide (uptoBulkAll ds ≤ 1048576)
def OpenSpec.upto (s : _root_.Go.ChangeSpec) : _root_.Go.OpenSpec := { _root_.Go.OpenSpec.ofChange s with cond := some uptoSmall }

/-- 'headendtop.TopStated', WHERE WHAT IT READS IS OF BULK AT MOST 1048576: true; the input reads as it did. -/
def topStatedUptoRow : OpenClaim := { program := "ytchnaimpmegbkaagreatdoor", sum := "1673db35bae2e4f755da55b8e47067d77681867e4a080df39ce424248101e1e1", func := "headend/headendtop.TopStated", spec := "topStated", unfollowed := true, recurses := true, named := ["math/bits.overflowError", "headend/audit.tests"], apart := false, laid := [("headend/audit.tests", laid_headend_audit_tests)], narrowed := true }
def TopStatedUptoSaid : Prop := topStatedUptoRow.holds Tryz.pinned (OpenSpec.upto topStatedSpec)

/-- 'headendtop.TopFramed', WHERE WHAT IT READS IS OF BULK AT MOST 1048576: true; the input reads as it did. -/
def topFramedUptoRow : OpenClaim := { program := "ytchnaimpmegbkaagreatdoor", sum := "1673db35bae2e4f755da55b8e47067d77681867e4a080df39ce424248101e1e1", func := "headend/headendtop.TopFramed", spec := "topFramed", unfollowed := true, recurses := true, named := ["math/bits.overflowError", "headend/audit.tests"], apart := false, laid := [("headend/audit.tests", laid_headend_audit_tests)], narrowed := true }
def TopFramedUptoSaid : Prop := topFramedUptoRow.holds Tryz.pinned (OpenSpec.upto topFramedSpec)

end Rows
end Go.Proofs.YtchnaimpmegbkaaGreatDoor
