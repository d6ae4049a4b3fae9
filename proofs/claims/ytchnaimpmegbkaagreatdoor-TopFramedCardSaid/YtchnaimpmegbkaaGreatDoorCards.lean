/-
  DERIVED. GIVEN WITH THE SEED: THE CARDS: each row of YtchnaimpmegbkaaGreatDoorRows.lean that lists a variable, with what it lists TIED to the program's text (the seventh form; the later family's looks); each row that meets fmt, with fmt's text TOLD by the authors' own Lean function (tested against real Go, not proved from fmt's source: count such statements apart). THE CARD IS WHAT COUNTS. Prove the row's statement (the work); the ties are given (YtchnaimpmegbkaaGreatDoorTie.lean); close each card by the builder's one call (the guide's Derived/Test/ToyasCard.lean, 'card_holds'). Laid BY PROGRAM, IN A SANDBOX (cutbox-door.mjs). By AI agents, Wed Nov 11 2026. No macro, syntax, notation, axiom, sorry.
-/
import Derived.Test.YtchnaimpmegbkaaGreatDoorRows
import GoSem.ClaimSeven
namespace Go.Proofs.YtchnaimpmegbkaaGreatDoor
namespace Rows

/-- THE TIED CARD OF 'headendtop.TopStated'. -/
def topStatedCard : Claim7 := { stood := { row := topStatedRow, standIns := [], harness := (true, "028fa3664bbbaa352fda1539a17be6028480120bc162b60440e1b32a6a0ebc0e"), looks := false }, kinds := [], alts := [], laidByText := true, laidKinds := [.funcs], laidTests := true, laidLooks := .later }
def TopStatedCardSaid : Prop := Claim7.holds Tryz.pinned (.plain (OpenSpec.ofChange topStatedSpec)) topStatedCard

/-- THE TIED CARD OF 'headendtop.TopFramed'. -/
def topFramedCard : Claim7 := { stood := { row := topFramedRow, standIns := [], harness := (true, "028fa3664bbbaa352fda1539a17be6028480120bc162b60440e1b32a6a0ebc0e"), looks := false }, kinds := [], alts := [], laidByText := true, laidKinds := [.funcs], laidTests := true, laidLooks := .later }
def TopFramedCardSaid : Prop := Claim7.holds Tryz.pinned (.plain (OpenSpec.ofChange topFramedSpec)) topFramedCard

/-- THE SECOND FORM's CARD OF 'headendtop.TopStated'. -/
def topStatedUptoCard : Claim7 := { stood := { row := topStatedUptoRow, standIns := [], harness := (true, "028fa3664bbbaa352fda1539a17be6028480120bc162b60440e1b32a6a0ebc0e"), looks := false }, kinds := [], alts := [], laidByText := true, laidKinds := [.funcs], laidTests := true, laidLooks := .later }
def TopStatedUptoCardSaid : Prop := Claim7.holds Tryz.pinned (.plain (OpenSpec.upto topStatedSpec)) topStatedUptoCard

/-- THE SECOND FORM's CARD OF 'headendtop.TopFramed'. -/
def topFramedUptoCard : Claim7 := { stood := { row := topFramedUptoRow, standIns := [], harness := (true, "028fa3664bbbaa352fda1539a17be6028480120bc162b60440e1b32a6a0ebc0e"), looks := false }, kinds := [], alts := [], laidByText := true, laidKinds := [.funcs], laidTests := true, laidLooks := .later }
def TopFramedUptoCardSaid : Prop := Claim7.holds Tryz.pinned (.plain (OpenSpec.upto topFramedSpec)) topFramedUptoCard
end Rows
end Go.Proofs.YtchnaimpmegbkaaGreatDoor
