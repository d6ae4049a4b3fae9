/-
  DERIVED. GIVEN WITH THE SEED: THE CARDS: each row of YtinpiodfpnbllaaGreatDoorRows.lean that lists a variable, with what it lists TIED to the program's text (the seventh form; the later family's looks); each row that meets fmt, with fmt's text TOLD by the authors' own Lean function (tested against real Go, not proved from fmt's source: count such statements apart). THE CARD IS WHAT COUNTS. Prove the row's statement (the work); the ties are given (YtinpiodfpnbllaaGreatDoorTie.lean); close each card by the builder's one call (the guide's Derived/Test/ToyasCard.lean, 'card_holds'). Laid BY PROGRAM, IN A SANDBOX (cutbox-door.mjs). By AI agents, Wed Nov 11 2026. No macro, syntax, notation, axiom, sorry.
-/
import Derived.Test.YtinpiodfpnbllaaGreatDoorRows
import GoSem.ClaimSeven
namespace Go.Proofs.YtinpiodfpnbllaaGreatDoor
namespace Rows

/-- THE TIED CARD OF 'headendlaw09.AuditJudges'. -/
def auditJudgesCard : Claim7 := { stood := { row := auditJudgesRow, standIns := [], harness := (true, "2901c6eb5b6e3f098c8e32eed9b07388e7f8d6b06a063b91237500368d955201"), looks := false }, kinds := [], alts := [], laidByText := true, laidKinds := [.funcs], laidTests := true, laidLooks := .later }
def AuditJudgesCardSaid : Prop := Claim7.holds Tryz.pinned (.plain (OpenSpec.ofChange auditJudgesSpec)) auditJudgesCard

/-- THE TIED CARD OF 'headendlaw09.AuditProved'. -/
def auditProvedCard : Claim7 := { stood := { row := auditProvedRow, standIns := [], harness := (true, "2901c6eb5b6e3f098c8e32eed9b07388e7f8d6b06a063b91237500368d955201"), looks := false }, kinds := [], alts := [], laidByText := true, laidKinds := [.funcs], laidTests := true, laidLooks := .later }
def AuditProvedCardSaid : Prop := Claim7.holds Tryz.pinned (.plain (OpenSpec.ofChange auditProvedSpec)) auditProvedCard

/-- THE TIED CARD OF 'headendlaw09.AuditMerged'. -/
def auditMergedCard : Claim7 := { stood := { row := auditMergedRow, standIns := [], harness := (true, "2901c6eb5b6e3f098c8e32eed9b07388e7f8d6b06a063b91237500368d955201"), looks := false }, kinds := [], alts := [], laidByText := true, laidKinds := [.funcs], laidTests := true, laidLooks := .later }
def AuditMergedCardSaid : Prop := Claim7.holds Tryz.pinned (.plain (OpenSpec.ofChange auditMergedSpec)) auditMergedCard

/-- THE TIED CARD OF 'headendlaw09.AuditHonest'. -/
def auditHonestCard : Claim7 := { stood := { row := auditHonestRow, standIns := [], harness := (true, "2901c6eb5b6e3f098c8e32eed9b07388e7f8d6b06a063b91237500368d955201"), looks := false }, kinds := [], alts := [], laidByText := true, laidKinds := [.funcs], laidTests := true, laidLooks := .later }
def AuditHonestCardSaid : Prop := Claim7.holds Tryz.pinned (.plain (OpenSpec.ofChange auditHonestSpec)) auditHonestCard

/-- THE TIED CARD OF 'headendlaw09.AuditShare'. -/
def auditShareCard : Claim7 := { stood := { row := auditShareRow, standIns := [], harness := (true, "2901c6eb5b6e3f098c8e32eed9b07388e7f8d6b06a063b91237500368d955201"), looks := false }, kinds := [], alts := [], laidByText := true, laidKinds := [.funcs], laidTests := true, laidLooks := .later }
def AuditShareCardSaid : Prop := Claim7.holds Tryz.pinned (.plain (OpenSpec.ofChange auditShareSpec)) auditShareCard

/-- THE TIED CARD OF 'headendlaw09.AuditOpenings'. -/
def auditOpeningsCard : Claim7 := { stood := { row := auditOpeningsRow, standIns := [], harness := (true, "2901c6eb5b6e3f098c8e32eed9b07388e7f8d6b06a063b91237500368d955201"), looks := false }, kinds := [], alts := [], laidByText := true, laidKinds := [.funcs], laidTests := true, laidLooks := .later }
def AuditOpeningsCardSaid : Prop := Claim7.holds Tryz.pinned (.plain (OpenSpec.ofChange auditOpeningsSpec)) auditOpeningsCard

/-- THE TIED CARD OF 'headendlaw09.AuditBound'. -/
def auditBoundCard : Claim7 := { stood := { row := auditBoundRow, standIns := [], harness := (true, "2901c6eb5b6e3f098c8e32eed9b07388e7f8d6b06a063b91237500368d955201"), looks := false }, kinds := [], alts := [], laidByText := true, laidKinds := [.funcs], laidTests := true, laidLooks := .later }
def AuditBoundCardSaid : Prop := Claim7.holds Tryz.pinned (.plain (OpenSpec.ofChange auditBoundSpec)) auditBoundCard

/-- THE TIED CARD OF 'headendlaw09.AuditPruned'. -/
def auditPrunedCard : Claim7 := { stood := { row := auditPrunedRow, standIns := [], harness := (true, "2901c6eb5b6e3f098c8e32eed9b07388e7f8d6b06a063b91237500368d955201"), looks := false }, kinds := [], alts := [], laidByText := true, laidKinds := [.funcs], laidTests := true, laidLooks := .later }
def AuditPrunedCardSaid : Prop := Claim7.holds Tryz.pinned (.plain (OpenSpec.ofChange auditPrunedSpec)) auditPrunedCard

/-- THE TIED CARD OF 'headendlaw09.AuditPrefix'. -/
def auditPrefixCard : Claim7 := { stood := { row := auditPrefixRow, standIns := [], harness := (true, "2901c6eb5b6e3f098c8e32eed9b07388e7f8d6b06a063b91237500368d955201"), looks := false }, kinds := [], alts := [], laidByText := true, laidKinds := [.funcs], laidTests := true, laidLooks := .later }
def AuditPrefixCardSaid : Prop := Claim7.holds Tryz.pinned (.plain (OpenSpec.ofChange auditPrefixSpec)) auditPrefixCard

/-- THE TIED CARD OF 'headendlaw09.AuditOtherKey'. -/
def auditOtherKeyCard : Claim7 := { stood := { row := auditOtherKeyRow, standIns := [], harness := (true, "2901c6eb5b6e3f098c8e32eed9b07388e7f8d6b06a063b91237500368d955201"), looks := false }, kinds := [], alts := [], laidByText := true, laidKinds := [.funcs], laidTests := true, laidLooks := .later }
def AuditOtherKeyCardSaid : Prop := Claim7.holds Tryz.pinned (.plain (OpenSpec.ofChange auditOtherKeySpec)) auditOtherKeyCard

/-- THE TIED CARD OF 'headendlaw09.AuditGrown'. -/
def auditGrownCard : Claim7 := { stood := { row := auditGrownRow, standIns := [], harness := (true, "2901c6eb5b6e3f098c8e32eed9b07388e7f8d6b06a063b91237500368d955201"), looks := false }, kinds := [], alts := [], laidByText := true, laidKinds := [.funcs], laidTests := true, laidLooks := .later }
def AuditGrownCardSaid : Prop := Claim7.holds Tryz.pinned (.plain (OpenSpec.ofChange auditGrownSpec)) auditGrownCard

/-- THE TIED CARD OF 'headendlaw09.AuditAbsent'. -/
def auditAbsentCard : Claim7 := { stood := { row := auditAbsentRow, standIns := [], harness := (true, "2901c6eb5b6e3f098c8e32eed9b07388e7f8d6b06a063b91237500368d955201"), looks := false }, kinds := [], alts := [], laidByText := true, laidKinds := [.funcs], laidTests := true, laidLooks := .later }
def AuditAbsentCardSaid : Prop := Claim7.holds Tryz.pinned (.plain (OpenSpec.ofChange auditAbsentSpec)) auditAbsentCard

/-- THE TIED CARD OF 'headendlaw09.AuditRekeyed'. -/
def auditRekeyedCard : Claim7 := { stood := { row := auditRekeyedRow, standIns := [], harness := (true, "2901c6eb5b6e3f098c8e32eed9b07388e7f8d6b06a063b91237500368d955201"), looks := false }, kinds := [], alts := [], laidByText := true, laidKinds := [.funcs], laidTests := true, laidLooks := .later }
def AuditRekeyedCardSaid : Prop := Claim7.holds Tryz.pinned (.plain (OpenSpec.ofChange auditRekeyedSpec)) auditRekeyedCard

/-- THE TIED CARD OF 'headendlaw09.AuditEither'. -/
def auditEitherCard : Claim7 := { stood := { row := auditEitherRow, standIns := [], harness := (true, "2901c6eb5b6e3f098c8e32eed9b07388e7f8d6b06a063b91237500368d955201"), looks := false }, kinds := [], alts := [], laidByText := true, laidKinds := [.funcs], laidTests := true, laidLooks := .later }
def AuditEitherCardSaid : Prop := Claim7.holds Tryz.pinned (.plain (OpenSpec.ofChange auditEitherSpec)) auditEitherCard

/-- THE TIED CARD OF 'headendlaw09.AuditExamples'. -/
def auditExamplesCard : Claim7 := { stood := { row := auditExamplesRow, standIns := [], harness := (true, "2901c6eb5b6e3f098c8e32eed9b07388e7f8d6b06a063b91237500368d955201"), looks := false }, kinds := [], alts := [], laidByText := true, laidKinds := [.funcs], laidTests := true, laidLooks := .later }
def AuditExamplesCardSaid : Prop := Claim7.holds Tryz.pinned (.plain (OpenSpec.ofChange auditExamplesSpec)) auditExamplesCard

/-- THE SECOND FORM's CARD OF 'headendlaw09.AuditJudges'. -/
def auditJudgesUptoCard : Claim7 := { stood := { row := auditJudgesUptoRow, standIns := [], harness := (true, "2901c6eb5b6e3f098c8e32eed9b07388e7f8d6b06a063b91237500368d955201"), looks := false }, kinds := [], alts := [], laidByText := true, laidKinds := [.funcs], laidTests := true, laidLooks := .later }
def AuditJudgesUptoCardSaid : Prop := Claim7.holds Tryz.pinned (.plain (OpenSpec.upto auditJudgesSpec)) auditJudgesUptoCard

/-- THE SECOND FORM's CARD OF 'headendlaw09.AuditProved'. -/
def auditProvedUptoCard : Claim7 := { stood := { row := auditProvedUptoRow, standIns := [], harness := (true, "2901c6eb5b6e3f098c8e32eed9b07388e7f8d6b06a063b91237500368d955201"), looks := false }, kinds := [], alts := [], laidByText := true, laidKinds := [.funcs], laidTests := true, laidLooks := .later }
def AuditProvedUptoCardSaid : Prop := Claim7.holds Tryz.pinned (.plain (OpenSpec.upto auditProvedSpec)) auditProvedUptoCard

/-- THE SECOND FORM's CARD OF 'headendlaw09.AuditMerged'. -/
def auditMergedUptoCard : Claim7 := { stood := { row := auditMergedUptoRow, standIns := [], harness := (true, "2901c6eb5b6e3f098c8e32eed9b07388e7f8d6b06a063b91237500368d955201"), looks := false }, kinds := [], alts := [], laidByText := true, laidKinds := [.funcs], laidTests := true, laidLooks := .later }
def AuditMergedUptoCardSaid : Prop := Claim7.holds Tryz.pinned (.plain (OpenSpec.upto auditMergedSpec)) auditMergedUptoCard

/-- THE SECOND FORM's CARD OF 'headendlaw09.AuditHonest'. -/
def auditHonestUptoCard : Claim7 := { stood := { row := auditHonestUptoRow, standIns := [], harness := (true, "2901c6eb5b6e3f098c8e32eed9b07388e7f8d6b06a063b91237500368d955201"), looks := false }, kinds := [], alts := [], laidByText := true, laidKinds := [.funcs], laidTests := true, laidLooks := .later }
def AuditHonestUptoCardSaid : Prop := Claim7.holds Tryz.pinned (.plain (OpenSpec.upto auditHonestSpec)) auditHonestUptoCard

/-- THE SECOND FORM's CARD OF 'headendlaw09.AuditShare'. -/
def auditShareUptoCard : Claim7 := { stood := { row := auditShareUptoRow, standIns := [], harness := (true, "2901c6eb5b6e3f098c8e32eed9b07388e7f8d6b06a063b91237500368d955201"), looks := false }, kinds := [], alts := [], laidByText := true, laidKinds := [.funcs], laidTests := true, laidLooks := .later }
def AuditShareUptoCardSaid : Prop := Claim7.holds Tryz.pinned (.plain (OpenSpec.upto auditShareSpec)) auditShareUptoCard

/-- THE SECOND FORM's CARD OF 'headendlaw09.AuditOpenings'. -/
def auditOpeningsUptoCard : Claim7 := { stood := { row := auditOpeningsUptoRow, standIns := [], harness := (true, "2901c6eb5b6e3f098c8e32eed9b07388e7f8d6b06a063b91237500368d955201"), looks := false }, kinds := [], alts := [], laidByText := true, laidKinds := [.funcs], laidTests := true, laidLooks := .later }
def AuditOpeningsUptoCardSaid : Prop := Claim7.holds Tryz.pinned (.plain (OpenSpec.upto auditOpeningsSpec)) auditOpeningsUptoCard

/-- THE SECOND FORM's CARD OF 'headendlaw09.AuditBound'. -/
def auditBoundUptoCard : Claim7 := { stood := { row := auditBoundUptoRow, standIns := [], harness := (true, "2901c6eb5b6e3f098c8e32eed9b07388e7f8d6b06a063b91237500368d955201"), looks := false }, kinds := [], alts := [], laidByText := true, laidKinds := [.funcs], laidTests := true, laidLooks := .later }
def AuditBoundUptoCardSaid : Prop := Claim7.holds Tryz.pinned (.plain (OpenSpec.upto auditBoundSpec)) auditBoundUptoCard

/-- THE SECOND FORM's CARD OF 'headendlaw09.AuditPruned'. -/
def auditPrunedUptoCard : Claim7 := { stood := { row := auditPrunedUptoRow, standIns := [], harness := (true, "2901c6eb5b6e3f098c8e32eed9b07388e7f8d6b06a063b91237500368d955201"), looks := false }, kinds := [], alts := [], laidByText := true, laidKinds := [.funcs], laidTests := true, laidLooks := .later }
def AuditPrunedUptoCardSaid : Prop := Claim7.holds Tryz.pinned (.plain (OpenSpec.upto auditPrunedSpec)) auditPrunedUptoCard

/-- THE SECOND FORM's CARD OF 'headendlaw09.AuditPrefix'. -/
def auditPrefixUptoCard : Claim7 := { stood := { row := auditPrefixUptoRow, standIns := [], harness := (true, "2901c6eb5b6e3f098c8e32eed9b07388e7f8d6b06a063b91237500368d955201"), looks := false }, kinds := [], alts := [], laidByText := true, laidKinds := [.funcs], laidTests := true, laidLooks := .later }
def AuditPrefixUptoCardSaid : Prop := Claim7.holds Tryz.pinned (.plain (OpenSpec.upto auditPrefixSpec)) auditPrefixUptoCard

/-- THE SECOND FORM's CARD OF 'headendlaw09.AuditOtherKey'. -/
def auditOtherKeyUptoCard : Claim7 := { stood := { row := auditOtherKeyUptoRow, standIns := [], harness := (true, "2901c6eb5b6e3f098c8e32eed9b07388e7f8d6b06a063b91237500368d955201"), looks := false }, kinds := [], alts := [], laidByText := true, laidKinds := [.funcs], laidTests := true, laidLooks := .later }
def AuditOtherKeyUptoCardSaid : Prop := Claim7.holds Tryz.pinned (.plain (OpenSpec.upto auditOtherKeySpec)) auditOtherKeyUptoCard

/-- THE SECOND FORM's CARD OF 'headendlaw09.AuditGrown'. -/
def auditGrownUptoCard : Claim7 := { stood := { row := auditGrownUptoRow, standIns := [], harness := (true, "2901c6eb5b6e3f098c8e32eed9b07388e7f8d6b06a063b91237500368d955201"), looks := false }, kinds := [], alts := [], laidByText := true, laidKinds := [.funcs], laidTests := true, laidLooks := .later }
def AuditGrownUptoCardSaid : Prop := Claim7.holds Tryz.pinned (.plain (OpenSpec.upto auditGrownSpec)) auditGrownUptoCard

/-- THE SECOND FORM's CARD OF 'headendlaw09.AuditAbsent'. -/
def auditAbsentUptoCard : Claim7 := { stood := { row := auditAbsentUptoRow, standIns := [], harness := (true, "2901c6eb5b6e3f098c8e32eed9b07388e7f8d6b06a063b91237500368d955201"), looks := false }, kinds := [], alts := [], laidByText := true, laidKinds := [.funcs], laidTests := true, laidLooks := .later }
def AuditAbsentUptoCardSaid : Prop := Claim7.holds Tryz.pinned (.plain (OpenSpec.upto auditAbsentSpec)) auditAbsentUptoCard

/-- THE SECOND FORM's CARD OF 'headendlaw09.AuditRekeyed'. -/
def auditRekeyedUptoCard : Claim7 := { stood := { row := auditRekeyedUptoRow, standIns := [], harness := (true, "2901c6eb5b6e3f098c8e32eed9b07388e7f8d6b06a063b91237500368d955201"), looks := false }, kinds := [], alts := [], laidByText := true, laidKinds := [.funcs], laidTests := true, laidLooks := .later }
def AuditRekeyedUptoCardSaid : Prop := Claim7.holds Tryz.pinned (.plain (OpenSpec.upto auditRekeyedSpec)) auditRekeyedUptoCard

/-- THE SECOND FORM's CARD OF 'headendlaw09.AuditEither'. -/
def auditEitherUptoCard : Claim7 := { stood := { row := auditEitherUptoRow, standIns := [], harness := (true, "2901c6eb5b6e3f098c8e32eed9b07388e7f8d6b06a063b91237500368d955201"), looks := false }, kinds := [], alts := [], laidByText := true, laidKinds := [.funcs], laidTests := true, laidLooks := .later }
def AuditEitherUptoCardSaid : Prop := Claim7.holds Tryz.pinned (.plain (OpenSpec.upto auditEitherSpec)) auditEitherUptoCard

/-- THE SECOND FORM's CARD OF 'headendlaw09.AuditExamples'. -/
def auditExamplesUptoCard : Claim7 := { stood := { row := auditExamplesUptoRow, standIns := [], harness := (true, "2901c6eb5b6e3f098c8e32eed9b07388e7f8d6b06a063b91237500368d955201"), looks := false }, kinds := [], alts := [], laidByText := true, laidKinds := [.funcs], laidTests := true, laidLooks := .later }
def AuditExamplesUptoCardSaid : Prop := Claim7.holds Tryz.pinned (.plain (OpenSpec.upto auditExamplesSpec)) auditExamplesUptoCard
end Rows
end Go.Proofs.YtinpiodfpnbllaaGreatDoor
