/-
  DERIVED. GIVEN WITH THE SEED: THE CARDS: each row of YtknpglgpkkhhiaaDoorRows.lean that lists a variable, with what it lists TIED to the program's text (the seventh form; the later family's looks); each row that meets fmt, with fmt's text TOLD by the authors' own Lean function (tested against real Go, not proved from fmt's source: count such statements apart). THE CARD IS WHAT COUNTS. Prove the row's statement (the work); the ties are given (YtknpglgpkkhhiaaDoorTie.lean); close each card by the builder's one call (the guide's Derived/Test/ToyasCard.lean, 'card_holds'). Laid BY PROGRAM, IN A SANDBOX (cutbox-door.mjs). By AI agents, Wed Nov 11 2026. No macro, syntax, notation, axiom, sorry.
-/
import Derived.Test.YtknpglgpkkhhiaaDoorRows
import GoSem.ClaimSeven
namespace Go.Proofs.YtknpglgpkkhhiaaDoor
namespace Rows

/-- THE TIED CARD OF 'oilcakelaw07.RoundPlays'. -/
def roundPlaysCard : Claim7 := { stood := { row := roundPlaysRow, standIns := [], harness := (true, "aef369f75ff9eeba480e80ac4f58f22847ce45697f4f0d69e1638ff90022b359"), looks := false }, kinds := [], alts := [], laidByText := true, laidKinds := [.funcs], laidTests := true, laidLooks := .later }
def RoundPlaysCardSaid : Prop := Claim7.holds Tryd.pinned (.plain (OpenSpec.ofChange roundPlaysSpec)) roundPlaysCard

/-- THE TIED CARD OF 'oilcakelaw07.RoundTells'. -/
def roundTellsCard : Claim7 := { stood := { row := roundTellsRow, standIns := [], harness := (true, "aef369f75ff9eeba480e80ac4f58f22847ce45697f4f0d69e1638ff90022b359"), looks := false }, kinds := [], alts := [], laidByText := true, laidKinds := [.funcs], laidTests := true, laidLooks := .later }
def RoundTellsCardSaid : Prop := Claim7.holds Tryd.pinned (.plain (OpenSpec.ofChange roundTellsSpec)) roundTellsCard

/-- THE TIED CARD OF 'oilcakelaw07.RoundChanges'. -/
def roundChangesCard : Claim7 := { stood := { row := roundChangesRow, standIns := [], harness := (true, "aef369f75ff9eeba480e80ac4f58f22847ce45697f4f0d69e1638ff90022b359"), looks := false }, kinds := [], alts := [], laidByText := true, laidKinds := [.funcs], laidTests := true, laidLooks := .later }
def RoundChangesCardSaid : Prop := Claim7.holds Tryd.pinned (.plain (OpenSpec.ofChange roundChangesSpec)) roundChangesCard

/-- THE TIED CARD OF 'oilcakelaw07.RoundAsks'. -/
def roundAsksCard : Claim7 := { stood := { row := roundAsksRow, standIns := [], harness := (true, "aef369f75ff9eeba480e80ac4f58f22847ce45697f4f0d69e1638ff90022b359"), looks := false }, kinds := [], alts := [], laidByText := true, laidKinds := [.funcs], laidTests := true, laidLooks := .later }
def RoundAsksCardSaid : Prop := Claim7.holds Tryd.pinned (.plain (OpenSpec.ofChange roundAsksSpec)) roundAsksCard

/-- THE TIED CARD OF 'oilcakelaw07.RoundGoes'. -/
def roundGoesCard : Claim7 := { stood := { row := roundGoesRow, standIns := [], harness := (true, "aef369f75ff9eeba480e80ac4f58f22847ce45697f4f0d69e1638ff90022b359"), looks := false }, kinds := [], alts := [], laidByText := true, laidKinds := [.funcs], laidTests := true, laidLooks := .later }
def RoundGoesCardSaid : Prop := Claim7.holds Tryd.pinned (.plain (OpenSpec.ofChange roundGoesSpec)) roundGoesCard

/-- THE TIED CARD OF 'oilcakelaw07.RoundProof'. -/
def roundProofCard : Claim7 := { stood := { row := roundProofRow, standIns := [], harness := (true, "aef369f75ff9eeba480e80ac4f58f22847ce45697f4f0d69e1638ff90022b359"), looks := false }, kinds := [], alts := [], laidByText := true, laidKinds := [.funcs], laidTests := true, laidLooks := .later }
def RoundProofCardSaid : Prop := Claim7.holds Tryd.pinned (.plain (OpenSpec.ofChange roundProofSpec)) roundProofCard

/-- THE TIED CARD OF 'oilcakelaw07.RoundLast'. -/
def roundLastCard : Claim7 := { stood := { row := roundLastRow, standIns := [], harness := (true, "aef369f75ff9eeba480e80ac4f58f22847ce45697f4f0d69e1638ff90022b359"), looks := false }, kinds := [], alts := [], laidByText := true, laidKinds := [.funcs], laidTests := true, laidLooks := .later }
def RoundLastCardSaid : Prop := Claim7.holds Tryd.pinned (.plain (OpenSpec.ofChange roundLastSpec)) roundLastCard

/-- THE TIED CARD OF 'oilcakelaw07.RoundShare'. -/
def roundShareCard : Claim7 := { stood := { row := roundShareRow, standIns := [], harness := (true, "aef369f75ff9eeba480e80ac4f58f22847ce45697f4f0d69e1638ff90022b359"), looks := false }, kinds := [], alts := [], laidByText := true, laidKinds := [.funcs], laidTests := true, laidLooks := .later }
def RoundShareCardSaid : Prop := Claim7.holds Tryd.pinned (.plain (OpenSpec.ofChange roundShareSpec)) roundShareCard

/-- THE TIED CARD OF 'oilcakelaw07.RoundFewest'. -/
def roundFewestCard : Claim7 := { stood := { row := roundFewestRow, standIns := [], harness := (true, "aef369f75ff9eeba480e80ac4f58f22847ce45697f4f0d69e1638ff90022b359"), looks := false }, kinds := [], alts := [], laidByText := true, laidKinds := [.funcs], laidTests := true, laidLooks := .later }
def RoundFewestCardSaid : Prop := Claim7.holds Tryd.pinned (.plain (OpenSpec.ofChange roundFewestSpec)) roundFewestCard

/-- THE TIED CARD OF 'oilcakelaw07.RoundParts'. -/
def roundPartsCard : Claim7 := { stood := { row := roundPartsRow, standIns := [], harness := (true, "aef369f75ff9eeba480e80ac4f58f22847ce45697f4f0d69e1638ff90022b359"), looks := false }, kinds := [], alts := [], laidByText := true, laidKinds := [.funcs], laidTests := true, laidLooks := .later }
def RoundPartsCardSaid : Prop := Claim7.holds Tryd.pinned (.plain (OpenSpec.ofChange roundPartsSpec)) roundPartsCard

/-- THE TIED CARD OF 'oilcakelaw07.RoundRepeats'. -/
def roundRepeatsCard : Claim7 := { stood := { row := roundRepeatsRow, standIns := [], harness := (true, "aef369f75ff9eeba480e80ac4f58f22847ce45697f4f0d69e1638ff90022b359"), looks := false }, kinds := [], alts := [], laidByText := true, laidKinds := [.funcs], laidTests := true, laidLooks := .later }
def RoundRepeatsCardSaid : Prop := Claim7.holds Tryd.pinned (.plain (OpenSpec.ofChange roundRepeatsSpec)) roundRepeatsCard

/-- THE TIED CARD OF 'oilcakelaw07.RoundSpare'. -/
def roundSpareCard : Claim7 := { stood := { row := roundSpareRow, standIns := [], harness := (true, "aef369f75ff9eeba480e80ac4f58f22847ce45697f4f0d69e1638ff90022b359"), looks := false }, kinds := [], alts := [], laidByText := true, laidKinds := [.funcs], laidTests := true, laidLooks := .later }
def RoundSpareCardSaid : Prop := Claim7.holds Tryd.pinned (.plain (OpenSpec.ofChange roundSpareSpec)) roundSpareCard

/-- THE TIED CARD OF 'oilcakelaw07.RoundExamples'. -/
def roundExamplesCard : Claim7 := { stood := { row := roundExamplesRow, standIns := [], harness := (true, "aef369f75ff9eeba480e80ac4f58f22847ce45697f4f0d69e1638ff90022b359"), looks := false }, kinds := [], alts := [], laidByText := true, laidKinds := [.funcs], laidTests := true, laidLooks := .later }
def RoundExamplesCardSaid : Prop := Claim7.holds Tryd.pinned (.plain (OpenSpec.ofChange roundExamplesSpec)) roundExamplesCard

/-- THE TIED CARD OF 'oilcakelaw07.RoundBetter'. -/
def roundBetterCard : Claim7 := { stood := { row := roundBetterRow, standIns := [], harness := (true, "aef369f75ff9eeba480e80ac4f58f22847ce45697f4f0d69e1638ff90022b359"), looks := false }, kinds := [], alts := [], laidByText := true, laidKinds := [.funcs], laidTests := true, laidLooks := .later }
def RoundBetterCardSaid : Prop := Claim7.holds Tryd.pinned (.plain (OpenSpec.ofChange roundBetterSpec)) roundBetterCard

/-- THE SECOND FORM's CARD OF 'oilcakelaw07.RoundPlays'. -/
def roundPlaysUptoCard : Claim7 := { stood := { row := roundPlaysUptoRow, standIns := [], harness := (true, "aef369f75ff9eeba480e80ac4f58f22847ce45697f4f0d69e1638ff90022b359"), looks := false }, kinds := [], alts := [], laidByText := true, laidKinds := [.funcs], laidTests := true, laidLooks := .later }
def RoundPlaysUptoCardSaid : Prop := Claim7.holds Tryd.pinned (.plain (OpenSpec.upto roundPlaysSpec)) roundPlaysUptoCard

/-- THE SECOND FORM's CARD OF 'oilcakelaw07.RoundTells'. -/
def roundTellsUptoCard : Claim7 := { stood := { row := roundTellsUptoRow, standIns := [], harness := (true, "aef369f75ff9eeba480e80ac4f58f22847ce45697f4f0d69e1638ff90022b359"), looks := false }, kinds := [], alts := [], laidByText := true, laidKinds := [.funcs], laidTests := true, laidLooks := .later }
def RoundTellsUptoCardSaid : Prop := Claim7.holds Tryd.pinned (.plain (OpenSpec.upto roundTellsSpec)) roundTellsUptoCard

/-- THE SECOND FORM's CARD OF 'oilcakelaw07.RoundChanges'. -/
def roundChangesUptoCard : Claim7 := { stood := { row := roundChangesUptoRow, standIns := [], harness := (true, "aef369f75ff9eeba480e80ac4f58f22847ce45697f4f0d69e1638ff90022b359"), looks := false }, kinds := [], alts := [], laidByText := true, laidKinds := [.funcs], laidTests := true, laidLooks := .later }
def RoundChangesUptoCardSaid : Prop := Claim7.holds Tryd.pinned (.plain (OpenSpec.upto roundChangesSpec)) roundChangesUptoCard

/-- THE SECOND FORM's CARD OF 'oilcakelaw07.RoundAsks'. -/
def roundAsksUptoCard : Claim7 := { stood := { row := roundAsksUptoRow, standIns := [], harness := (true, "aef369f75ff9eeba480e80ac4f58f22847ce45697f4f0d69e1638ff90022b359"), looks := false }, kinds := [], alts := [], laidByText := true, laidKinds := [.funcs], laidTests := true, laidLooks := .later }
def RoundAsksUptoCardSaid : Prop := Claim7.holds Tryd.pinned (.plain (OpenSpec.upto roundAsksSpec)) roundAsksUptoCard

/-- THE SECOND FORM's CARD OF 'oilcakelaw07.RoundGoes'. -/
def roundGoesUptoCard : Claim7 := { stood := { row := roundGoesUptoRow, standIns := [], harness := (true, "aef369f75ff9eeba480e80ac4f58f22847ce45697f4f0d69e1638ff90022b359"), looks := false }, kinds := [], alts := [], laidByText := true, laidKinds := [.funcs], laidTests := true, laidLooks := .later }
def RoundGoesUptoCardSaid : Prop := Claim7.holds Tryd.pinned (.plain (OpenSpec.upto roundGoesSpec)) roundGoesUptoCard

/-- THE SECOND FORM's CARD OF 'oilcakelaw07.RoundProof'. -/
def roundProofUptoCard : Claim7 := { stood := { row := roundProofUptoRow, standIns := [], harness := (true, "aef369f75ff9eeba480e80ac4f58f22847ce45697f4f0d69e1638ff90022b359"), looks := false }, kinds := [], alts := [], laidByText := true, laidKinds := [.funcs], laidTests := true, laidLooks := .later }
def RoundProofUptoCardSaid : Prop := Claim7.holds Tryd.pinned (.plain (OpenSpec.upto roundProofSpec)) roundProofUptoCard

/-- THE SECOND FORM's CARD OF 'oilcakelaw07.RoundLast'. -/
def roundLastUptoCard : Claim7 := { stood := { row := roundLastUptoRow, standIns := [], harness := (true, "aef369f75ff9eeba480e80ac4f58f22847ce45697f4f0d69e1638ff90022b359"), looks := false }, kinds := [], alts := [], laidByText := true, laidKinds := [.funcs], laidTests := true, laidLooks := .later }
def RoundLastUptoCardSaid : Prop := Claim7.holds Tryd.pinned (.plain (OpenSpec.upto roundLastSpec)) roundLastUptoCard

/-- THE SECOND FORM's CARD OF 'oilcakelaw07.RoundShare'. -/
def roundShareUptoCard : Claim7 := { stood := { row := roundShareUptoRow, standIns := [], harness := (true, "aef369f75ff9eeba480e80ac4f58f22847ce45697f4f0d69e1638ff90022b359"), looks := false }, kinds := [], alts := [], laidByText := true, laidKinds := [.funcs], laidTests := true, laidLooks := .later }
def RoundShareUptoCardSaid : Prop := Claim7.holds Tryd.pinned (.plain (OpenSpec.upto roundShareSpec)) roundShareUptoCard

/-- THE SECOND FORM's CARD OF 'oilcakelaw07.RoundFewest'. -/
def roundFewestUptoCard : Claim7 := { stood := { row := roundFewestUptoRow, standIns := [], harness := (true, "aef369f75ff9eeba480e80ac4f58f22847ce45697f4f0d69e1638ff90022b359"), looks := false }, kinds := [], alts := [], laidByText := true, laidKinds := [.funcs], laidTests := true, laidLooks := .later }
def RoundFewestUptoCardSaid : Prop := Claim7.holds Tryd.pinned (.plain (OpenSpec.upto roundFewestSpec)) roundFewestUptoCard

/-- THE SECOND FORM's CARD OF 'oilcakelaw07.RoundParts'. -/
def roundPartsUptoCard : Claim7 := { stood := { row := roundPartsUptoRow, standIns := [], harness := (true, "aef369f75ff9eeba480e80ac4f58f22847ce45697f4f0d69e1638ff90022b359"), looks := false }, kinds := [], alts := [], laidByText := true, laidKinds := [.funcs], laidTests := true, laidLooks := .later }
def RoundPartsUptoCardSaid : Prop := Claim7.holds Tryd.pinned (.plain (OpenSpec.upto roundPartsSpec)) roundPartsUptoCard

/-- THE SECOND FORM's CARD OF 'oilcakelaw07.RoundRepeats'. -/
def roundRepeatsUptoCard : Claim7 := { stood := { row := roundRepeatsUptoRow, standIns := [], harness := (true, "aef369f75ff9eeba480e80ac4f58f22847ce45697f4f0d69e1638ff90022b359"), looks := false }, kinds := [], alts := [], laidByText := true, laidKinds := [.funcs], laidTests := true, laidLooks := .later }
def RoundRepeatsUptoCardSaid : Prop := Claim7.holds Tryd.pinned (.plain (OpenSpec.upto roundRepeatsSpec)) roundRepeatsUptoCard

/-- THE SECOND FORM's CARD OF 'oilcakelaw07.RoundSpare'. -/
def roundSpareUptoCard : Claim7 := { stood := { row := roundSpareUptoRow, standIns := [], harness := (true, "aef369f75ff9eeba480e80ac4f58f22847ce45697f4f0d69e1638ff90022b359"), looks := false }, kinds := [], alts := [], laidByText := true, laidKinds := [.funcs], laidTests := true, laidLooks := .later }
def RoundSpareUptoCardSaid : Prop := Claim7.holds Tryd.pinned (.plain (OpenSpec.upto roundSpareSpec)) roundSpareUptoCard

/-- THE SECOND FORM's CARD OF 'oilcakelaw07.RoundExamples'. -/
def roundExamplesUptoCard : Claim7 := { stood := { row := roundExamplesUptoRow, standIns := [], harness := (true, "aef369f75ff9eeba480e80ac4f58f22847ce45697f4f0d69e1638ff90022b359"), looks := false }, kinds := [], alts := [], laidByText := true, laidKinds := [.funcs], laidTests := true, laidLooks := .later }
def RoundExamplesUptoCardSaid : Prop := Claim7.holds Tryd.pinned (.plain (OpenSpec.upto roundExamplesSpec)) roundExamplesUptoCard

/-- THE SECOND FORM's CARD OF 'oilcakelaw07.RoundBetter'. -/
def roundBetterUptoCard : Claim7 := { stood := { row := roundBetterUptoRow, standIns := [], harness := (true, "aef369f75ff9eeba480e80ac4f58f22847ce45697f4f0d69e1638ff90022b359"), looks := false }, kinds := [], alts := [], laidByText := true, laidKinds := [.funcs], laidTests := true, laidLooks := .later }
def RoundBetterUptoCardSaid : Prop := Claim7.holds Tryd.pinned (.plain (OpenSpec.upto roundBetterSpec)) roundBetterUptoCard
end Rows
end Go.Proofs.YtknpglgpkkhhiaaDoor
