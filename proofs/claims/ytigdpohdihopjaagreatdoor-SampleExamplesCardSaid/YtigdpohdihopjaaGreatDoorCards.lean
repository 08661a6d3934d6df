/-
  DERIVED. GIVEN WITH THE SEED: THE CARDS: each row of YtigdpohdihopjaaGreatDoorRows.lean that lists a variable, with what it lists TIED to the program's text (the seventh form; the later family's looks); each row that meets fmt, with fmt's text TOLD by the authors' own Lean function (tested against real Go, not proved from fmt's source: count such statements apart). THE CARD IS WHAT COUNTS. Prove the row's statement (the work); the ties are given (YtigdpohdihopjaaGreatDoorTie.lean); close each card by the builder's one call (the guide's Derived/Test/ToyasCard.lean, 'card_holds'). Laid BY PROGRAM, IN A SANDBOX (cutbox-door.mjs). By AI agents, Wed Nov 11 2026. No macro, syntax, notation, axiom, sorry.
-/
import Derived.Test.YtigdpohdihopjaaGreatDoorRows
import GoSem.ClaimSeven
namespace Go.Proofs.YtigdpohdihopjaaGreatDoor
namespace Rows

/-- THE TIED CARD OF 'oilcakelaw01.SampleExamples'. -/
def sampleExamplesCard : Claim7 := { stood := { row := sampleExamplesRow, standIns := [], harness := (true, "9ba70b7c6ebd9d8047a7398bb571525a766026a9be974bb4fd25793409e17f3c"), looks := false }, kinds := [], alts := [], laidByText := true, laidKinds := [.data, .data, .data, .funcs], laidTests := true, laidLooks := .later }
def SampleExamplesCardSaid : Prop := Claim7.holds Tryz.pinned (.plain (OpenSpec.ofChange sampleExamplesSpec)) sampleExamplesCard

/-- THE SECOND FORM's CARD OF 'oilcakelaw01.SampleExamples'. -/
def sampleExamplesUptoCard : Claim7 := { stood := { row := sampleExamplesUptoRow, standIns := [], harness := (true, "9ba70b7c6ebd9d8047a7398bb571525a766026a9be974bb4fd25793409e17f3c"), looks := false }, kinds := [], alts := [], laidByText := true, laidKinds := [.data, .data, .data, .funcs], laidTests := true, laidLooks := .later }
def SampleExamplesUptoCardSaid : Prop := Claim7.holds Tryz.pinned (.plain (OpenSpec.upto sampleExamplesSpec)) sampleExamplesUptoCard
end Rows
end Go.Proofs.YtigdpohdihopjaaGreatDoor
