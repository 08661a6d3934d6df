/-
  DERIVED. GIVEN WITH THE SEED: THE CARDS: each row of YtinndhmjojpekaaDoorRows.lean that lists a variable, with what it lists TIED to the program's text (the seventh form; the later family's looks); each row that meets fmt, with fmt's text TOLD by the authors' own Lean function (tested against real Go, not proved from fmt's source: count such statements apart). THE CARD IS WHAT COUNTS. Prove the row's statement (the work); the ties are given (YtinndhmjojpekaaDoorTie.lean); close each card by the builder's one call (the guide's Derived/Test/ToyasCard.lean, 'card_holds'). Laid BY PROGRAM, IN A SANDBOX (cutbox-door.mjs). By AI agents, Wed Nov 11 2026. No macro, syntax, notation, axiom, sorry.
-/
import Derived.Test.YtinndhmjojpekaaDoorRows
import GoSem.ClaimSeven
namespace Go.Proofs.YtinndhmjojpekaaDoor
namespace Rows

/-- THE TIED CARD OF 'oilcakelaw01.SampleTwice'. -/
def sampleTwiceCard : Claim7 := { stood := { row := sampleTwiceRow, standIns := [], harness := (true, "408fe916f72a3abf53881be3172dc9f852cfbe8681f626627fa5b4a0ff8c9b68"), looks := false }, kinds := [], alts := [], laidByText := true, laidKinds := [.funcs], laidTests := true, laidLooks := .later }
def SampleTwiceCardSaid : Prop := Claim7.holds Tryd.pinned (.plain (OpenSpec.ofChange sampleTwiceSpec)) sampleTwiceCard

/-- THE SECOND FORM's CARD OF 'oilcakelaw01.SampleTwice'. -/
def sampleTwiceUptoCard : Claim7 := { stood := { row := sampleTwiceUptoRow, standIns := [], harness := (true, "408fe916f72a3abf53881be3172dc9f852cfbe8681f626627fa5b4a0ff8c9b68"), looks := false }, kinds := [], alts := [], laidByText := true, laidKinds := [.funcs], laidTests := true, laidLooks := .later }
def SampleTwiceUptoCardSaid : Prop := Claim7.holds Tryd.pinned (.plain (OpenSpec.upto sampleTwiceSpec)) sampleTwiceUptoCard
end Rows
end Go.Proofs.YtinndhmjojpekaaDoor
