/-
  DERIVED. GIVEN WITH THE SEED: THE CARDS: each row of YtdiclofeggkjcaaDoorRows.lean that lists a variable, with what it lists TIED to the program's text (the seventh form; the later family's looks); each row that meets fmt, with fmt's text TOLD by the authors' own Lean function (tested against real Go, not proved from fmt's source: count such statements apart). THE CARD IS WHAT COUNTS. Prove the row's statement (the work); the ties are given (YtdiclofeggkjcaaDoorTie.lean); close each card by the builder's one call (the guide's Derived/Test/ToyasCard.lean, 'card_holds'). Laid BY PROGRAM, IN A SANDBOX (cutbox-door.mjs). By AI agents, Wed Nov 11 2026. No macro, syntax, notation, axiom, sorry.
-/
import Derived.Test.YtdiclofeggkjcaaDoorRows
import GoSem.ClaimSeven
namespace Go.Proofs.YtdiclofeggkjcaaDoor
namespace Rows

/-- THE TIED CARD OF 'oilcakelaw01.SampleSwap'. -/
def sampleSwapCard : Claim7 := { stood := { row := sampleSwapRow, standIns := [], harness := (true, "fa0628e3bd75191d4512d451aeb50a642b38b72069520e71781b27eb6bfd4b5d"), looks := false }, kinds := [], alts := [], laidByText := true, laidKinds := [.funcs], laidTests := true, laidLooks := .later }
def SampleSwapCardSaid : Prop := Claim7.holds Tryd.pinned (.plain (OpenSpec.ofChange sampleSwapSpec)) sampleSwapCard

/-- THE TIED CARD OF 'oilcakelaw01.SampleMore'. -/
def sampleMoreCard : Claim7 := { stood := { row := sampleMoreRow, standIns := [], harness := (true, "fa0628e3bd75191d4512d451aeb50a642b38b72069520e71781b27eb6bfd4b5d"), looks := false }, kinds := [], alts := [], laidByText := true, laidKinds := [.funcs], laidTests := true, laidLooks := .later }
def SampleMoreCardSaid : Prop := Claim7.holds Tryd.pinned (.plain (OpenSpec.ofChange sampleMoreSpec)) sampleMoreCard

/-- THE TIED CARD OF 'oilcakelaw01.SampleFind'. -/
def sampleFindCard : Claim7 := { stood := { row := sampleFindRow, standIns := [], harness := (true, "fa0628e3bd75191d4512d451aeb50a642b38b72069520e71781b27eb6bfd4b5d"), looks := false }, kinds := [], alts := [], laidByText := true, laidKinds := [.funcs], laidTests := true, laidLooks := .later }
def SampleFindCardSaid : Prop := Claim7.holds Tryd.pinned (.plain (OpenSpec.ofChange sampleFindSpec)) sampleFindCard

/-- THE TIED CARD OF 'oilcakelaw01.SampleAward'. -/
def sampleAwardCard : Claim7 := { stood := { row := sampleAwardRow, standIns := [], harness := (true, "fa0628e3bd75191d4512d451aeb50a642b38b72069520e71781b27eb6bfd4b5d"), looks := false }, kinds := [], alts := [], laidByText := true, laidKinds := [.funcs], laidTests := true, laidLooks := .later }
def SampleAwardCardSaid : Prop := Claim7.holds Tryd.pinned (.plain (OpenSpec.ofChange sampleAwardSpec)) sampleAwardCard

/-- THE TIED CARD OF 'oilcakelaw01.SampleLikely'. -/
def sampleLikelyCard : Claim7 := { stood := { row := sampleLikelyRow, standIns := [], harness := (true, "fa0628e3bd75191d4512d451aeb50a642b38b72069520e71781b27eb6bfd4b5d"), looks := false }, kinds := [], alts := [], laidByText := true, laidKinds := [.funcs], laidTests := true, laidLooks := .later }
def SampleLikelyCardSaid : Prop := Claim7.holds Tryd.pinned (.plain (OpenSpec.ofChange sampleLikelySpec)) sampleLikelyCard

/-- THE TIED CARD OF 'oilcakelaw01.SampleWhole'. -/
def sampleWholeCard : Claim7 := { stood := { row := sampleWholeRow, standIns := [], harness := (true, "fa0628e3bd75191d4512d451aeb50a642b38b72069520e71781b27eb6bfd4b5d"), looks := false }, kinds := [], alts := [], laidByText := true, laidKinds := [.funcs], laidTests := true, laidLooks := .later }
def SampleWholeCardSaid : Prop := Claim7.holds Tryd.pinned (.plain (OpenSpec.ofChange sampleWholeSpec)) sampleWholeCard

/-- THE TIED CARD OF 'oilcakelaw01.SampleParts'. -/
def samplePartsCard : Claim7 := { stood := { row := samplePartsRow, standIns := [], harness := (true, "fa0628e3bd75191d4512d451aeb50a642b38b72069520e71781b27eb6bfd4b5d"), looks := false }, kinds := [], alts := [], laidByText := true, laidKinds := [.funcs], laidTests := true, laidLooks := .later }
def SamplePartsCardSaid : Prop := Claim7.holds Tryd.pinned (.plain (OpenSpec.ofChange samplePartsSpec)) samplePartsCard

/-- THE TIED CARD OF 'oilcakelaw01.SampleFair'. -/
def sampleFairCard : Claim7 := { stood := { row := sampleFairRow, standIns := [], harness := (true, "fa0628e3bd75191d4512d451aeb50a642b38b72069520e71781b27eb6bfd4b5d"), looks := false }, kinds := [], alts := [], laidByText := true, laidKinds := [.funcs], laidTests := true, laidLooks := .later }
def SampleFairCardSaid : Prop := Claim7.holds Tryd.pinned (.plain (OpenSpec.ofChange sampleFairSpec)) sampleFairCard

/-- THE TIED CARD OF 'oilcakelaw01.SampleTwice'. -/
def sampleTwiceCard : Claim7 := { stood := { row := sampleTwiceRow, standIns := [], harness := (true, "fa0628e3bd75191d4512d451aeb50a642b38b72069520e71781b27eb6bfd4b5d"), looks := false }, kinds := [], alts := [], laidByText := true, laidKinds := [.funcs], laidTests := true, laidLooks := .later }
def SampleTwiceCardSaid : Prop := Claim7.holds Tryd.pinned (.plain (OpenSpec.ofChange sampleTwiceSpec)) sampleTwiceCard

/-- THE TIED CARD OF 'oilcakelaw01.SampleCan'. -/
def sampleCanCard : Claim7 := { stood := { row := sampleCanRow, standIns := [], harness := (true, "fa0628e3bd75191d4512d451aeb50a642b38b72069520e71781b27eb6bfd4b5d"), looks := false }, kinds := [], alts := [], laidByText := true, laidKinds := [.funcs], laidTests := true, laidLooks := .later }
def SampleCanCardSaid : Prop := Claim7.holds Tryd.pinned (.plain (OpenSpec.ofChange sampleCanSpec)) sampleCanCard

/-- THE TIED CARD OF 'oilcakelaw01.SampleLeast'. -/
def sampleLeastCard : Claim7 := { stood := { row := sampleLeastRow, standIns := [], harness := (true, "fa0628e3bd75191d4512d451aeb50a642b38b72069520e71781b27eb6bfd4b5d"), looks := false }, kinds := [], alts := [], laidByText := true, laidKinds := [.funcs], laidTests := true, laidLooks := .later }
def SampleLeastCardSaid : Prop := Claim7.holds Tryd.pinned (.plain (OpenSpec.ofChange sampleLeastSpec)) sampleLeastCard

/-- THE SECOND FORM's CARD OF 'oilcakelaw01.SampleSwap'. -/
def sampleSwapUptoCard : Claim7 := { stood := { row := sampleSwapUptoRow, standIns := [], harness := (true, "fa0628e3bd75191d4512d451aeb50a642b38b72069520e71781b27eb6bfd4b5d"), looks := false }, kinds := [], alts := [], laidByText := true, laidKinds := [.funcs], laidTests := true, laidLooks := .later }
def SampleSwapUptoCardSaid : Prop := Claim7.holds Tryd.pinned (.plain (OpenSpec.upto sampleSwapSpec)) sampleSwapUptoCard

/-- THE SECOND FORM's CARD OF 'oilcakelaw01.SampleMore'. -/
def sampleMoreUptoCard : Claim7 := { stood := { row := sampleMoreUptoRow, standIns := [], harness := (true, "fa0628e3bd75191d4512d451aeb50a642b38b72069520e71781b27eb6bfd4b5d"), looks := false }, kinds := [], alts := [], laidByText := true, laidKinds := [.funcs], laidTests := true, laidLooks := .later }
def SampleMoreUptoCardSaid : Prop := Claim7.holds Tryd.pinned (.plain (OpenSpec.upto sampleMoreSpec)) sampleMoreUptoCard

/-- THE SECOND FORM's CARD OF 'oilcakelaw01.SampleFind'. -/
def sampleFindUptoCard : Claim7 := { stood := { row := sampleFindUptoRow, standIns := [], harness := (true, "fa0628e3bd75191d4512d451aeb50a642b38b72069520e71781b27eb6bfd4b5d"), looks := false }, kinds := [], alts := [], laidByText := true, laidKinds := [.funcs], laidTests := true, laidLooks := .later }
def SampleFindUptoCardSaid : Prop := Claim7.holds Tryd.pinned (.plain (OpenSpec.upto sampleFindSpec)) sampleFindUptoCard

/-- THE SECOND FORM's CARD OF 'oilcakelaw01.SampleAward'. -/
def sampleAwardUptoCard : Claim7 := { stood := { row := sampleAwardUptoRow, standIns := [], harness := (true, "fa0628e3bd75191d4512d451aeb50a642b38b72069520e71781b27eb6bfd4b5d"), looks := false }, kinds := [], alts := [], laidByText := true, laidKinds := [.funcs], laidTests := true, laidLooks := .later }
def SampleAwardUptoCardSaid : Prop := Claim7.holds Tryd.pinned (.plain (OpenSpec.upto sampleAwardSpec)) sampleAwardUptoCard

/-- THE SECOND FORM's CARD OF 'oilcakelaw01.SampleLikely'. -/
def sampleLikelyUptoCard : Claim7 := { stood := { row := sampleLikelyUptoRow, standIns := [], harness := (true, "fa0628e3bd75191d4512d451aeb50a642b38b72069520e71781b27eb6bfd4b5d"), looks := false }, kinds := [], alts := [], laidByText := true, laidKinds := [.funcs], laidTests := true, laidLooks := .later }
def SampleLikelyUptoCardSaid : Prop := Claim7.holds Tryd.pinned (.plain (OpenSpec.upto sampleLikelySpec)) sampleLikelyUptoCard

/-- THE SECOND FORM's CARD OF 'oilcakelaw01.SampleWhole'. -/
def sampleWholeUptoCard : Claim7 := { stood := { row := sampleWholeUptoRow, standIns := [], harness := (true, "fa0628e3bd75191d4512d451aeb50a642b38b72069520e71781b27eb6bfd4b5d"), looks := false }, kinds := [], alts := [], laidByText := true, laidKinds := [.funcs], laidTests := true, laidLooks := .later }
def SampleWholeUptoCardSaid : Prop := Claim7.holds Tryd.pinned (.plain (OpenSpec.upto sampleWholeSpec)) sampleWholeUptoCard

/-- THE SECOND FORM's CARD OF 'oilcakelaw01.SampleParts'. -/
def samplePartsUptoCard : Claim7 := { stood := { row := samplePartsUptoRow, standIns := [], harness := (true, "fa0628e3bd75191d4512d451aeb50a642b38b72069520e71781b27eb6bfd4b5d"), looks := false }, kinds := [], alts := [], laidByText := true, laidKinds := [.funcs], laidTests := true, laidLooks := .later }
def SamplePartsUptoCardSaid : Prop := Claim7.holds Tryd.pinned (.plain (OpenSpec.upto samplePartsSpec)) samplePartsUptoCard

/-- THE SECOND FORM's CARD OF 'oilcakelaw01.SampleFair'. -/
def sampleFairUptoCard : Claim7 := { stood := { row := sampleFairUptoRow, standIns := [], harness := (true, "fa0628e3bd75191d4512d451aeb50a642b38b72069520e71781b27eb6bfd4b5d"), looks := false }, kinds := [], alts := [], laidByText := true, laidKinds := [.funcs], laidTests := true, laidLooks := .later }
def SampleFairUptoCardSaid : Prop := Claim7.holds Tryd.pinned (.plain (OpenSpec.upto sampleFairSpec)) sampleFairUptoCard

/-- THE SECOND FORM's CARD OF 'oilcakelaw01.SampleTwice'. -/
def sampleTwiceUptoCard : Claim7 := { stood := { row := sampleTwiceUptoRow, standIns := [], harness := (true, "fa0628e3bd75191d4512d451aeb50a642b38b72069520e71781b27eb6bfd4b5d"), looks := false }, kinds := [], alts := [], laidByText := true, laidKinds := [.funcs], laidTests := true, laidLooks := .later }
def SampleTwiceUptoCardSaid : Prop := Claim7.holds Tryd.pinned (.plain (OpenSpec.upto sampleTwiceSpec)) sampleTwiceUptoCard

/-- THE SECOND FORM's CARD OF 'oilcakelaw01.SampleCan'. -/
def sampleCanUptoCard : Claim7 := { stood := { row := sampleCanUptoRow, standIns := [], harness := (true, "fa0628e3bd75191d4512d451aeb50a642b38b72069520e71781b27eb6bfd4b5d"), looks := false }, kinds := [], alts := [], laidByText := true, laidKinds := [.funcs], laidTests := true, laidLooks := .later }
def SampleCanUptoCardSaid : Prop := Claim7.holds Tryd.pinned (.plain (OpenSpec.upto sampleCanSpec)) sampleCanUptoCard

/-- THE SECOND FORM's CARD OF 'oilcakelaw01.SampleLeast'. -/
def sampleLeastUptoCard : Claim7 := { stood := { row := sampleLeastUptoRow, standIns := [], harness := (true, "fa0628e3bd75191d4512d451aeb50a642b38b72069520e71781b27eb6bfd4b5d"), looks := false }, kinds := [], alts := [], laidByText := true, laidKinds := [.funcs], laidTests := true, laidLooks := .later }
def SampleLeastUptoCardSaid : Prop := Claim7.holds Tryd.pinned (.plain (OpenSpec.upto sampleLeastSpec)) sampleLeastUptoCard
end Rows
end Go.Proofs.YtdiclofeggkjcaaDoor
