/-
  NARROWER THAN 'FOR EVERY INPUT', by the rows' own cells (each row's printed sentence says how): RoundPlays: laid · RoundTells: laid · RoundChanges: laid · RoundAsks: laid · RoundGoes: laid · RoundProof: laid · RoundLast: laid · RoundShare: laid · RoundFewest: laid · RoundParts: laid · RoundRepeats: laid · RoundSpare: laid · RoundExamples: laid · RoundBetter: laid.
  DERIVED. THE GIVEN ROWS OF THIS SEAT. 14 by the template 'for every input the law returns true; each argument reads behind the call as it read before'; 0 by the template 'total and deterministic' (their statements: YtknpglgpkkhhiaaDoorTotals.lean).
  GIVEN WITH THE SEED: the statements are not yours to turn. If you find one false, say at which input.
  Laid BY PROGRAM, IN A SANDBOX (cutbox-rows.mjs): the forced cells as the released guide's own fill.sh prints them over the translation 7325bf4326b973ef… (all of the seat's roots in one cut). By AI agents, Wed Nov 11 2026. No macro, syntax, notation, axiom, sorry.
-/
import Derived.Test.YtknpglgpkkhhiaaDoorChecked
import GoSem.Claim
import GoSem.ClaimJoined
import GoSem.ClaimMapViews
import Derived.JoinedTies
import Derived.KernelRfl
namespace Go.Proofs.YtknpglgpkkhhiaaDoor
/- THE CELL 'sum', in the pinned program and in every row, IS THE sha256 OF THE DUMP (.gsa) THAT YtknpglgpkkhhiaaDoorProg.lean LOADS. Nothing in Lean hashes anything: it is a label: what it is worth is what the hold of that sum in a sandbox is worth. -/
noncomputable def Tryd.pinned : Pinned := { name := "ytknpglgpkkhhiaadoor", sum := "7325bf4326b973ef6a20cd4ca0cbe5addc26bec58361807c87214c34ce787986", checked := Tryd.checked }
namespace Rows
def none {H : Type} : Left H := { results := [], args := [] }

/- WHAT THE LISTED PACKAGE-LEVEL VARIABLES READ AS WHEN THE CALL BEGINS. Each datum BY PROGRAM (the guide's laid-datum.mjs) off the statement by which the dump's own 'gosem.cut.vars' lays the variable. In a bare row this is a premise. The card (YtknpglgpkkhhiaaDoorCards.lean) ties it to the program's text. -/
def laid_oilcake_round_checks {H : Type} : DataW H := .iface "func table" (.agg [.agg [.iface "func" (.lit (.string [111, 105, 108, 99, 97, 107, 101, 47, 114, 111, 117, 110, 100, 46, 99, 104, 101, 99, 107, 115, 36, 49]))], .agg [.iface "func" (.lit (.string [111, 105, 108, 99, 97, 107, 101, 47, 114, 111, 117, 110, 100, 46, 99, 104, 101, 99, 107, 115, 36, 50]))], .agg [.iface "func" (.lit (.string [111, 105, 108, 99, 97, 107, 101, 47, 114, 111, 117, 110, 100, 46, 99, 104, 101, 99, 107, 115, 36, 51]))]])

/-- 'oilcakelaw07.RoundPlays': WHATEVER THE INPUT: true; the input reads as it did. -/
def roundPlaysSpec : ChangeSpec := { name := "roundPlays", fn := fun _ => fun
  | [d1, d2] => { results := [.lit (.bool true)], args := [d1, d2] }
  | _ => none }
def roundPlaysRow : OpenClaim := { program := "ytknpglgpkkhhiaadoor", sum := "7325bf4326b973ef6a20cd4ca0cbe5addc26bec58361807c87214c34ce787986", func := "oilcake/oilcakelaw07.RoundPlays", spec := "roundPlays", unfollowed := true, recurses := true, named := ["oilcake/round.checks"], plainKeys := false, apart := false, laid := [("oilcake/round.checks", laid_oilcake_round_checks)] }
def RoundPlaysSaid : Prop := roundPlaysRow.holds Tryd.pinned (OpenSpec.ofChange roundPlaysSpec)

/-- ITS FALSE NEIGHBOUR: 'it returns false'. Refute it at one input. -/
def roundPlaysWrong : ChangeSpec := { name := "roundPlays", fn := fun _ => fun
  | [d1, d2] => { results := [.lit (.bool false)], args := [d1, d2] }
  | _ => none }
def RoundPlaysWrongFalsely : Prop := roundPlaysRow.holds Tryd.pinned (OpenSpec.ofChange roundPlaysWrong)

/-- 'oilcakelaw07.RoundTells': WHATEVER THE INPUT: true; the input reads as it did. -/
def roundTellsSpec : ChangeSpec := { name := "roundTells", fn := fun _ => fun
  | [d1, d2] => { results := [.lit (.bool true)], args := [d1, d2] }
  | _ => none }
def roundTellsRow : OpenClaim := { program := "ytknpglgpkkhhiaadoor", sum := "7325bf4326b973ef6a20cd4ca0cbe5addc26bec58361807c87214c34ce787986", func := "oilcake/oilcakelaw07.RoundTells", spec := "roundTells", unfollowed := true, recurses := true, named := ["oilcake/round.checks"], plainKeys := false, apart := false, laid := [("oilcake/round.checks", laid_oilcake_round_checks)] }
def RoundTellsSaid : Prop := roundTellsRow.holds Tryd.pinned (OpenSpec.ofChange roundTellsSpec)

/-- ITS FALSE NEIGHBOUR: 'it returns false'. Refute it at one input. -/
def roundTellsWrong : ChangeSpec := { name := "roundTells", fn := fun _ => fun
  | [d1, d2] => { results := [.lit (.bool false)], args := [d1, d2] }
  | _ => none }
def RoundTellsWrongFalsely : Prop := roundTellsRow.holds Tryd.pinned (OpenSpec.ofChange roundTellsWrong)

/-- 'oilcakelaw07.RoundChanges': WHATEVER THE INPUT: true; the input reads as it did. -/
def roundChangesSpec : ChangeSpec := { name := "roundChanges", fn := fun _ => fun
  | [d1, d2, d3] => { results := [.lit (.bool true)], args := [d1, d2, d3] }
  | _ => none }
def roundChangesRow : OpenClaim := { program := "ytknpglgpkkhhiaadoor", sum := "7325bf4326b973ef6a20cd4ca0cbe5addc26bec58361807c87214c34ce787986", func := "oilcake/oilcakelaw07.RoundChanges", spec := "roundChanges", unfollowed := true, recurses := true, named := ["oilcake/round.checks"], plainKeys := false, apart := false, laid := [("oilcake/round.checks", laid_oilcake_round_checks)] }
def RoundChangesSaid : Prop := roundChangesRow.holds Tryd.pinned (OpenSpec.ofChange roundChangesSpec)

/-- ITS FALSE NEIGHBOUR: 'it returns false'. Refute it at one input. -/
def roundChangesWrong : ChangeSpec := { name := "roundChanges", fn := fun _ => fun
  | [d1, d2, d3] => { results := [.lit (.bool false)], args := [d1, d2, d3] }
  | _ => none }
def RoundChangesWrongFalsely : Prop := roundChangesRow.holds Tryd.pinned (OpenSpec.ofChange roundChangesWrong)

/-- 'oilcakelaw07.RoundAsks': WHATEVER THE INPUT: true; the input reads as it did. -/
def roundAsksSpec : ChangeSpec := { name := "roundAsks", fn := fun _ => fun
  | [d1, d2] => { results := [.lit (.bool true)], args := [d1, d2] }
  | _ => none }
def roundAsksRow : OpenClaim := { program := "ytknpglgpkkhhiaadoor", sum := "7325bf4326b973ef6a20cd4ca0cbe5addc26bec58361807c87214c34ce787986", func := "oilcake/oilcakelaw07.RoundAsks", spec := "roundAsks", unfollowed := true, recurses := true, named := ["oilcake/round.checks"], plainKeys := false, apart := false, laid := [("oilcake/round.checks", laid_oilcake_round_checks)] }
def RoundAsksSaid : Prop := roundAsksRow.holds Tryd.pinned (OpenSpec.ofChange roundAsksSpec)

/-- ITS FALSE NEIGHBOUR: 'it returns false'. Refute it at one input. -/
def roundAsksWrong : ChangeSpec := { name := "roundAsks", fn := fun _ => fun
  | [d1, d2] => { results := [.lit (.bool false)], args := [d1, d2] }
  | _ => none }
def RoundAsksWrongFalsely : Prop := roundAsksRow.holds Tryd.pinned (OpenSpec.ofChange roundAsksWrong)

/-- 'oilcakelaw07.RoundGoes': WHATEVER THE INPUT: true; the input reads as it did. -/
def roundGoesSpec : ChangeSpec := { name := "roundGoes", fn := fun _ => fun
  | [d1, d2, d3] => { results := [.lit (.bool true)], args := [d1, d2, d3] }
  | _ => none }
def roundGoesRow : OpenClaim := { program := "ytknpglgpkkhhiaadoor", sum := "7325bf4326b973ef6a20cd4ca0cbe5addc26bec58361807c87214c34ce787986", func := "oilcake/oilcakelaw07.RoundGoes", spec := "roundGoes", unfollowed := true, recurses := true, named := ["oilcake/round.checks"], plainKeys := false, apart := false, laid := [("oilcake/round.checks", laid_oilcake_round_checks)] }
def RoundGoesSaid : Prop := roundGoesRow.holds Tryd.pinned (OpenSpec.ofChange roundGoesSpec)

/-- ITS FALSE NEIGHBOUR: 'it returns false'. Refute it at one input. -/
def roundGoesWrong : ChangeSpec := { name := "roundGoes", fn := fun _ => fun
  | [d1, d2, d3] => { results := [.lit (.bool false)], args := [d1, d2, d3] }
  | _ => none }
def RoundGoesWrongFalsely : Prop := roundGoesRow.holds Tryd.pinned (OpenSpec.ofChange roundGoesWrong)

/-- 'oilcakelaw07.RoundProof': WHATEVER THE INPUT: true; the input reads as it did. -/
def roundProofSpec : ChangeSpec := { name := "roundProof", fn := fun _ => fun
  | [d] => { results := [.lit (.bool true)], args := [d] }
  | _ => none }
def roundProofRow : OpenClaim := { program := "ytknpglgpkkhhiaadoor", sum := "7325bf4326b973ef6a20cd4ca0cbe5addc26bec58361807c87214c34ce787986", func := "oilcake/oilcakelaw07.RoundProof", spec := "roundProof", unfollowed := true, recurses := true, named := ["oilcake/round.checks"], plainKeys := false, apart := false, laid := [("oilcake/round.checks", laid_oilcake_round_checks)] }
def RoundProofSaid : Prop := roundProofRow.holds Tryd.pinned (OpenSpec.ofChange roundProofSpec)

/-- ITS FALSE NEIGHBOUR: 'it returns false'. Refute it at one input. -/
def roundProofWrong : ChangeSpec := { name := "roundProof", fn := fun _ => fun
  | [d] => { results := [.lit (.bool false)], args := [d] }
  | _ => none }
def RoundProofWrongFalsely : Prop := roundProofRow.holds Tryd.pinned (OpenSpec.ofChange roundProofWrong)

/-- 'oilcakelaw07.RoundLast': WHATEVER THE INPUT: true; the input reads as it did. -/
def roundLastSpec : ChangeSpec := { name := "roundLast", fn := fun _ => fun
  | [d1, d2] => { results := [.lit (.bool true)], args := [d1, d2] }
  | _ => none }
def roundLastRow : OpenClaim := { program := "ytknpglgpkkhhiaadoor", sum := "7325bf4326b973ef6a20cd4ca0cbe5addc26bec58361807c87214c34ce787986", func := "oilcake/oilcakelaw07.RoundLast", spec := "roundLast", unfollowed := true, recurses := true, named := ["oilcake/round.checks"], plainKeys := false, apart := false, laid := [("oilcake/round.checks", laid_oilcake_round_checks)] }
def RoundLastSaid : Prop := roundLastRow.holds Tryd.pinned (OpenSpec.ofChange roundLastSpec)

/-- ITS FALSE NEIGHBOUR: 'it returns false'. Refute it at one input. -/
def roundLastWrong : ChangeSpec := { name := "roundLast", fn := fun _ => fun
  | [d1, d2] => { results := [.lit (.bool false)], args := [d1, d2] }
  | _ => none }
def RoundLastWrongFalsely : Prop := roundLastRow.holds Tryd.pinned (OpenSpec.ofChange roundLastWrong)

/-- 'oilcakelaw07.RoundShare': WHATEVER THE INPUT: true; the input reads as it did. -/
def roundShareSpec : ChangeSpec := { name := "roundShare", fn := fun _ => fun
  | [d] => { results := [.lit (.bool true)], args := [d] }
  | _ => none }
def roundShareRow : OpenClaim := { program := "ytknpglgpkkhhiaadoor", sum := "7325bf4326b973ef6a20cd4ca0cbe5addc26bec58361807c87214c34ce787986", func := "oilcake/oilcakelaw07.RoundShare", spec := "roundShare", unfollowed := true, recurses := true, named := ["oilcake/round.checks"], plainKeys := false, apart := false, laid := [("oilcake/round.checks", laid_oilcake_round_checks)] }
def RoundShareSaid : Prop := roundShareRow.holds Tryd.pinned (OpenSpec.ofChange roundShareSpec)

/-- ITS FALSE NEIGHBOUR: 'it returns false'. Refute it at one input. -/
def roundShareWrong : ChangeSpec := { name := "roundShare", fn := fun _ => fun
  | [d] => { results := [.lit (.bool false)], args := [d] }
  | _ => none }
def RoundShareWrongFalsely : Prop := roundShareRow.holds Tryd.pinned (OpenSpec.ofChange roundShareWrong)

/-- 'oilcakelaw07.RoundFewest': WHATEVER THE INPUT: true; the input reads as it did. -/
def roundFewestSpec : ChangeSpec := { name := "roundFewest", fn := fun _ => fun
  | [d1, d2] => { results := [.lit (.bool true)], args := [d1, d2] }
  | _ => none }
def roundFewestRow : OpenClaim := { program := "ytknpglgpkkhhiaadoor", sum := "7325bf4326b973ef6a20cd4ca0cbe5addc26bec58361807c87214c34ce787986", func := "oilcake/oilcakelaw07.RoundFewest", spec := "roundFewest", unfollowed := true, recurses := true, named := ["oilcake/round.checks"], plainKeys := false, apart := false, laid := [("oilcake/round.checks", laid_oilcake_round_checks)] }
def RoundFewestSaid : Prop := roundFewestRow.holds Tryd.pinned (OpenSpec.ofChange roundFewestSpec)

/-- ITS FALSE NEIGHBOUR: 'it returns false'. Refute it at one input. -/
def roundFewestWrong : ChangeSpec := { name := "roundFewest", fn := fun _ => fun
  | [d1, d2] => { results := [.lit (.bool false)], args := [d1, d2] }
  | _ => none }
def RoundFewestWrongFalsely : Prop := roundFewestRow.holds Tryd.pinned (OpenSpec.ofChange roundFewestWrong)

/-- 'oilcakelaw07.RoundParts': WHATEVER THE INPUT: true; the input reads as it did. -/
def roundPartsSpec : ChangeSpec := { name := "roundParts", fn := fun _ => fun
  | [d1, d2, d3] => { results := [.lit (.bool true)], args := [d1, d2, d3] }
  | _ => none }
def roundPartsRow : OpenClaim := { program := "ytknpglgpkkhhiaadoor", sum := "7325bf4326b973ef6a20cd4ca0cbe5addc26bec58361807c87214c34ce787986", func := "oilcake/oilcakelaw07.RoundParts", spec := "roundParts", unfollowed := true, recurses := true, named := ["oilcake/round.checks"], plainKeys := false, apart := false, laid := [("oilcake/round.checks", laid_oilcake_round_checks)] }
def RoundPartsSaid : Prop := roundPartsRow.holds Tryd.pinned (OpenSpec.ofChange roundPartsSpec)

/-- ITS FALSE NEIGHBOUR: 'it returns false'. Refute it at one input. -/
def roundPartsWrong : ChangeSpec := { name := "roundParts", fn := fun _ => fun
  | [d1, d2, d3] => { results := [.lit (.bool false)], args := [d1, d2, d3] }
  | _ => none }
def RoundPartsWrongFalsely : Prop := roundPartsRow.holds Tryd.pinned (OpenSpec.ofChange roundPartsWrong)

/-- 'oilcakelaw07.RoundRepeats': WHATEVER THE INPUT: true; the input reads as it did. -/
def roundRepeatsSpec : ChangeSpec := { name := "roundRepeats", fn := fun _ => fun
  | [d1, d2] => { results := [.lit (.bool true)], args := [d1, d2] }
  | _ => none }
def roundRepeatsRow : OpenClaim := { program := "ytknpglgpkkhhiaadoor", sum := "7325bf4326b973ef6a20cd4ca0cbe5addc26bec58361807c87214c34ce787986", func := "oilcake/oilcakelaw07.RoundRepeats", spec := "roundRepeats", unfollowed := true, recurses := true, named := ["oilcake/round.checks"], plainKeys := false, apart := false, laid := [("oilcake/round.checks", laid_oilcake_round_checks)] }
def RoundRepeatsSaid : Prop := roundRepeatsRow.holds Tryd.pinned (OpenSpec.ofChange roundRepeatsSpec)

/-- ITS FALSE NEIGHBOUR: 'it returns false'. Refute it at one input. -/
def roundRepeatsWrong : ChangeSpec := { name := "roundRepeats", fn := fun _ => fun
  | [d1, d2] => { results := [.lit (.bool false)], args := [d1, d2] }
  | _ => none }
def RoundRepeatsWrongFalsely : Prop := roundRepeatsRow.holds Tryd.pinned (OpenSpec.ofChange roundRepeatsWrong)

/-- 'oilcakelaw07.RoundSpare': WHATEVER THE INPUT: true; the input reads as it did. -/
def roundSpareSpec : ChangeSpec := { name := "roundSpare", fn := fun _ => fun
  | [d] => { results := [.lit (.bool true)], args := [d] }
  | _ => none }
def roundSpareRow : OpenClaim := { program := "ytknpglgpkkhhiaadoor", sum := "7325bf4326b973ef6a20cd4ca0cbe5addc26bec58361807c87214c34ce787986", func := "oilcake/oilcakelaw07.RoundSpare", spec := "roundSpare", unfollowed := true, recurses := true, named := ["oilcake/round.checks"], plainKeys := false, apart := false, laid := [("oilcake/round.checks", laid_oilcake_round_checks)] }
def RoundSpareSaid : Prop := roundSpareRow.holds Tryd.pinned (OpenSpec.ofChange roundSpareSpec)

/-- ITS FALSE NEIGHBOUR: 'it returns false'. Refute it at one input. -/
def roundSpareWrong : ChangeSpec := { name := "roundSpare", fn := fun _ => fun
  | [d] => { results := [.lit (.bool false)], args := [d] }
  | _ => none }
def RoundSpareWrongFalsely : Prop := roundSpareRow.holds Tryd.pinned (OpenSpec.ofChange roundSpareWrong)

/-- 'oilcakelaw07.RoundExamples': WHATEVER THE INPUT: true; the input reads as it did. -/
def roundExamplesSpec : ChangeSpec := { name := "roundExamples", fn := fun _ => fun
  | [] => { results := [.lit (.bool true)], args := [] }
  | _ => none }
def roundExamplesRow : OpenClaim := { program := "ytknpglgpkkhhiaadoor", sum := "7325bf4326b973ef6a20cd4ca0cbe5addc26bec58361807c87214c34ce787986", func := "oilcake/oilcakelaw07.RoundExamples", spec := "roundExamples", unfollowed := true, recurses := true, named := ["oilcake/round.checks"], plainKeys := false, apart := false, laid := [("oilcake/round.checks", laid_oilcake_round_checks)] }
def RoundExamplesSaid : Prop := roundExamplesRow.holds Tryd.pinned (OpenSpec.ofChange roundExamplesSpec)

/-- ITS FALSE NEIGHBOUR: 'it returns false'. Refute it at one input. -/
def roundExamplesWrong : ChangeSpec := { name := "roundExamples", fn := fun _ => fun
  | [] => { results := [.lit (.bool false)], args := [] }
  | _ => none }
def RoundExamplesWrongFalsely : Prop := roundExamplesRow.holds Tryd.pinned (OpenSpec.ofChange roundExamplesWrong)

/-- 'oilcakelaw07.RoundBetter': WHATEVER THE INPUT: true; the input reads as it did. -/
def roundBetterSpec : ChangeSpec := { name := "roundBetter", fn := fun _ => fun
  | [d1, d2] => { results := [.lit (.bool true)], args := [d1, d2] }
  | _ => none }
def roundBetterRow : OpenClaim := { program := "ytknpglgpkkhhiaadoor", sum := "7325bf4326b973ef6a20cd4ca0cbe5addc26bec58361807c87214c34ce787986", func := "oilcake/oilcakelaw07.RoundBetter", spec := "roundBetter", unfollowed := true, recurses := true, named := ["oilcake/round.checks"], plainKeys := false, apart := false, laid := [("oilcake/round.checks", laid_oilcake_round_checks)] }
def RoundBetterSaid : Prop := roundBetterRow.holds Tryd.pinned (OpenSpec.ofChange roundBetterSpec)

/-- ITS FALSE NEIGHBOUR: 'it returns false'. Refute it at one input. -/
def roundBetterWrong : ChangeSpec := { name := "roundBetter", fn := fun _ => fun
  | [d1, d2] => { results := [.lit (.bool false)], args := [d1, d2] }
  | _ => none }
def RoundBetterWrongFalsely : Prop := roundBetterRow.holds Tryd.pinned (OpenSpec.ofChange roundBetterWrong)

/- THE SECOND FORM. 'bulk': how many values and letters a reading holds, each counted each time it is reached (what is shared counts as often as it is met; a slice's spare places count too). A statement '..UptoSaid' is the law's where the arguments, and the package variables that the reading takes, are together of bulk at most 1048576: NARROWER than '..Said'. Prove '..Said' where nothing that the law and all that it calls make is longer than what came in: it says more and counts as full. Else prove '..UptoSaid'. A law counts once. -/
mutual
def uptoBulk {H : Type} : DataW H → Nat
  | .lit (.string bytes) => bytes.length + 1
  | .lit _ => 1
  | .nil => 1
  | .ptr d => uptoBulk d + 1
  | .slice elems spare => uptoBulkAll elems + uptoBulkAll spare + 1
  | .agg parts => uptoBulkAll parts + 1
  | .iface _ d => uptoBulk d + 1
  | .map entries => uptoBulkEntries entries + 1
  | .held _ => 1
def uptoBulkAll {H : Type} : List (DataW H) → Nat
  | [] => 0
  | d :: r => uptoBulk d + uptoBulkAll r
def uptoBulkEntries {H : Type} : List (Lit × DataW H) → Nat
  | [] => 0
  | x :: r => uptoBulkEntry x + uptoBulkEntries r
def uptoBulkEntry {H : Type} : Lit × DataW H → Nat
  | (.string bytes, d) => bytes.length + uptoBulk d + 1
  | (_, d) => uptoBulk d + 1
 end
def uptoSmall : (H : Type) → List (DataW H) → Bool := fun _ ds => decide (uptoBulkAll ds ≤ 1048576)
def OpenSpec.upto (s : _root_.Go.ChangeSpec) : _root_.Go.OpenSpec := { _root_.Go.OpenSpec.ofChange s with cond := some uptoSmall }

/-- 'oilcakelaw07.RoundPlays', WHERE WHAT IT READS IS OF BULK AT MOST 1048576: true; the input reads as it did. -/
def roundPlaysUptoRow : OpenClaim := { program := "ytknpglgpkkhhiaadoor", sum := "7325bf4326b973ef6a20cd4ca0cbe5addc26bec58361807c87214c34ce787986", func := "oilcake/oilcakelaw07.RoundPlays", spec := "roundPlays", unfollowed := true, recurses := true, named := ["oilcake/round.checks"], plainKeys := false, apart := false, laid := [("oilcake/round.checks", laid_oilcake_round_checks)], narrowed := true }
def RoundPlaysUptoSaid : Prop := roundPlaysUptoRow.holds Tryd.pinned (OpenSpec.upto roundPlaysSpec)

/-- 'oilcakelaw07.RoundTells', WHERE WHAT IT READS IS OF BULK AT MOST 1048576: true; the input reads as it did. -/
def roundTellsUptoRow : OpenClaim := { program := "ytknpglgpkkhhiaadoor", sum := "7325bf4326b973ef6a20cd4ca0cbe5addc26bec58361807c87214c34ce787986", func := "oilcake/oilcakelaw07.RoundTells", spec := "roundTells", unfollowed := true, recurses := true, named := ["oilcake/round.checks"], plainKeys := false, apart := false, laid := [("oilcake/round.checks", laid_oilcake_round_checks)], narrowed := true }
def RoundTellsUptoSaid : Prop := roundTellsUptoRow.holds Tryd.pinned (OpenSpec.upto roundTellsSpec)

/-- 'oilcakelaw07.RoundChanges', WHERE WHAT IT READS IS OF BULK AT MOST 1048576: true; the input reads as it did. -/
def roundChangesUptoRow : OpenClaim := { program := "ytknpglgpkkhhiaadoor", sum := "7325bf4326b973ef6a20cd4ca0cbe5addc26bec58361807c87214c34ce787986", func := "oilcake/oilcakelaw07.RoundChanges", spec := "roundChanges", unfollowed := true, recurses := true, named := ["oilcake/round.checks"], plainKeys := false, apart := false, laid := [("oilcake/round.checks", laid_oilcake_round_checks)], narrowed := true }
def RoundChangesUptoSaid : Prop := roundChangesUptoRow.holds Tryd.pinned (OpenSpec.upto roundChangesSpec)

/-- 'oilcakelaw07.RoundAsks', WHERE WHAT IT READS IS OF BULK AT MOST 1048576: true; the input reads as it did. -/
def roundAsksUptoRow : OpenClaim := { program := "ytknpglgpkkhhiaadoor", sum := "7325bf4326b973ef6a20cd4ca0cbe5addc26bec58361807c87214c34ce787986", func := "oilcake/oilcakelaw07.RoundAsks", spec := "roundAsks", unfollowed := true, recurses := true, named := ["oilcake/round.checks"], plainKeys := false, apart := false, laid := [("oilcake/round.checks", laid_oilcake_round_checks)], narrowed := true }
def RoundAsksUptoSaid : Prop := roundAsksUptoRow.holds Tryd.pinned (OpenSpec.upto roundAsksSpec)

/-- 'oilcakelaw07.RoundGoes', WHERE WHAT IT READS IS OF BULK AT MOST 1048576: true; the input reads as it did. -/
def roundGoesUptoRow : OpenClaim := { program := "ytknpglgpkkhhiaadoor", sum := "7325bf4326b973ef6a20cd4ca0cbe5addc26bec58361807c87214c34ce787986", func := "oilcake/oilcakelaw07.RoundGoes", spec := "roundGoes", unfollowed := true, recurses := true, named := ["oilcake/round.checks"], plainKeys := false, apart := false, laid := [("oilcake/round.checks", laid_oilcake_round_checks)], narrowed := true }
def RoundGoesUptoSaid : Prop := roundGoesUptoRow.holds Tryd.pinned (OpenSpec.upto roundGoesSpec)

/-- 'oilcakelaw07.RoundProof', WHERE WHAT IT READS IS OF BULK AT MOST 1048576: true; the input reads as it did. -/
def roundProofUptoRow : OpenClaim := { program := "ytknpglgpkkhhiaadoor", sum := "7325bf4326b973ef6a20cd4ca0cbe5addc26bec58361807c87214c34ce787986", func := "oilcake/oilcakelaw07.RoundProof", spec := "roundProof", unfollowed := true, recurses := true, named := ["oilcake/round.checks"], plainKeys := false, apart := false, laid := [("oilcake/round.checks", laid_oilcake_round_checks)], narrowed := true }
def RoundProofUptoSaid : Prop := roundProofUptoRow.holds Tryd.pinned (OpenSpec.upto roundProofSpec)

/-- 'oilcakelaw07.RoundLast', WHERE WHAT IT READS IS OF BULK AT MOST 1048576: true; the input reads as it did. -/
def roundLastUptoRow : OpenClaim := { program := "ytknpglgpkkhhiaadoor", sum := "7325bf4326b973ef6a20cd4ca0cbe5addc26bec58361807c87214c34ce787986", func := "oilcake/oilcakelaw07.RoundLast", spec := "roundLast", unfollowed := true, recurses := true, named := ["oilcake/round.checks"], plainKeys := false, apart := false, laid := [("oilcake/round.checks", laid_oilcake_round_checks)], narrowed := true }
def RoundLastUptoSaid : Prop := roundLastUptoRow.holds Tryd.pinned (OpenSpec.upto roundLastSpec)

/-- 'oilcakelaw07.RoundShare', WHERE WHAT IT READS IS OF BULK AT MOST 1048576: true; the input reads as it did. -/
def roundShareUptoRow : OpenClaim := { program := "ytknpglgpkkhhiaadoor", sum := "7325bf4326b973ef6a20cd4ca0cbe5addc26bec58361807c87214c34ce787986", func := "oilcake/oilcakelaw07.RoundShare", spec := "roundShare", unfollowed := true, recurses := true, named := ["oilcake/round.checks"], plainKeys := false, apart := false, laid := [("oilcake/round.checks", laid_oilcake_round_checks)], narrowed := true }
def RoundShareUptoSaid : Prop := roundShareUptoRow.holds Tryd.pinned (OpenSpec.upto roundShareSpec)

/-- 'oilcakelaw07.RoundFewest', WHERE WHAT IT READS IS OF BULK AT MOST 1048576: true; the input reads as it did. -/
def roundFewestUptoRow : OpenClaim := { program := "ytknpglgpkkhhiaadoor", sum := "7325bf4326b973ef6a20cd4ca0cbe5addc26bec58361807c87214c34ce787986", func := "oilcake/oilcakelaw07.RoundFewest", spec := "roundFewest", unfollowed := true, recurses := true, named := ["oilcake/round.checks"], plainKeys := false, apart := false, laid := [("oilcake/round.checks", laid_oilcake_round_checks)], narrowed := true }
def RoundFewestUptoSaid : Prop := roundFewestUptoRow.holds Tryd.pinned (OpenSpec.upto roundFewestSpec)

/-- 'oilcakelaw07.RoundParts', WHERE WHAT IT READS IS OF BULK AT MOST 1048576: true; the input reads as it did. -/
def roundPartsUptoRow : OpenClaim := { program := "ytknpglgpkkhhiaadoor", sum := "7325bf4326b973ef6a20cd4ca0cbe5addc26bec58361807c87214c34ce787986", func := "oilcake/oilcakelaw07.RoundParts", spec := "roundParts", unfollowed := true, recurses := true, named := ["oilcake/round.checks"], plainKeys := false, apart := false, laid := [("oilcake/round.checks", laid_oilcake_round_checks)], narrowed := true }
def RoundPartsUptoSaid : Prop := roundPartsUptoRow.holds Tryd.pinned (OpenSpec.upto roundPartsSpec)

/-- 'oilcakelaw07.RoundRepeats', WHERE WHAT IT READS IS OF BULK AT MOST 1048576: true; the input reads as it did. -/
def roundRepeatsUptoRow : OpenClaim := { program := "ytknpglgpkkhhiaadoor", sum := "7325bf4326b973ef6a20cd4ca0cbe5addc26bec58361807c87214c34ce787986", func := "oilcake/oilcakelaw07.RoundRepeats", spec := "roundRepeats", unfollowed := true, recurses := true, named := ["oilcake/round.checks"], plainKeys := false, apart := false, laid := [("oilcake/round.checks", laid_oilcake_round_checks)], narrowed := true }
def RoundRepeatsUptoSaid : Prop := roundRepeatsUptoRow.holds Tryd.pinned (OpenSpec.upto roundRepeatsSpec)

/-- 'oilcakelaw07.RoundSpare', WHERE WHAT IT READS IS OF BULK AT MOST 1048576: true; the input reads as it did. -/
def roundSpareUptoRow : OpenClaim := { program := "ytknpglgpkkhhiaadoor", sum := "7325bf4326b973ef6a20cd4ca0cbe5addc26bec58361807c87214c34ce787986", func := "oilcake/oilcakelaw07.RoundSpare", spec := "roundSpare", unfollowed := true, recurses := true, named := ["oilcake/round.checks"], plainKeys := false, apart := false, laid := [("oilcake/round.checks", laid_oilcake_round_checks)], narrowed := true }
def RoundSpareUptoSaid : Prop := roundSpareUptoRow.holds Tryd.pinned (OpenSpec.upto roundSpareSpec)

/-- 'oilcakelaw07.RoundExamples', WHERE WHAT IT READS IS OF BULK AT MOST 1048576: true; the input reads as it did. -/
def roundExamplesUptoRow : OpenClaim := { program := "ytknpglgpkkhhiaadoor", sum := "7325bf4326b973ef6a20cd4ca0cbe5addc26bec58361807c87214c34ce787986", func := "oilcake/oilcakelaw07.RoundExamples", spec := "roundExamples", unfollowed := true, recurses := true, named := ["oilcake/round.checks"], plainKeys := false, apart := false, laid := [("oilcake/round.checks", laid_oilcake_round_checks)], narrowed := true }
def RoundExamplesUptoSaid : Prop := roundExamplesUptoRow.holds Tryd.pinned (OpenSpec.upto roundExamplesSpec)

/-- 'oilcakelaw07.RoundBetter', WHERE WHAT IT READS IS OF BULK AT MOST 1048576: true; the input reads as it did. -/
def roundBetterUptoRow : OpenClaim := { program := "ytknpglgpkkhhiaadoor", sum := "7325bf4326b973ef6a20cd4ca0cbe5addc26bec58361807c87214c34ce787986", func := "oilcake/oilcakelaw07.RoundBetter", spec := "roundBetter", unfollowed := true, recurses := true, named := ["oilcake/round.checks"], plainKeys := false, apart := false, laid := [("oilcake/round.checks", laid_oilcake_round_checks)], narrowed := true }
def RoundBetterUptoSaid : Prop := roundBetterUptoRow.holds Tryd.pinned (OpenSpec.upto roundBetterSpec)

end Rows
end Go.Proofs.YtknpglgpkkhhiaaDoor
