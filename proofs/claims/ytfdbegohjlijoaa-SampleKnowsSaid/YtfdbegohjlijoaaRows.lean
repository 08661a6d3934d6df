/-
  No cell of these rows narrows 'for every input' (looked for: loops, veiled, ifaces, maps, wideKeys, modest, calm, conditions, laid).
  DERIVED. THE GIVEN ROWS OF THIS SEAT. 3 by the template 'for every input the law returns true; each argument reads behind the call as it read before'; 0 by the template 'total and deterministic' (their statements: YtfdbegohjlijoaaTotals.lean).
  GIVEN WITH THE SEED: the statements are not yours to turn. If you find one false, say at which input.
  Laid BY PROGRAM, IN A SANDBOX (cutbox-rows.mjs): the forced cells as the released guide's own fill.sh prints them over the translation 80442db95edeb4bf… (all of the seat's roots in one cut). By AI agents, Wed Nov 11 2026. No macro, syntax, notation, axiom, sorry.
-/
import Derived.Test.YtfdbegohjlijoaaChecked
import GoSem.Claim
import GoSem.ClaimJoined
import GoSem.ClaimMapViews
import Derived.JoinedTies
import Derived.KernelRfl
namespace Go.Proofs.Ytfdbegohjlijoaa
/- THE CELL 'sum', in the pinned program and in every row, IS THE sha256 OF THE DUMP (.gsa) THAT YtfdbegohjlijoaaProg.lean LOADS. Nothing in Lean hashes anything: it is a label: what it is worth is what the hold of that sum in a sandbox is worth. -/
noncomputable def Try.pinned : Pinned := { name := "ytfdbegohjlijoaa", sum := "80442db95edeb4bf81c0ebcee7dc70f711a854564d44bb258bbce21690486a39", checked := Try.checked }
namespace Rows
def none {H : Type} : Left H := { results := [], args := [] }

/-- 'oilcakelaw01.SampleTells': WHATEVER THE INPUT: true; the input reads as it did. -/
def sampleTellsSpec : ChangeSpec := { name := "sampleTells", fn := fun _ => fun
  | [d1, d2, d3, d4, d5] => { results := [.lit (.bool true)], args := [d1, d2, d3, d4, d5] }
  | _ => none }
def sampleTellsRow : OpenClaim := { program := "ytfdbegohjlijoaa", sum := "80442db95edeb4bf81c0ebcee7dc70f711a854564d44bb258bbce21690486a39", func := "oilcake/oilcakelaw01.SampleTells", spec := "sampleTells", unfollowed := true, recurses := true, plainKeys := false, apart := false }
def SampleTellsSaid : Prop := sampleTellsRow.holds Try.pinned (OpenSpec.ofChange sampleTellsSpec)

/-- ITS FALSE NEIGHBOUR: 'it returns false'. Refute it at one input. -/
def sampleTellsWrong : ChangeSpec := { name := "sampleTells", fn := fun _ => fun
  | [d1, d2, d3, d4, d5] => { results := [.lit (.bool false)], args := [d1, d2, d3, d4, d5] }
  | _ => none }
def SampleTellsWrongFalsely : Prop := sampleTellsRow.holds Try.pinned (OpenSpec.ofChange sampleTellsWrong)

/-- 'oilcakelaw01.SampleKnows': WHATEVER THE INPUT: true; the input reads as it did. -/
def sampleKnowsSpec : ChangeSpec := { name := "sampleKnows", fn := fun _ => fun
  | [d1, d2, d3, d4] => { results := [.lit (.bool true)], args := [d1, d2, d3, d4] }
  | _ => none }
def sampleKnowsRow : OpenClaim := { program := "ytfdbegohjlijoaa", sum := "80442db95edeb4bf81c0ebcee7dc70f711a854564d44bb258bbce21690486a39", func := "oilcake/oilcakelaw01.SampleKnows", spec := "sampleKnows", unfollowed := true, recurses := true, plainKeys := false, apart := false }
def SampleKnowsSaid : Prop := sampleKnowsRow.holds Try.pinned (OpenSpec.ofChange sampleKnowsSpec)

/-- ITS FALSE NEIGHBOUR: 'it returns false'. Refute it at one input. -/
def sampleKnowsWrong : ChangeSpec := { name := "sampleKnows", fn := fun _ => fun
  | [d1, d2, d3, d4] => { results := [.lit (.bool false)], args := [d1, d2, d3, d4] }
  | _ => none }
def SampleKnowsWrongFalsely : Prop := sampleKnowsRow.holds Try.pinned (OpenSpec.ofChange sampleKnowsWrong)

/-- 'oilcakelaw01.SamplePays': WHATEVER THE INPUT: true; the input reads as it did. -/
def samplePaysSpec : ChangeSpec := { name := "samplePays", fn := fun _ => fun
  | [d1, d2, d3, d4, d5, d6, d7] => { results := [.lit (.bool true)], args := [d1, d2, d3, d4, d5, d6, d7] }
  | _ => none }
def samplePaysRow : OpenClaim := { program := "ytfdbegohjlijoaa", sum := "80442db95edeb4bf81c0ebcee7dc70f711a854564d44bb258bbce21690486a39", func := "oilcake/oilcakelaw01.SamplePays", spec := "samplePays", unfollowed := true, recurses := true, plainKeys := false, apart := false }
def SamplePaysSaid : Prop := samplePaysRow.holds Try.pinned (OpenSpec.ofChange samplePaysSpec)

/-- ITS FALSE NEIGHBOUR: 'it returns false'. Refute it at one input. -/
def samplePaysWrong : ChangeSpec := { name := "samplePays", fn := fun _ => fun
  | [d1, d2, d3, d4, d5, d6, d7] => { results := [.lit (.bool false)], args := [d1, d2, d3, d4, d5, d6, d7] }
  | _ => none }
def SamplePaysWrongFalsely : Prop := samplePaysRow.holds Try.pinned (OpenSpec.ofChange samplePaysWrong)

/- THE SECOND FORM. 'bulk': how many values and letters a reading holds, each counted each time it is reached (what is shared counts as often as it is met; a slice's spare places count too). A statement '..UptoSaid' is the law's where the arguments, and the package variables that the reading takes, are together of bulk at most 1048576: NARROWER than '..Said'. Prove '..Said' where nothing that the law and all that it calls make is longer than what came in: it says more and counts as full. Else prove '..UptoSaid'. A law counts once. -/
mutual
def uptoBulk {H : Type} : DataW H → Nat
  | .lit (.string bytes) => bytes.length + 1
  | .lit _ => 1
  | .nil => 1
  | .ptr d => uptoBulk d + 1
  | .slice elems spare => uptoBulkAll elems + uptoBulkAll spare + 1
  | .agg parts => uptoBulkAll parts + 1
  | .iface _ d => uptoBulk d + 1
  | .map entries => uptoBulkEntries entries + 1
  | .held _ => 1
def uptoBulkAll {H : Type} : List (DataW H) → Nat
  | [] => 0
  | d :: r => uptoBulk d + uptoBulkAll r
def uptoBulkEntries {H : Type} : List (Lit × DataW H) → Nat
  | [] => 0
  | x :: r => uptoBulkEntry x + uptoBulkEntries r
def uptoBulkEntry {H : Type} : Lit × DataW H → Nat
  | (.string bytes, d) => bytes.length + uptoBulk d + 1
  | (_, d) => uptoBulk d + 1
 end
def uptoSmall : (H : Type) → List (DataW H) → Bool := fun _ ds => decide (uptoBulkAll ds ≤ 1048576)
def OpenSpec.upto (s : _root_.Go.ChangeSpec) : _root_.Go.OpenSpec := { _root_.Go.OpenSpec.ofChange s with cond := some uptoSmall }

/-- 'oilcakelaw01.SampleTells', WHERE WHAT IT READS IS OF BULK AT MOST 1048576: true; the input reads as it did. -/
def sampleTellsUptoRow : OpenClaim := { program := "ytfdbegohjlijoaa", sum := "80442db95edeb4bf81c0ebcee7dc70f711a854564d44bb258bbce21690486a39", func := "oilcake/oilcakelaw01.SampleTells", spec := "sampleTells", unfollowed := true, recurses := true, plainKeys := false, apart := false, narrowed := true }
def SampleTellsUptoSaid : Prop := sampleTellsUptoRow.holds Try.pinned (OpenSpec.upto sampleTellsSpec)

/-- 'oilcakelaw01.SampleKnows', WHERE WHAT IT READS IS OF BULK AT MOST 1048576: true; the input reads as it did. -/
def sampleKnowsUptoRow : OpenClaim := { program := "ytfdbegohjlijoaa", sum := "80442db95edeb4bf81c0ebcee7dc70f711a854564d44bb258bbce21690486a39", func := "oilcake/oilcakelaw01.SampleKnows", spec := "sampleKnows", unfollowed := true, recurses := true, plainKeys := false, apart := false, narrowed := true }
def SampleKnowsUptoSaid : Prop := sampleKnowsUptoRow.holds Try.pinned (OpenSpec.upto sampleKnowsSpec)

/-- 'oilcakelaw01.SamplePays', WHERE WHAT IT READS IS OF BULK AT MOST 1048576: true; the input reads as it did. -/
def samplePaysUptoRow : OpenClaim := { program := "ytfdbegohjlijoaa", sum := "80442db95edeb4bf81c0ebcee7dc70f711a854564d44bb258bbce21690486a39", func := "oilcake/oilcakelaw01.SamplePays", spec := "samplePays", unfollowed := true, recurses := true, plainKeys := false, apart := false, narrowed := true }
def SamplePaysUptoSaid : Prop := samplePaysUptoRow.holds Try.pinned (OpenSpec.upto samplePaysSpec)

end Rows
end Go.Proofs.Ytfdbegohjlijoaa
