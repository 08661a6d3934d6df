/-
  NARROWER THAN 'FOR EVERY INPUT', by the rows' own cells (each row's printed sentence says how): SampleSwap: laid · SampleMore: laid · SampleFind: laid · SampleAward: laid · SampleLikely: laid · SampleWhole: laid · SampleParts: laid · SampleFair: laid · SampleTwice: laid · SampleCan: laid · SampleLeast: laid.
  DERIVED. THE GIVEN ROWS OF THIS SEAT. 11 by the template 'for every input the law returns true; each argument reads behind the call as it read before'; 0 by the template 'total and deterministic' (their statements: YtdiclofeggkjcaaDoorTotals.lean).
  GIVEN WITH THE SEED: the statements are not yours to turn. If you find one false, say at which input.
  Laid BY PROGRAM, IN A SANDBOX (cutbox-rows.mjs): the forced cells as the released guide's own fill.sh prints them over the translation 3f68dda4e2e2ce4f… (all of the seat's roots in one cut). By AI agents, Wed Nov 11 2026. No macro, syntax, notation, axiom, sorry.
-/
import Derived.Test.YtdiclofeggkjcaaDoorChecked
import GoSem.Claim
import GoSem.ClaimJoined
import GoSem.ClaimMapViews
import Derived.JoinedTies
import Derived.KernelRfl
namespace Go.Proofs.YtdiclofeggkjcaaDoor
/- THE CELL 'sum', in the pinned program and in every row, IS THE sha256 OF THE DUMP (.gsa) THAT YtdiclofeggkjcaaDoorProg.lean LOADS. Nothing in Lean hashes anything: it is a label: what it is worth is what the hold of that sum in a sandbox is worth. -/
noncomputable def Tryd.pinned : Pinned := { name := "ytdiclofeggkjcaadoor", sum := "3f68dda4e2e2ce4fff2080bb6b431e4ec61f46d02a280bfefd0b28ae1e31b8b6", checked := Tryd.checked }
namespace Rows
def none {H : Type} : Left H := { results := [], args := [] }

/- WHAT THE LISTED PACKAGE-LEVEL VARIABLES READ AS WHEN THE CALL BEGINS. Each datum BY PROGRAM (the guide's laid-datum.mjs) off the statement by which the dump's own 'gosem.cut.vars' lays the variable. In a bare row this is a premise. The card (YtdiclofeggkjcaaDoorCards.lean) ties it to the program's text. -/
def laid_oilcake_sample_doubles {H : Type} : DataW H := .iface "func table" (.agg [.agg [.iface "func" (.lit (.string [111, 105, 108, 99, 97, 107, 101, 47, 115, 97, 109, 112, 108, 101, 46, 100, 111, 117, 98, 108, 101, 115, 36, 49]))], .agg [.iface "func" (.lit (.string [111, 105, 108, 99, 97, 107, 101, 47, 115, 97, 109, 112, 108, 101, 46, 100, 111, 117, 98, 108, 101, 115, 36, 50]))], .agg [.iface "func" (.lit (.string [111, 105, 108, 99, 97, 107, 101, 47, 115, 97, 109, 112, 108, 101, 46, 100, 111, 117, 98, 108, 101, 115, 36, 51]))]])

/-- 'oilcakelaw01.SampleSwap': WHATEVER THE INPUT: true; the input reads as it did. -/
def sampleSwapSpec : ChangeSpec := { name := "sampleSwap", fn := fun _ => fun
  | [d1, d2, d3, d4] => { results := [.lit (.bool true)], args := [d1, d2, d3, d4] }
  | _ => none }
def sampleSwapRow : OpenClaim := { program := "ytdiclofeggkjcaadoor", sum := "3f68dda4e2e2ce4fff2080bb6b431e4ec61f46d02a280bfefd0b28ae1e31b8b6", func := "oilcake/oilcakelaw01.SampleSwap", spec := "sampleSwap", unfollowed := true, recurses := true, named := ["oilcake/sample.doubles"], plainKeys := false, apart := false, laid := [("oilcake/sample.doubles", laid_oilcake_sample_doubles)] }
def SampleSwapSaid : Prop := sampleSwapRow.holds Tryd.pinned (OpenSpec.ofChange sampleSwapSpec)

/-- ITS FALSE NEIGHBOUR: 'it returns false'. Refute it at one input. -/
def sampleSwapWrong : ChangeSpec := { name := "sampleSwap", fn := fun _ => fun
  | [d1, d2, d3, d4] => { results := [.lit (.bool false)], args := [d1, d2, d3, d4] }
  | _ => none }
def SampleSwapWrongFalsely : Prop := sampleSwapRow.holds Tryd.pinned (OpenSpec.ofChange sampleSwapWrong)

/-- 'oilcakelaw01.SampleMore': WHATEVER THE INPUT: true; the input reads as it did. -/
def sampleMoreSpec : ChangeSpec := { name := "sampleMore", fn := fun _ => fun
  | [d1, d2, d3, d4, d5] => { results := [.lit (.bool true)], args := [d1, d2, d3, d4, d5] }
  | _ => none }
def sampleMoreRow : OpenClaim := { program := "ytdiclofeggkjcaadoor", sum := "3f68dda4e2e2ce4fff2080bb6b431e4ec61f46d02a280bfefd0b28ae1e31b8b6", func := "oilcake/oilcakelaw01.SampleMore", spec := "sampleMore", unfollowed := true, recurses := true, named := ["oilcake/sample.doubles"], plainKeys := false, apart := false, laid := [("oilcake/sample.doubles", laid_oilcake_sample_doubles)] }
def SampleMoreSaid : Prop := sampleMoreRow.holds Tryd.pinned (OpenSpec.ofChange sampleMoreSpec)

/-- ITS FALSE NEIGHBOUR: 'it returns false'. Refute it at one input. -/
def sampleMoreWrong : ChangeSpec := { name := "sampleMore", fn := fun _ => fun
  | [d1, d2, d3, d4, d5] => { results := [.lit (.bool false)], args := [d1, d2, d3, d4, d5] }
  | _ => none }
def SampleMoreWrongFalsely : Prop := sampleMoreRow.holds Tryd.pinned (OpenSpec.ofChange sampleMoreWrong)

/-- 'oilcakelaw01.SampleFind': WHATEVER THE INPUT: true; the input reads as it did. -/
def sampleFindSpec : ChangeSpec := { name := "sampleFind", fn := fun _ => fun
  | [d1, d2, d3, d4] => { results := [.lit (.bool true)], args := [d1, d2, d3, d4] }
  | _ => none }
def sampleFindRow : OpenClaim := { program := "ytdiclofeggkjcaadoor", sum := "3f68dda4e2e2ce4fff2080bb6b431e4ec61f46d02a280bfefd0b28ae1e31b8b6", func := "oilcake/oilcakelaw01.SampleFind", spec := "sampleFind", unfollowed := true, recurses := true, named := ["oilcake/sample.doubles"], plainKeys := false, apart := false, laid := [("oilcake/sample.doubles", laid_oilcake_sample_doubles)] }
def SampleFindSaid : Prop := sampleFindRow.holds Tryd.pinned (OpenSpec.ofChange sampleFindSpec)

/-- ITS FALSE NEIGHBOUR: 'it returns false'. Refute it at one input. -/
def sampleFindWrong : ChangeSpec := { name := "sampleFind", fn := fun _ => fun
  | [d1, d2, d3, d4] => { results := [.lit (.bool false)], args := [d1, d2, d3, d4] }
  | _ => none }
def SampleFindWrongFalsely : Prop := sampleFindRow.holds Tryd.pinned (OpenSpec.ofChange sampleFindWrong)

/-- 'oilcakelaw01.SampleAward': WHATEVER THE INPUT: true; the input reads as it did. -/
def sampleAwardSpec : ChangeSpec := { name := "sampleAward", fn := fun _ => fun
  | [d1, d2, d3] => { results := [.lit (.bool true)], args := [d1, d2, d3] }
  | _ => none }
def sampleAwardRow : OpenClaim := { program := "ytdiclofeggkjcaadoor", sum := "3f68dda4e2e2ce4fff2080bb6b431e4ec61f46d02a280bfefd0b28ae1e31b8b6", func := "oilcake/oilcakelaw01.SampleAward", spec := "sampleAward", unfollowed := true, recurses := true, named := ["oilcake/sample.doubles"], plainKeys := false, apart := false, laid := [("oilcake/sample.doubles", laid_oilcake_sample_doubles)] }
def SampleAwardSaid : Prop := sampleAwardRow.holds Tryd.pinned (OpenSpec.ofChange sampleAwardSpec)

/-- ITS FALSE NEIGHBOUR: 'it returns false'. Refute it at one input. -/
def sampleAwardWrong : ChangeSpec := { name := "sampleAward", fn := fun _ => fun
  | [d1, d2, d3] => { results := [.lit (.bool false)], args := [d1, d2, d3] }
  | _ => none }
def SampleAwardWrongFalsely : Prop := sampleAwardRow.holds Tryd.pinned (OpenSpec.ofChange sampleAwardWrong)

/-- 'oilcakelaw01.SampleLikely': WHATEVER THE INPUT: true; the input reads as it did. -/
def sampleLikelySpec : ChangeSpec := { name := "sampleLikely", fn := fun _ => fun
  | [d1, d2] => { results := [.lit (.bool true)], args := [d1, d2] }
  | _ => none }
def sampleLikelyRow : OpenClaim := { program := "ytdiclofeggkjcaadoor", sum := "3f68dda4e2e2ce4fff2080bb6b431e4ec61f46d02a280bfefd0b28ae1e31b8b6", func := "oilcake/oilcakelaw01.SampleLikely", spec := "sampleLikely", unfollowed := true, recurses := true, named := ["oilcake/sample.doubles"], plainKeys := false, apart := false, laid := [("oilcake/sample.doubles", laid_oilcake_sample_doubles)] }
def SampleLikelySaid : Prop := sampleLikelyRow.holds Tryd.pinned (OpenSpec.ofChange sampleLikelySpec)

/-- ITS FALSE NEIGHBOUR: 'it returns false'. Refute it at one input. -/
def sampleLikelyWrong : ChangeSpec := { name := "sampleLikely", fn := fun _ => fun
  | [d1, d2] => { results := [.lit (.bool false)], args := [d1, d2] }
  | _ => none }
def SampleLikelyWrongFalsely : Prop := sampleLikelyRow.holds Tryd.pinned (OpenSpec.ofChange sampleLikelyWrong)

/-- 'oilcakelaw01.SampleWhole': WHATEVER THE INPUT: true; the input reads as it did. -/
def sampleWholeSpec : ChangeSpec := { name := "sampleWhole", fn := fun _ => fun
  | [d1, d2, d3] => { results := [.lit (.bool true)], args := [d1, d2, d3] }
  | _ => none }
def sampleWholeRow : OpenClaim := { program := "ytdiclofeggkjcaadoor", sum := "3f68dda4e2e2ce4fff2080bb6b431e4ec61f46d02a280bfefd0b28ae1e31b8b6", func := "oilcake/oilcakelaw01.SampleWhole", spec := "sampleWhole", unfollowed := true, recurses := true, named := ["oilcake/sample.doubles"], plainKeys := false, apart := false, laid := [("oilcake/sample.doubles", laid_oilcake_sample_doubles)] }
def SampleWholeSaid : Prop := sampleWholeRow.holds Tryd.pinned (OpenSpec.ofChange sampleWholeSpec)

/-- ITS FALSE NEIGHBOUR: 'it returns false'. Refute it at one input. -/
def sampleWholeWrong : ChangeSpec := { name := "sampleWhole", fn := fun _ => fun
  | [d1, d2, d3] => { results := [.lit (.bool false)], args := [d1, d2, d3] }
  | _ => none }
def SampleWholeWrongFalsely : Prop := sampleWholeRow.holds Tryd.pinned (OpenSpec.ofChange sampleWholeWrong)

/-- 'oilcakelaw01.SampleParts': WHATEVER THE INPUT: true; the input reads as it did. -/
def samplePartsSpec : ChangeSpec := { name := "sampleParts", fn := fun _ => fun
  | [d1, d2, d3, d4, d5] => { results := [.lit (.bool true)], args := [d1, d2, d3, d4, d5] }
  | _ => none }
def samplePartsRow : OpenClaim := { program := "ytdiclofeggkjcaadoor", sum := "3f68dda4e2e2ce4fff2080bb6b431e4ec61f46d02a280bfefd0b28ae1e31b8b6", func := "oilcake/oilcakelaw01.SampleParts", spec := "sampleParts", unfollowed := true, recurses := true, named := ["oilcake/sample.doubles"], plainKeys := false, apart := false, laid := [("oilcake/sample.doubles", laid_oilcake_sample_doubles)] }
def SamplePartsSaid : Prop := samplePartsRow.holds Tryd.pinned (OpenSpec.ofChange samplePartsSpec)

/-- ITS FALSE NEIGHBOUR: 'it returns false'. Refute it at one input. -/
def samplePartsWrong : ChangeSpec := { name := "sampleParts", fn := fun _ => fun
  | [d1, d2, d3, d4, d5] => { results := [.lit (.bool false)], args := [d1, d2, d3, d4, d5] }
  | _ => none }
def SamplePartsWrongFalsely : Prop := samplePartsRow.holds Tryd.pinned (OpenSpec.ofChange samplePartsWrong)

/-- 'oilcakelaw01.SampleFair': WHATEVER THE INPUT: true; the input reads as it did. -/
def sampleFairSpec : ChangeSpec := { name := "sampleFair", fn := fun _ => fun
  | [d1, d2, d3, d4] => { results := [.lit (.bool true)], args := [d1, d2, d3, d4] }
  | _ => none }
def sampleFairRow : OpenClaim := { program := "ytdiclofeggkjcaadoor", sum := "3f68dda4e2e2ce4fff2080bb6b431e4ec61f46d02a280bfefd0b28ae1e31b8b6", func := "oilcake/oilcakelaw01.SampleFair", spec := "sampleFair", unfollowed := true, recurses := true, named := ["oilcake/sample.doubles"], plainKeys := false, apart := false, laid := [("oilcake/sample.doubles", laid_oilcake_sample_doubles)] }
def SampleFairSaid : Prop := sampleFairRow.holds Tryd.pinned (OpenSpec.ofChange sampleFairSpec)

/-- ITS FALSE NEIGHBOUR: 'it returns false'. Refute it at one input. -/
def sampleFairWrong : ChangeSpec := { name := "sampleFair", fn := fun _ => fun
  | [d1, d2, d3, d4] => { results := [.lit (.bool false)], args := [d1, d2, d3, d4] }
  | _ => none }
def SampleFairWrongFalsely : Prop := sampleFairRow.holds Tryd.pinned (OpenSpec.ofChange sampleFairWrong)

/-- 'oilcakelaw01.SampleTwice': WHATEVER THE INPUT: true; the input reads as it did. -/
def sampleTwiceSpec : ChangeSpec := { name := "sampleTwice", fn := fun _ => fun
  | [d1, d2, d3, d4, d5, d6, d7] => { results := [.lit (.bool true)], args := [d1, d2, d3, d4, d5, d6, d7] }
  | _ => none }
def sampleTwiceRow : OpenClaim := { program := "ytdiclofeggkjcaadoor", sum := "3f68dda4e2e2ce4fff2080bb6b431e4ec61f46d02a280bfefd0b28ae1e31b8b6", func := "oilcake/oilcakelaw01.SampleTwice", spec := "sampleTwice", unfollowed := true, recurses := true, named := ["oilcake/sample.doubles"], plainKeys := false, apart := false, laid := [("oilcake/sample.doubles", laid_oilcake_sample_doubles)] }
def SampleTwiceSaid : Prop := sampleTwiceRow.holds Tryd.pinned (OpenSpec.ofChange sampleTwiceSpec)

/-- ITS FALSE NEIGHBOUR: 'it returns false'. Refute it at one input. -/
def sampleTwiceWrong : ChangeSpec := { name := "sampleTwice", fn := fun _ => fun
  | [d1, d2, d3, d4, d5, d6, d7] => { results := [.lit (.bool false)], args := [d1, d2, d3, d4, d5, d6, d7] }
  | _ => none }
def SampleTwiceWrongFalsely : Prop := sampleTwiceRow.holds Tryd.pinned (OpenSpec.ofChange sampleTwiceWrong)

/-- 'oilcakelaw01.SampleCan': WHATEVER THE INPUT: true; the input reads as it did. -/
def sampleCanSpec : ChangeSpec := { name := "sampleCan", fn := fun _ => fun
  | [d1, d2] => { results := [.lit (.bool true)], args := [d1, d2] }
  | _ => none }
def sampleCanRow : OpenClaim := { program := "ytdiclofeggkjcaadoor", sum := "3f68dda4e2e2ce4fff2080bb6b431e4ec61f46d02a280bfefd0b28ae1e31b8b6", func := "oilcake/oilcakelaw01.SampleCan", spec := "sampleCan", unfollowed := true, recurses := true, named := ["oilcake/sample.doubles"], plainKeys := false, apart := false, laid := [("oilcake/sample.doubles", laid_oilcake_sample_doubles)] }
def SampleCanSaid : Prop := sampleCanRow.holds Tryd.pinned (OpenSpec.ofChange sampleCanSpec)

/-- ITS FALSE NEIGHBOUR: 'it returns false'. Refute it at one input. -/
def sampleCanWrong : ChangeSpec := { name := "sampleCan", fn := fun _ => fun
  | [d1, d2] => { results := [.lit (.bool false)], args := [d1, d2] }
  | _ => none }
def SampleCanWrongFalsely : Prop := sampleCanRow.holds Tryd.pinned (OpenSpec.ofChange sampleCanWrong)

/-- 'oilcakelaw01.SampleLeast': WHATEVER THE INPUT: true; the input reads as it did. -/
def sampleLeastSpec : ChangeSpec := { name := "sampleLeast", fn := fun _ => fun
  | [d1, d2, d3, d4, d5, d6, d7] => { results := [.lit (.bool true)], args := [d1, d2, d3, d4, d5, d6, d7] }
  | _ => none }
def sampleLeastRow : OpenClaim := { program := "ytdiclofeggkjcaadoor", sum := "3f68dda4e2e2ce4fff2080bb6b431e4ec61f46d02a280bfefd0b28ae1e31b8b6", func := "oilcake/oilcakelaw01.SampleLeast", spec := "sampleLeast", unfollowed := true, recurses := true, named := ["oilcake/sample.doubles"], plainKeys := false, apart := false, laid := [("oilcake/sample.doubles", laid_oilcake_sample_doubles)] }
def SampleLeastSaid : Prop := sampleLeastRow.holds Tryd.pinned (OpenSpec.ofChange sampleLeastSpec)

/-- ITS FALSE NEIGHBOUR: 'it returns false'. Refute it at one input. -/
def sampleLeastWrong : ChangeSpec := { name := "sampleLeast", fn := fun _ => fun
  | [d1, d2, d3, d4, d5, d6, d7] => { results := [.lit (.bool false)], args := [d1, d2, d3, d4, d5, d6, d7] }
  | _ => none }
def SampleLeastWrongFalsely : Prop := sampleLeastRow.holds Tryd.pinned (OpenSpec.ofChange sampleLeastWrong)

/- THE SECOND FORM. 'bulk': how many values and letters a reading holds, each counted each time it is reached (what is shared counts as often as it is met; a slice's spare places count too). A statement '..UptoSaid' is the law's where the arguments, and the package variables that the reading takes, are together of bulk at most 1048576: NARROWER than '..Said'. Prove '..Said' where nothing that the law and all that it calls make is longer than what came in: it says more and counts as full. Else prove '..UptoSaid'. A law counts once. -/
mutual
def uptoBulk {H : Type} : DataW H → Nat
  | .lit (.string bytes) => bytes.length + 1
  | .lit _ => 1
  | .nil => 1
  | .ptr d => uptoBulk d + 1
  | .slice elems spare => uptoBulkAll elems + uptoBulkAll spare + 1
  | .agg parts => uptoBulkAll parts + 1
  | .iface _ d => uptoBulk d + 1
  | .map entries => uptoBulkEntries entries + 1
  | .held _ => 1
def uptoBulkAll {H : Type} : List (DataW H) → Nat
  | [] => 0
  | d :: r => uptoBulk d + uptoBulkAll r
def uptoBulkEntries {H : Type} : List (Lit × DataW H) → Nat
  | [] => 0
  | x :: r => uptoBulkEntry x + uptoBulkEntries r
def uptoBulkEntry {H : Type} : Lit × DataW H → Nat
  | (.string bytes, d) => bytes.length + uptoBulk d + 1
  | (_, d) => uptoBulk d + 1
 end
def uptoSmall : (H : Type) → List (DataW H) → Bool := fun _ ds => decide (uptoBulkAll ds ≤ 1048576)
def OpenSpec.upto (s : _root_.Go.ChangeSpec) : _root_.Go.OpenSpec := { _root_.Go.OpenSpec.ofChange s with cond := some uptoSmall }

/-- 'oilcakelaw01.SampleSwap', WHERE WHAT IT READS IS OF BULK AT MOST 1048576: true; the input reads as it did. -/
def sampleSwapUptoRow : OpenClaim := { program := "ytdiclofeggkjcaadoor", sum := "3f68dda4e2e2ce4fff2080bb6b431e4ec61f46d02a280bfefd0b28ae1e31b8b6", func := "oilcake/oilcakelaw01.SampleSwap", spec := "sampleSwap", unfollowed := true, recurses := true, named := ["oilcake/sample.doubles"], plainKeys := false, apart := false, laid := [("oilcake/sample.doubles", laid_oilcake_sample_doubles)], narrowed := true }
def SampleSwapUptoSaid : Prop := sampleSwapUptoRow.holds Tryd.pinned (OpenSpec.upto sampleSwapSpec)

/-- 'oilcakelaw01.SampleMore', WHERE WHAT IT READS IS OF BULK AT MOST 1048576: true; the input reads as it did. -/
def sampleMoreUptoRow : OpenClaim := { program := "ytdiclofeggkjcaadoor", sum := "3f68dda4e2e2ce4fff2080bb6b431e4ec61f46d02a280bfefd0b28ae1e31b8b6", func := "oilcake/oilcakelaw01.SampleMore", spec := "sampleMore", unfollowed := true, recurses := true, named := ["oilcake/sample.doubles"], plainKeys := false, apart := false, laid := [("oilcake/sample.doubles", laid_oilcake_sample_doubles)], narrowed := true }
def SampleMoreUptoSaid : Prop := sampleMoreUptoRow.holds Tryd.pinned (OpenSpec.upto sampleMoreSpec)

/-- 'oilcakelaw01.SampleFind', WHERE WHAT IT READS IS OF BULK AT MOST 1048576: true; the input reads as it did. -/
def sampleFindUptoRow : OpenClaim := { program := "ytdiclofeggkjcaadoor", sum := "3f68dda4e2e2ce4fff2080bb6b431e4ec61f46d02a280bfefd0b28ae1e31b8b6", func := "oilcake/oilcakelaw01.SampleFind", spec := "sampleFind", unfollowed := true, recurses := true, named := ["oilcake/sample.doubles"], plainKeys := false, apart := false, laid := [("oilcake/sample.doubles", laid_oilcake_sample_doubles)], narrowed := true }
def SampleFindUptoSaid : Prop := sampleFindUptoRow.holds Tryd.pinned (OpenSpec.upto sampleFindSpec)

/-- 'oilcakelaw01.SampleAward', WHERE WHAT IT READS IS OF BULK AT MOST 1048576: true; the input reads as it did. -/
def sampleAwardUptoRow : OpenClaim := { program := "ytdiclofeggkjcaadoor", sum := "3f68dda4e2e2ce4fff2080bb6b431e4ec61f46d02a280bfefd0b28ae1e31b8b6", func := "oilcake/oilcakelaw01.SampleAward", spec := "sampleAward", unfollowed := true, recurses := true, named := ["oilcake/sample.doubles"], plainKeys := false, apart := false, laid := [("oilcake/sample.doubles", laid_oilcake_sample_doubles)], narrowed := true }
def SampleAwardUptoSaid : Prop := sampleAwardUptoRow.holds Tryd.pinned (OpenSpec.upto sampleAwardSpec)

/-- 'oilcakelaw01.SampleLikely', WHERE WHAT IT READS IS OF BULK AT MOST 1048576: true; the input reads as it did. -/
def sampleLikelyUptoRow : OpenClaim := { program := "ytdiclofeggkjcaadoor", sum := "3f68dda4e2e2ce4fff2080bb6b431e4ec61f46d02a280bfefd0b28ae1e31b8b6", func := "oilcake/oilcakelaw01.SampleLikely", spec := "sampleLikely", unfollowed := true, recurses := true, named := ["oilcake/sample.doubles"], plainKeys := false, apart := false, laid := [("oilcake/sample.doubles", laid_oilcake_sample_doubles)], narrowed := true }
def SampleLikelyUptoSaid : Prop := sampleLikelyUptoRow.holds Tryd.pinned (OpenSpec.upto sampleLikelySpec)

/-- 'oilcakelaw01.SampleWhole', WHERE WHAT IT READS IS OF BULK AT MOST 1048576: true; the input reads as it did. -/
def sampleWholeUptoRow : OpenClaim := { program := "ytdiclofeggkjcaadoor", sum := "3f68dda4e2e2ce4fff2080bb6b431e4ec61f46d02a280bfefd0b28ae1e31b8b6", func := "oilcake/oilcakelaw01.SampleWhole", spec := "sampleWhole", unfollowed := true, recurses := true, named := ["oilcake/sample.doubles"], plainKeys := false, apart := false, laid := [("oilcake/sample.doubles", laid_oilcake_sample_doubles)], narrowed := true }
def SampleWholeUptoSaid : Prop := sampleWholeUptoRow.holds Tryd.pinned (OpenSpec.upto sampleWholeSpec)

/-- 'oilcakelaw01.SampleParts', WHERE WHAT IT READS IS OF BULK AT MOST 1048576: true; the input reads as it did. -/
def samplePartsUptoRow : OpenClaim := { program := "ytdiclofeggkjcaadoor", sum := "3f68dda4e2e2ce4fff2080bb6b431e4ec61f46d02a280bfefd0b28ae1e31b8b6", func := "oilcake/oilcakelaw01.SampleParts", spec := "sampleParts", unfollowed := true, recurses := true, named := ["oilcake/sample.doubles"], plainKeys := false, apart := false, laid := [("oilcake/sample.doubles", laid_oilcake_sample_doubles)], narrowed := true }
def SamplePartsUptoSaid : Prop := samplePartsUptoRow.holds Tryd.pinned (OpenSpec.upto samplePartsSpec)

/-- 'oilcakelaw01.SampleFair', WHERE WHAT IT READS IS OF BULK AT MOST 1048576: true; the input reads as it did. -/
def sampleFairUptoRow : OpenClaim := { program := "ytdiclofeggkjcaadoor", sum := "3f68dda4e2e2ce4fff2080bb6b431e4ec61f46d02a280bfefd0b28ae1e31b8b6", func := "oilcake/oilcakelaw01.SampleFair", spec := "sampleFair", unfollowed := true, recurses := true, named := ["oilcake/sample.doubles"], plainKeys := false, apart := false, laid := [("oilcake/sample.doubles", laid_oilcake_sample_doubles)], narrowed := true }
def SampleFairUptoSaid : Prop := sampleFairUptoRow.holds Tryd.pinned (OpenSpec.upto sampleFairSpec)

/-- 'oilcakelaw01.SampleTwice', WHERE WHAT IT READS IS OF BULK AT MOST 1048576: true; the input reads as it did. -/
def sampleTwiceUptoRow : OpenClaim := { program := "ytdiclofeggkjcaadoor", sum := "3f68dda4e2e2ce4fff2080bb6b431e4ec61f46d02a280bfefd0b28ae1e31b8b6", func := "oilcake/oilcakelaw01.SampleTwice", spec := "sampleTwice", unfollowed := true, recurses := true, named := ["oilcake/sample.doubles"], plainKeys := false, apart := false, laid := [("oilcake/sample.doubles", laid_oilcake_sample_doubles)], narrowed := true }
def SampleTwiceUptoSaid : Prop := sampleTwiceUptoRow.holds Tryd.pinned (OpenSpec.upto sampleTwiceSpec)

/-- 'oilcakelaw01.SampleCan', WHERE WHAT IT READS IS OF BULK AT MOST 1048576: true; the input reads as it did. -/
def sampleCanUptoRow : OpenClaim := { program := "ytdiclofeggkjcaadoor", sum := "3f68dda4e2e2ce4fff2080bb6b431e4ec61f46d02a280bfefd0b28ae1e31b8b6", func := "oilcake/oilcakelaw01.SampleCan", spec := "sampleCan", unfollowed := true, recurses := true, named := ["oilcake/sample.doubles"], plainKeys := false, apart := false, laid := [("oilcake/sample.doubles", laid_oilcake_sample_doubles)], narrowed := true }
def SampleCanUptoSaid : Prop := sampleCanUptoRow.holds Tryd.pinned (OpenSpec.upto sampleCanSpec)

/-- 'oilcakelaw01.SampleLeast', WHERE WHAT IT READS IS OF BULK AT MOST 1048576: true; the input reads as it did. -/
def sampleLeastUptoRow : OpenClaim := { program := "ytdiclofeggkjcaadoor", sum := "3f68dda4e2e2ce4fff2080bb6b431e4ec61f46d02a280bfefd0b28ae1e31b8b6", func := "oilcake/oilcakelaw01.SampleLeast", spec := "sampleLeast", unfollowed := true, recurses := true, named := ["oilcake/sample.doubles"], plainKeys := false, apart := false, laid := [("oilcake/sample.doubles", laid_oilcake_sample_doubles)], narrowed := true }
def SampleLeastUptoSaid : Prop := sampleLeastUptoRow.holds Tryd.pinned (OpenSpec.upto sampleLeastSpec)

end Rows
end Go.Proofs.YtdiclofeggkjcaaDoor
