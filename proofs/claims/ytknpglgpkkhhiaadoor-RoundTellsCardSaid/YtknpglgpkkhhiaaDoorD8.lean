/- The table of what a watch is asked: what the row's list gives; a start that meets it. -/
import Derived.Test.YtknpglgpkkhhiaaDoorD7
import Derived.Test.YtknpglgpkkhhiaaDoorCards
import Derived.Test.YtknpglgpkkhhiaaDoorTie
import Derived.ProofKit
import Derived.LaidMore
import Derived.Stop.Joined
import Derived.Laws.IdiomArrays
import Derived.Lib.SmallJoins
import Derived.Deep.DeepHandedRow
import Derived.Test.YtknpglgpkkhhiaaDoorProg
import Derived.ChangeShapes
namespace Go.Proofs.YtknpglgpkkhhiaaDoor.Tab
open Go Go.ChangeShapes Go.WideShapes Go.ChangeAt Go.RowKit

abbrev laid {H : Type} : List (String × DataW H) := [("oilcake/round.checks", Rows.laid_oilcake_round_checks)]
theorem own : ownKnob Tryd.prog.godebug = none := by kernel_rfl
theorem laidOut : laidOutB Tryd.prog = true := by kernel_rfl
theorem gTab : Tryd.prog.globalNamed "oilcake/round.checks" = some 0 := by kernel_rfl
theorem tTab : (Tryd.prog.globals[0]?).map (·.type) = some 121 := by kernel_rfl
theorem c118 : Tryd.prog.cellsOf 121 = 3 := by kernel_rfl
theorem c117 : Tryd.prog.cellsOf 120 = 1 := by kernel_rfl
theorem c116 : Tryd.prog.cellsOf 26 = 1 := by kernel_rfl

/-- The door's own heap meets the condition. -/
theorem door_met (os : Os) (args : Array Value) : laidMetH Tryd.prog laid ((World.doorLaid Tryd.prog 17 os).forCall (fun _ _ => 0) ⟨#[], args, []⟩).memory :=
  laidMetH_of_parts3 (fuel := 8) (laidMet_of_run' 8 (by kernel_rfl) (by kernel_rfl)) (by kernel_rfl) (by kernel_rfl)

theorem one {W : World} {n : Nat} {c : Value} {y : DataW (List UInt8) × List MemPlace} {b : UInt8} {r : List UInt8} {f0 : FuncId} (hy : y.1 = .agg [.held (b :: r)])
    (hone : ((List.range Tryd.prog.funcs.size).filter fun f => (Tryd.prog.funcs[f]?).any (·.name.toUTF8.data.toList == b :: r)) = [f0])
    (h : DataW.trod (funcToken Tryd.prog) Tryd.prog W 0 (fun _ => true) true n 120 [c] = some y) : c = .func (.func f0) #[] #[] := by
  obtain ⟨y0, m, rfl, _, h0⟩ := trod_struct1 Tryd.underlying120 h
  simp only [c116, List.drop_zero, List.take_one, List.head?_cons, Option.toList_some] at h0
  simp at hy
  obtain ⟨z, q⟩ := y0
  simp only at hy
  subst hy
  exact func_of_trod Tryd.underlying26 hone (by simpa using h0)

theorem of_laid {W : World} (h : laidMetH Tryd.prog laid W) : TabR W := by
  obtain ⟨g, t, cs, fuel, p, hg, ht, hv, hd⟩ := h.funcs (List.mem_singleton.2 rfl)
  obtain rfl := Option.some.inj (gTab.symm.trans hg)
  obtain rfl := Option.some.inj (tTab.symm.trans ht)
  have hd' : DataW.trod (funcToken Tryd.prog) Tryd.prog W 0 (fun _ => true) true fuel 121 cs.toList = some (.agg [.agg [.held [111, 105, 108, 99, 97, 107, 101, 47, 114, 111, 117, 110, 100, 46, 99, 104, 101, 99, 107, 115, 36, 49]], .agg [.held [111, 105, 108, 99, 97, 107, 101, 47, 114, 111, 117, 110, 100, 46, 99, 104, 101, 99, 107, 115, 36, 50]], .agg [.held [111, 105, 108, 99, 97, 107, 101, 47, 114, 111, 117, 110, 100, 46, 99, 104, 101, 99, 107, 115, 36, 51]]], p) := hd
  have hl : cs.size = 3 := by
    obtain ⟨_, _, _, _, hl, _, _⟩ := DataW.trod_array Tryd.underlying121 hd'
    simpa [c118] using hl
  obtain ⟨c0, c1, c2, rfl⟩ := Joins.array3 hl
  obtain ⟨y0, y1, y2, n, hx, h0, h1, h2⟩ := trod_array3 Tryd.underlying121 c117 hd'
  simp only [Prod.mk.injEq, DataW.agg.injEq, List.cons.injEq, and_true] at hx
  obtain ⟨⟨e0, e1, e2⟩, _⟩ := hx
  have f0 := one (f0 := 135) e0.symm (by kernel_rfl) h0
  have f1 := one (f0 := 136) e1.symm (by kernel_rfl) h1
  have f2 := one (f0 := 137) e2.symm (by kernel_rfl) h2
  subst f0 f1 f2
  exact ⟨World.var?_cell hg hv 0, World.var?_cell hg hv 1, World.var?_cell hg hv 2⟩
end Go.Proofs.YtknpglgpkkhhiaaDoor.Tab

/- The bounds of small kinds of numbers. -/
namespace Go.Proofs.YtknpglgpkkhhiaaDoor
open Go
end Go.Proofs.YtknpglgpkkhhiaaDoor

