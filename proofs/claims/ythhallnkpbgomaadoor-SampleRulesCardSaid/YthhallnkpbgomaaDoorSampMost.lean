/- The chance of at most so many. -/
import Derived.Test.YthhallnkpbgomaaDoorSampHold
namespace Go.Proofs.YthhallnkpbgomaaDoor
set_option linter.unusedSimpArgs false
set_option linter.unusedVariables false
open Go.RowKit Go.Proofs.YthhallnkpbgomaaDoor.ML Go.Proofs.YthhallnkpbgomaaDoor.Samp

theorem T.uBool : Tryd.prog.underlying 4 = some .bool := by kernel_rfl
theorem T.uMapB : Tryd.prog.underlying 150 = some (.map 4 3) := by kernel_rfl
theorem T.bools : KeyL Tryd.prog 4 Value.bool := bool_keys T.uBool

/-- 1 of a number that is at most f, else 0. -/
def oneTo (f k : Int) : Int := if k ≤ f then 1 else 0

set_option maxRecDepth 100000 in
set_option maxHeartbeats 1000000 in
theorem most1_any (k f : Int) (b : Nat) (w : World) (h : w.cell? ⟨b, 1, none⟩ = some (.int .i64 f)) :
    Calls Tryd.prog 94 #[.int .i64 k, .pointer (some ⟨b, 0, none⟩)] w fun e w' => e = .returned (.int .i64 (oneTo f k)) ∧ Below w.heap.size w w' := by
  have hmm := @run_makeMap Tryd.prog
  obtain ⟨W1, g1, g2, g3, g4⟩ := (MapIs.made Value.bool w).update T.bools T.uMapB true (.int .i64 1)
  have hlt : b < w.heap.size := lt_of_cell h
  have c1 : W1.cell? ⟨b, 1, none⟩ = some (.int .i64 f) := by
    rw [World.cell?_of_block (w := w.alloc (.map #[] 0)) (g2.block b (by simp; omega) (by intro e; have := Option.some.inj e; omega))]
    exact keepsB ((Below.refl _ w).alloc (Nat.le_refl _) _) h
  have hB := Lib.hid (((Below.refl w.heap.size w).alloc (Nat.le_refl _) (.map #[] 0)).grown g2 (by simp) (by simp))
  have hl := g3.lookup T.bools T.uMapB (T.zInt W1)
  have l1 := hl true
  have l2 := hl false
  simp [assocSet, assoc] at l1 l2
  clear g2 g3 g4 hl h
  by_cases hk : k ≤ f
  · go_enter Tryd.func94, Tryd.ntmps94
    go_wp2_with fail
    go_ret
    exact ⟨by simp [oneTo, hk], hB.out⟩
  · go_enter Tryd.func94, Tryd.ntmps94
    go_wp2_with fail
    go_ret
    exact ⟨by simp [oneTo, hk], hB.out⟩

/-- How many sets have at most so many dirty ones. -/
def mostI (N D o f : Int) : Int := midI N D o (oneTo f) (o + 1).toNat
/-- The chance of at most so many. -/
def mostV (N D o f : Int) : Value := partV (mostI N D o f).toNat (chI N o).toNat

set_option maxRecDepth 100000 in
set_option maxHeartbeats 2000000 in
theorem most_any (hb : Nat) (N lo hi D o f : Int) (mb kb cb : Nat) (w : World) (hH : Hold hb N lo hi mb kb cb w) (hN : N ≤ 36) (h0 : 0 ≤ D) (h1 : D ≤ N) (ho : 0 ≤ o ∧ o ≤ N) :
    Calls Tryd.prog 72 #[.pointer (some ⟨hb, 0, none⟩), .int .i64 D, .agg #[.int .i64 o, .int .i64 f]] w fun e w' => e = .returned (mostV N D o f) ∧ Kept mb w w' := by
  have K0 : Kept mb w ((w.alloc (.cells #[.int .i64 o, .int .i64 f] 60)).alloc (.cells #[.int .i64 0, .int .i64 0] 31)) := ((Kept.refl _ w).alloc _).alloc _
  have c1 : ((w.alloc (.cells #[.int .i64 o, .int .i64 f] 60)).alloc (.cells #[.int .i64 0, .int .i64 0] 31)).cell? ⟨w.heap.size, 1, none⟩ = some (.int .i64 f) := by simp [go_sem]
  have H0 := hH.kept K0
  have hm := Lib.hid (middle_any hb N lo hi D o mb kb cb 94 #[.pointer (some ⟨w.heap.size, 0, none⟩)] (oneTo f) _ H0 hN h0 h1 ho (fun k _ _ => by unfold oneTo; split <;> omega)
    ⟨enters_of Tryd.func94 (by kernel_rfl) rfl, fun W k hW _ _ => (most1_any k f w.heap.size W (hW.cell c1 (H0.ctr.memo.ne c1))).mono fun e W' h => ⟨h.1, .of_below h.2⟩⟩)
  have z0 : ((w.alloc (.cells #[.int .i64 o, .int .i64 f] 60)).alloc (.cells #[.int .i64 0, .int .i64 0] 31)).cell? ⟨w.heap.size + 1, 0, none⟩ = some (.int .i64 0) := by simp [go_sem]
  have z1 : ((w.alloc (.cells #[.int .i64 o, .int .i64 f] 60)).alloc (.cells #[.int .i64 0, .int .i64 0] 31)).cell? ⟨w.heap.size + 1, 1, none⟩ = some (.int .i64 0) := by simp [go_sem]
  have hne := H0.ctr.memo.ne z0
  obtain ⟨px, py, hp⟩ : ∃ px py : Int, partV (midI N D o (oneTo f) (o + 1).toNat).toNat (chI N o).toNat = .agg #[.int .i64 px, .int .i64 py] := ⟨_, _, rfl⟩
  rw [hp] at hm
  have HP : Hid (mostV N D o f = .agg #[.int .i64 px, .int .i64 py]) := hp
  have HZ := Lib.hid (And.intro hne (And.intro z0 z1))
  have HK0 := Lib.hid K0
  clear hp hne z0 z1 K0 H0 c1 hH
  go_enter Tryd.func72, Tryd.ntmps72
  go_wp2_with fail
  refine hm.out.mono ?_
  rintro e W1 ⟨rfl, hK1⟩
  have d0 := hK1.cell HZ.out.2.1 HZ.out.1
  have d1 := hK1.cell HZ.out.2.2 HZ.out.1
  have d2 : W1.frozen? ⟨w.heap.size + 1, 0, none⟩ = false := by
    rw [World.frozen?_of_block (a := ⟨w.heap.size + 1, 0, none⟩) (hK1.block (w.heap.size + 1) (by simp) HZ.out.1)]; simp [go_sem]
  have d3 : W1.frozen? ⟨w.heap.size + 1, 1, none⟩ = false := by
    rw [World.frozen?_of_block (a := ⟨w.heap.size + 1, 1, none⟩) (hK1.block (w.heap.size + 1) (by simp) HZ.out.1)]; simp [go_sem]
  have HK1 := Lib.hid (HK0.out.trans hK1)
  have hne1 := HZ.out.1
  have hst := Lib.hid (KeptR.store2 (mb := mb) (x := .int .i64 px) (y := .int .i64 py) (by simpa using hne1) d0 d1)
  clear hK1 hne1
  generalize hbb : w.heap.size + 1 = rb at *
  have HBB := Lib.hid hbb
  clear hbb
  go_wp2_with fail
  have hcell := hst.out.2
  refine bodyPost_ret (v := .agg #[.int .i64 px, .int .i64 py]) ?_ rfl ⟨?_, ?_⟩
  · simp [results, Tryd.results72, go_sem, hcell]
  · rw [HP.out]
  · exact KeptR.kept HK1.out hst.out.1 (by have := HBB.out; omega)
end Go.Proofs.YthhallnkpbgomaaDoor
