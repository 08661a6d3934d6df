/- What can be is an interval; the greatest number with a chance is the last one. No walk here. -/
import Derived.Test.YtigdpohdihopjaaGreatDoorB7
import Derived.IntWalk
import Derived.Deep.DeepCutAuto
namespace Go.Proofs.YtigdpohdihopjaaGreatDoor
set_option linter.unusedSimpArgs false
set_option linter.unusedVariables false
open Go.RowKit Go.Proofs.YtigdpohdihopjaaGreatDoor.ML Go.Proofs.YtigdpohdihopjaaGreatDoor.Samp

end Go.Proofs.YtigdpohdihopjaaGreatDoor

/- The bags that were not opened: Rest, where nothing is wrong. -/
namespace Go.Proofs.YtigdpohdihopjaaGreatDoor
set_option linter.unusedSimpArgs false
set_option linter.unusedVariables false
open Go.RowKit Go.Proofs.YtigdpohdihopjaaGreatDoor.ML Go.Proofs.YtigdpohdihopjaaGreatDoor.Samp

theorem three_stores {w : World} {b : Nat} {x y z : Value} (u v t : Value) (h0 : w.cell? ⟨b, 0, none⟩ = some x) (h1 : w.cell? ⟨b, 1, none⟩ = some y) (h2 : w.cell? ⟨b, 2, none⟩ = some z) :
    (((w.setCell ⟨b, 0, none⟩ u).setCell ⟨b, 1, none⟩ v).setCell ⟨b, 2, none⟩ t).cell? ⟨b, 0, none⟩ = some u ∧ (((w.setCell ⟨b, 0, none⟩ u).setCell ⟨b, 1, none⟩ v).setCell ⟨b, 2, none⟩ t).cell? ⟨b, 1, none⟩ = some v ∧ (((w.setCell ⟨b, 0, none⟩ u).setCell ⟨b, 1, none⟩ v).setCell ⟨b, 2, none⟩ t).cell? ⟨b, 2, none⟩ = some t := by
  refine ⟨?_, ?_, ?_⟩
  · rw [World.cell?_setCell_other _ _ _ _ (by simp), World.cell?_setCell_other _ _ _ _ (by simp)]
    exact World.cell?_setCell_same' _ _ _ (by rw [h0]; rfl)
  · rw [World.cell?_setCell_other _ _ _ _ (by simp)]
    exact World.cell?_setCell_same' _ _ _ (by rw [World.cell?_setCell_other _ _ _ _ (by simp), h1]; rfl)
  · exact World.cell?_setCell_same' _ _ _ (by rw [World.cell?_setCell_other _ _ _ _ (by simp), World.cell?_setCell_other _ _ _ _ (by simp), h2]; rfl)
abbrev i3 (a b c : Int) : Value := .agg #[.int .i64 a, .int .i64 b, .int .i64 c]
theorem can_v (N lo hi o f : Int) (w : World) (v : Value) (hv : Hid (canR N lo hi o f = v)) : Calls Tryz.prog 25 #[.agg #[.int .i64 N, .int .i64 lo, .int .i64 hi], i2 o f] w fun e w' => e = .returned v ∧ Below w.heap.size w w' := by
  have := can_any N lo hi o f w
  rw [hv.out] at this
  exact this

set_option maxRecDepth 100000 in
set_option maxHeartbeats 4000000 in
theorem rest_full (N lo hi f : Int) (w : World) (hc : 1 ≤ N ∧ N ≤ 36 ∧ 0 ≤ lo ∧ lo ≤ hi ∧ hi ≤ N) (hd : 0 ≤ N ∧ N ≤ N ∧ 0 ≤ f ∧ f ≤ N) (cx cy : Int) (hv : Hid (canR N lo hi N f = .tuple #[i2 cx cy, .int .i64 0])) :
    Calls Tryz.prog 8 #[.agg #[.int .i64 N, .int .i64 lo, .int .i64 hi], i2 N f] w fun e w' => e = .returned (.tuple #[i3 0 0 0, .int .i64 6]) ∧ Below w.heap.size w w' := by
  have hB0 : Below w.heap.size w (((w.alloc (.cells #[.int .i64 N, .int .i64 lo, .int .i64 hi] 28)).alloc (.cells #[.int .i64 N, .int .i64 f] 37)).alloc (.cells #[.int .i64 0, .int .i64 0, .int .i64 0] 28)) := (((Below.refl _ w).alloc (Nat.le_refl _) _).alloc (by simp) _).alloc (by simp; omega) _
  have c0_0 : (((w.alloc (.cells #[.int .i64 N, .int .i64 lo, .int .i64 hi] 28)).alloc (.cells #[.int .i64 N, .int .i64 f] 37)).alloc (.cells #[.int .i64 0, .int .i64 0, .int .i64 0] 28)).cell? ⟨w.heap.size, 0, none⟩ = some (.int .i64 N) := by simp [go_sem]
  have c0_1 : (((w.alloc (.cells #[.int .i64 N, .int .i64 lo, .int .i64 hi] 28)).alloc (.cells #[.int .i64 N, .int .i64 f] 37)).alloc (.cells #[.int .i64 0, .int .i64 0, .int .i64 0] 28)).cell? ⟨w.heap.size, 1, none⟩ = some (.int .i64 lo) := by simp [go_sem]
  have c0_2 : (((w.alloc (.cells #[.int .i64 N, .int .i64 lo, .int .i64 hi] 28)).alloc (.cells #[.int .i64 N, .int .i64 f] 37)).alloc (.cells #[.int .i64 0, .int .i64 0, .int .i64 0] 28)).cell? ⟨w.heap.size, 2, none⟩ = some (.int .i64 hi) := by simp [go_sem]
  have c1_0 : (((w.alloc (.cells #[.int .i64 N, .int .i64 lo, .int .i64 hi] 28)).alloc (.cells #[.int .i64 N, .int .i64 f] 37)).alloc (.cells #[.int .i64 0, .int .i64 0, .int .i64 0] 28)).cell? ⟨w.heap.size + 1, 0, none⟩ = some (.int .i64 N) := by simp [go_sem]
  have c1_1 : (((w.alloc (.cells #[.int .i64 N, .int .i64 lo, .int .i64 hi] 28)).alloc (.cells #[.int .i64 N, .int .i64 f] 37)).alloc (.cells #[.int .i64 0, .int .i64 0, .int .i64 0] 28)).cell? ⟨w.heap.size + 1, 1, none⟩ = some (.int .i64 f) := by simp [go_sem]
  have c2_0 : (((w.alloc (.cells #[.int .i64 N, .int .i64 lo, .int .i64 hi] 28)).alloc (.cells #[.int .i64 N, .int .i64 f] 37)).alloc (.cells #[.int .i64 0, .int .i64 0, .int .i64 0] 28)).cell? ⟨w.heap.size + 1 + 1, 0, none⟩ = some (.int .i64 0) := by simp [go_sem]
  have c2_1 : (((w.alloc (.cells #[.int .i64 N, .int .i64 lo, .int .i64 hi] 28)).alloc (.cells #[.int .i64 N, .int .i64 f] 37)).alloc (.cells #[.int .i64 0, .int .i64 0, .int .i64 0] 28)).cell? ⟨w.heap.size + 1 + 1, 1, none⟩ = some (.int .i64 0) := by simp [go_sem]
  have c2_2 : (((w.alloc (.cells #[.int .i64 N, .int .i64 lo, .int .i64 hi] 28)).alloc (.cells #[.int .i64 N, .int .i64 f] 37)).alloc (.cells #[.int .i64 0, .int .i64 0, .int .i64 0] 28)).cell? ⟨w.heap.size + 1 + 1, 2, none⟩ = some (.int .i64 0) := by simp [go_sem]
  have f2_0 : (((w.alloc (.cells #[.int .i64 N, .int .i64 lo, .int .i64 hi] 28)).alloc (.cells #[.int .i64 N, .int .i64 f] 37)).alloc (.cells #[.int .i64 0, .int .i64 0, .int .i64 0] 28)).frozen? ⟨w.heap.size + 1 + 1, 0, none⟩ = false := by simp [go_sem]
  have f2_1 : (((w.alloc (.cells #[.int .i64 N, .int .i64 lo, .int .i64 hi] 28)).alloc (.cells #[.int .i64 N, .int .i64 f] 37)).alloc (.cells #[.int .i64 0, .int .i64 0, .int .i64 0] 28)).frozen? ⟨w.heap.size + 1 + 1, 1, none⟩ = false := by simp [go_sem]
  have f2_2 : (((w.alloc (.cells #[.int .i64 N, .int .i64 lo, .int .i64 hi] 28)).alloc (.cells #[.int .i64 N, .int .i64 f] 37)).alloc (.cells #[.int .i64 0, .int .i64 0, .int .i64 0] 28)).frozen? ⟨w.heap.size + 1 + 1, 2, none⟩ = false := by simp [go_sem]
  go_enter Tryz.func8, Tryz.ntmps8
  go_wp2_with fail
  refine (can_v N lo hi N f _ _ hv).mono ?_
  rintro e w1 ⟨rfl, hB1⟩
  have hBz : Below w.heap.size w w1 := hB0.trans (hB1.mono (by simp; omega))
  have hzz : w.heap.size ≤ w1.heap.size := hBz.size
  have hzn : w.heap.size + 3 ≤ w1.heap.size := by have := hB1.size; simp at this; omega
  have kc0_0 := keepsB hB1 c0_0
  have kc0_1 := keepsB hB1 c0_1
  have kc0_2 := keepsB hB1 c0_2
  have kc1_0 := keepsB hB1 c1_0
  have kc1_1 := keepsB hB1 c1_1
  have kc2_0 := keepsB hB1 c2_0
  have kc2_1 := keepsB hB1 c2_1
  have kc2_2 := keepsB hB1 c2_2
  have kf2_0 := (hB1.frozen (p := ⟨w.heap.size + 1 + 1, 0, none⟩) (by first | (simp; done) | (simp; omega))).trans f2_0
  have kf2_1 := (hB1.frozen (p := ⟨w.heap.size + 1 + 1, 1, none⟩) (by first | (simp; done) | (simp; omega))).trans f2_1
  have kf2_2 := (hB1.frozen (p := ⟨w.heap.size + 1 + 1, 2, none⟩) (by first | (simp; done) | (simp; omega))).trans f2_2
  clear hB0 hB1 c0_0 c0_1 c0_2 c1_0 c1_1 c2_0 c2_1 c2_2 f2_0 f2_1 f2_2
  generalize hbb : w.heap.size = bb at *
  have HBB := Lib.hid hbb
  clear hbb
  have HB_w1 := Lib.hid (show Below bb w w1 from hBz)
  have hz_w1 : bb ≤ w1.heap.size := hzz
  have FA : ∀ W, Free.Bel w1 W → W.cell? ⟨bb, 0, none⟩ = some (.int .i64 N) ∧ W.cell? ⟨bb, 1, none⟩ = some (.int .i64 lo) ∧ W.cell? ⟨bb, 2, none⟩ = some (.int .i64 hi) ∧ W.cell? ⟨bb + 1, 0, none⟩ = some (.int .i64 N) ∧ W.cell? ⟨bb + 1, 1, none⟩ = some (.int .i64 f) ∧ W.cell? ⟨bb + 1 + 1, 0, none⟩ = some (.int .i64 0) ∧ W.cell? ⟨bb + 1 + 1, 1, none⟩ = some (.int .i64 0) ∧ W.cell? ⟨bb + 1 + 1, 2, none⟩ = some (.int .i64 0) ∧ W.frozen? ⟨bb + 1 + 1, 0, none⟩ = false ∧ W.frozen? ⟨bb + 1 + 1, 1, none⟩ = false ∧ W.frozen? ⟨bb + 1 + 1, 2, none⟩ = false ∧ bb + 3 ≤ W.heap.size ∧ bb ≤ W.heap.size := fun W hW => ⟨keepsB hW kc0_0, keepsB hW kc0_1, keepsB hW kc0_2, keepsB hW kc1_0, keepsB hW kc1_1, keepsB hW kc2_0, keepsB hW kc2_1, keepsB hW kc2_2, (hW.frozen (p := ⟨bb + 1 + 1, 0, none⟩) (by simp; omega)).trans kf2_0, (hW.frozen (p := ⟨bb + 1 + 1, 1, none⟩) (by simp; omega)).trans kf2_1, (hW.frozen (p := ⟨bb + 1 + 1, 2, none⟩) (by simp; omega)).trans kf2_2, Nat.le_trans hzn hW.size, Nat.le_trans hz_w1 hW.size⟩
  have KR : Free.Bel w1 w1 := Free.Bel.refl _
  clear hBz hzz kc0_0 kc0_1 kc0_2 kc1_0 kc1_1 kc2_0 kc2_1 kc2_2 kf2_0 kf2_1 kf2_2 hzn
  have KA0 : Free.Bel w1 (w1.alloc (.cells #[.int .i64 cx, .int .i64 cy] 26)) := belAlloc _ _
  have n0 : (w1.alloc (.cells #[.int .i64 cx, .int .i64 cy] 26)).cell? ⟨w1.heap.size, 0, none⟩ = some (.int .i64 cx) := by simp [go_sem]
  have n1 : (w1.alloc (.cells #[.int .i64 cx, .int .i64 cy] 26)).cell? ⟨w1.heap.size, 1, none⟩ = some (.int .i64 cy) := by simp [go_sem]
  have hz := FA _ KA0
  have ts := three_stores (w := (w1.alloc (.cells #[.int .i64 cx, .int .i64 cy] 26))) (b := bb + 1 + 1) (x := .int .i64 0) (y := .int .i64 0) (z := .int .i64 0) (.int .i64 0) (.int .i64 0) (.int .i64 0) (by simp [hz]) (by simp [hz]) (by simp [hz])
  have hBB : Below bb w ((((w1.alloc (.cells #[.int .i64 cx, .int .i64 cy] 26)).setCell ⟨bb + 1 + 1, 0, none⟩ (.int .i64 0)).setCell ⟨bb + 1 + 1, 1, none⟩ (.int .i64 0)).setCell ⟨bb + 1 + 1, 2, none⟩ (.int .i64 0)) := (((HB_w1.out.trans (KA0.mono hz_w1)).setCell (p := ⟨bb + 1 + 1, 0, none⟩) (by simp; omega) _).setCell (p := ⟨bb + 1 + 1, 1, none⟩) (by simp; omega) _).setCell (p := ⟨bb + 1 + 1, 2, none⟩) (by simp; omega) _
  have HTS := Lib.hid ts
  have HBS := Lib.hid hBB
  clear hz ts hBB
  go_wp2_with fail
  have r0 := HTS.out.1
  have r1 := HTS.out.2.1
  have r2 := HTS.out.2.2
  have hbb := HBB.out
  subst hbb
  exact bodyPost_ret (v := .tuple #[i3 (0) (0) (0), .int .i64 6]) (by simp [results, Tryz.results8, go_sem, r0, r1, r2]) rfl ⟨rfl, HBS.out⟩

set_option maxRecDepth 100000 in
set_option maxHeartbeats 4000000 in
theorem rest_ok (N lo hi o f : Int) (w : World) (hc : 1 ≤ N ∧ N ≤ 36 ∧ 0 ≤ lo ∧ lo ≤ hi ∧ hi ≤ N) (hd : 0 ≤ o ∧ o ≤ N ∧ 0 ≤ f ∧ f ≤ o) (cx cy : Int) (hv : Hid (canR N lo hi o f = .tuple #[i2 cx cy, .int .i64 0])) (hb : 0 ≤ cx ∧ cx ≤ 36 ∧ 0 ≤ cy ∧ cy ≤ 36) (hoN : o < N) :
    Calls Tryz.prog 8 #[.agg #[.int .i64 N, .int .i64 lo, .int .i64 hi], i2 o f] w fun e w' => e = .returned (.tuple #[i3 (N - o) (cx - f) (cy - f), .int .i64 0]) ∧ Below w.heap.size w w' := by
  have hB0 : Below w.heap.size w (((w.alloc (.cells #[.int .i64 N, .int .i64 lo, .int .i64 hi] 28)).alloc (.cells #[.int .i64 o, .int .i64 f] 37)).alloc (.cells #[.int .i64 0, .int .i64 0, .int .i64 0] 28)) := (((Below.refl _ w).alloc (Nat.le_refl _) _).alloc (by simp) _).alloc (by simp; omega) _
  have c0_0 : (((w.alloc (.cells #[.int .i64 N, .int .i64 lo, .int .i64 hi] 28)).alloc (.cells #[.int .i64 o, .int .i64 f] 37)).alloc (.cells #[.int .i64 0, .int .i64 0, .int .i64 0] 28)).cell? ⟨w.heap.size, 0, none⟩ = some (.int .i64 N) := by simp [go_sem]
  have c0_1 : (((w.alloc (.cells #[.int .i64 N, .int .i64 lo, .int .i64 hi] 28)).alloc (.cells #[.int .i64 o, .int .i64 f] 37)).alloc (.cells #[.int .i64 0, .int .i64 0, .int .i64 0] 28)).cell? ⟨w.heap.size, 1, none⟩ = some (.int .i64 lo) := by simp [go_sem]
  have c0_2 : (((w.alloc (.cells #[.int .i64 N, .int .i64 lo, .int .i64 hi] 28)).alloc (.cells #[.int .i64 o, .int .i64 f] 37)).alloc (.cells #[.int .i64 0, .int .i64 0, .int .i64 0] 28)).cell? ⟨w.heap.size, 2, none⟩ = some (.int .i64 hi) := by simp [go_sem]
  have c1_0 : (((w.alloc (.cells #[.int .i64 N, .int .i64 lo, .int .i64 hi] 28)).alloc (.cells #[.int .i64 o, .int .i64 f] 37)).alloc (.cells #[.int .i64 0, .int .i64 0, .int .i64 0] 28)).cell? ⟨w.heap.size + 1, 0, none⟩ = some (.int .i64 o) := by simp [go_sem]
  have c1_1 : (((w.alloc (.cells #[.int .i64 N, .int .i64 lo, .int .i64 hi] 28)).alloc (.cells #[.int .i64 o, .int .i64 f] 37)).alloc (.cells #[.int .i64 0, .int .i64 0, .int .i64 0] 28)).cell? ⟨w.heap.size + 1, 1, none⟩ = some (.int .i64 f) := by simp [go_sem]
  have c2_0 : (((w.alloc (.cells #[.int .i64 N, .int .i64 lo, .int .i64 hi] 28)).alloc (.cells #[.int .i64 o, .int .i64 f] 37)).alloc (.cells #[.int .i64 0, .int .i64 0, .int .i64 0] 28)).cell? ⟨w.heap.size + 1 + 1, 0, none⟩ = some (.int .i64 0) := by simp [go_sem]
  have c2_1 : (((w.alloc (.cells #[.int .i64 N, .int .i64 lo, .int .i64 hi] 28)).alloc (.cells #[.int .i64 o, .int .i64 f] 37)).alloc (.cells #[.int .i64 0, .int .i64 0, .int .i64 0] 28)).cell? ⟨w.heap.size + 1 + 1, 1, none⟩ = some (.int .i64 0) := by simp [go_sem]
  have c2_2 : (((w.alloc (.cells #[.int .i64 N, .int .i64 lo, .int .i64 hi] 28)).alloc (.cells #[.int .i64 o, .int .i64 f] 37)).alloc (.cells #[.int .i64 0, .int .i64 0, .int .i64 0] 28)).cell? ⟨w.heap.size + 1 + 1, 2, none⟩ = some (.int .i64 0) := by simp [go_sem]
  have f2_0 : (((w.alloc (.cells #[.int .i64 N, .int .i64 lo, .int .i64 hi] 28)).alloc (.cells #[.int .i64 o, .int .i64 f] 37)).alloc (.cells #[.int .i64 0, .int .i64 0, .int .i64 0] 28)).frozen? ⟨w.heap.size + 1 + 1, 0, none⟩ = false := by simp [go_sem]
  have f2_1 : (((w.alloc (.cells #[.int .i64 N, .int .i64 lo, .int .i64 hi] 28)).alloc (.cells #[.int .i64 o, .int .i64 f] 37)).alloc (.cells #[.int .i64 0, .int .i64 0, .int .i64 0] 28)).frozen? ⟨w.heap.size + 1 + 1, 1, none⟩ = false := by simp [go_sem]
  have f2_2 : (((w.alloc (.cells #[.int .i64 N, .int .i64 lo, .int .i64 hi] 28)).alloc (.cells #[.int .i64 o, .int .i64 f] 37)).alloc (.cells #[.int .i64 0, .int .i64 0, .int .i64 0] 28)).frozen? ⟨w.heap.size + 1 + 1, 2, none⟩ = false := by simp [go_sem]
  go_enter Tryz.func8, Tryz.ntmps8
  go_wp2_with fail
  refine (can_v N lo hi o f _ _ hv).mono ?_
  rintro e w1 ⟨rfl, hB1⟩
  have hBz : Below w.heap.size w w1 := hB0.trans (hB1.mono (by simp; omega))
  have hzz : w.heap.size ≤ w1.heap.size := hBz.size
  have hzn : w.heap.size + 3 ≤ w1.heap.size := by have := hB1.size; simp at this; omega
  have kc0_0 := keepsB hB1 c0_0
  have kc0_1 := keepsB hB1 c0_1
  have kc0_2 := keepsB hB1 c0_2
  have kc1_0 := keepsB hB1 c1_0
  have kc1_1 := keepsB hB1 c1_1
  have kc2_0 := keepsB hB1 c2_0
  have kc2_1 := keepsB hB1 c2_1
  have kc2_2 := keepsB hB1 c2_2
  have kf2_0 := (hB1.frozen (p := ⟨w.heap.size + 1 + 1, 0, none⟩) (by first | (simp; done) | (simp; omega))).trans f2_0
  have kf2_1 := (hB1.frozen (p := ⟨w.heap.size + 1 + 1, 1, none⟩) (by first | (simp; done) | (simp; omega))).trans f2_1
  have kf2_2 := (hB1.frozen (p := ⟨w.heap.size + 1 + 1, 2, none⟩) (by first | (simp; done) | (simp; omega))).trans f2_2
  clear hB0 hB1 c0_0 c0_1 c0_2 c1_0 c1_1 c2_0 c2_1 c2_2 f2_0 f2_1 f2_2
  generalize hbb : w.heap.size = bb at *
  have HBB := Lib.hid hbb
  clear hbb
  have HB_w1 := Lib.hid (show Below bb w w1 from hBz)
  have hz_w1 : bb ≤ w1.heap.size := hzz
  have FA : ∀ W, Free.Bel w1 W → W.cell? ⟨bb, 0, none⟩ = some (.int .i64 N) ∧ W.cell? ⟨bb, 1, none⟩ = some (.int .i64 lo) ∧ W.cell? ⟨bb, 2, none⟩ = some (.int .i64 hi) ∧ W.cell? ⟨bb + 1, 0, none⟩ = some (.int .i64 o) ∧ W.cell? ⟨bb + 1, 1, none⟩ = some (.int .i64 f) ∧ W.cell? ⟨bb + 1 + 1, 0, none⟩ = some (.int .i64 0) ∧ W.cell? ⟨bb + 1 + 1, 1, none⟩ = some (.int .i64 0) ∧ W.cell? ⟨bb + 1 + 1, 2, none⟩ = some (.int .i64 0) ∧ W.frozen? ⟨bb + 1 + 1, 0, none⟩ = false ∧ W.frozen? ⟨bb + 1 + 1, 1, none⟩ = false ∧ W.frozen? ⟨bb + 1 + 1, 2, none⟩ = false ∧ bb + 3 ≤ W.heap.size ∧ bb ≤ W.heap.size := fun W hW => ⟨keepsB hW kc0_0, keepsB hW kc0_1, keepsB hW kc0_2, keepsB hW kc1_0, keepsB hW kc1_1, keepsB hW kc2_0, keepsB hW kc2_1, keepsB hW kc2_2, (hW.frozen (p := ⟨bb + 1 + 1, 0, none⟩) (by simp; omega)).trans kf2_0, (hW.frozen (p := ⟨bb + 1 + 1, 1, none⟩) (by simp; omega)).trans kf2_1, (hW.frozen (p := ⟨bb + 1 + 1, 2, none⟩) (by simp; omega)).trans kf2_2, Nat.le_trans hzn hW.size, Nat.le_trans hz_w1 hW.size⟩
  have KR : Free.Bel w1 w1 := Free.Bel.refl _
  clear hBz hzz kc0_0 kc0_1 kc0_2 kc1_0 kc1_1 kc2_0 kc2_1 kc2_2 kf2_0 kf2_1 kf2_2 hzn
  have k0 : (o == N) = false := by simp; omega
  have v1 : IntKind.i64.wrap (N - o) = N - o := IntWalk.i64_in _ (by omega)
  have v2 : IntKind.i64.wrap (cx - f) = cx - f := IntWalk.i64_in _ (by omega)
  have v3 : IntKind.i64.wrap (cy - f) = cy - f := IntWalk.i64_in _ (by omega)
  have KA0 : Free.Bel w1 (w1.alloc (.cells #[.int .i64 cx, .int .i64 cy] 26)) := belAlloc _ _
  have n0 : (w1.alloc (.cells #[.int .i64 cx, .int .i64 cy] 26)).cell? ⟨w1.heap.size, 0, none⟩ = some (.int .i64 cx) := by simp [go_sem]
  have n1 : (w1.alloc (.cells #[.int .i64 cx, .int .i64 cy] 26)).cell? ⟨w1.heap.size, 1, none⟩ = some (.int .i64 cy) := by simp [go_sem]
  have hz := FA _ KA0
  have ts := three_stores (w := (w1.alloc (.cells #[.int .i64 cx, .int .i64 cy] 26))) (b := bb + 1 + 1) (x := .int .i64 0) (y := .int .i64 0) (z := .int .i64 0) (.int .i64 (N - o)) (.int .i64 (cx - f)) (.int .i64 (cy - f)) (by simp [hz]) (by simp [hz]) (by simp [hz])
  have hBB : Below bb w ((((w1.alloc (.cells #[.int .i64 cx, .int .i64 cy] 26)).setCell ⟨bb + 1 + 1, 0, none⟩ (.int .i64 (N - o))).setCell ⟨bb + 1 + 1, 1, none⟩ (.int .i64 (cx - f))).setCell ⟨bb + 1 + 1, 2, none⟩ (.int .i64 (cy - f))) := (((HB_w1.out.trans (KA0.mono hz_w1)).setCell (p := ⟨bb + 1 + 1, 0, none⟩) (by simp; omega) _).setCell (p := ⟨bb + 1 + 1, 1, none⟩) (by simp; omega) _).setCell (p := ⟨bb + 1 + 1, 2, none⟩) (by simp; omega) _
  have HTS := Lib.hid ts
  have HBS := Lib.hid hBB
  clear hz ts hBB
  go_wp2_with fail
  have r0 := HTS.out.1
  have r1 := HTS.out.2.1
  have r2 := HTS.out.2.2
  have hbb := HBB.out
  subst hbb
  exact bodyPost_ret (v := .tuple #[i3 ((N - o)) ((cx - f)) ((cy - f)), .int .i64 0]) (by simp [results, Tryz.results8, go_sem, r0, r1, r2]) rfl ⟨rfl, HBS.out⟩
end Go.Proofs.YtigdpohdihopjaaGreatDoor

/- Short names for long ones. -/
namespace Go.Proofs.YtigdpohdihopjaaGreatDoor
theorem bt {a b c : World} (h : Free.Bel a b) (k : Free.Bel b c) : Free.Bel a c := Free.Bel.trans _ _ _ h k
theorem al1.{u} {α : Type u} {l : List α} {a : α} {i : Nat} : (a :: l)[i + 1]? = l[i]? := rfl
theorem al2.{u} {α : Type u} {l : List α} {a : α} : (a :: l)[0]? = some a := rfl
theorem al3.{u} {α : Type u} {xs : Array α} {i : Nat} {d : α} : xs.getD i d = xs[i]?.getD d := by simp
theorem al4.{u} {α : Type u} {l : List α} {i : Nat} : l.toArray[i]? = l[i]? := by simp
theorem al5.{u} {α : Type u} {a b : α} : (some a).getD b = a := rfl
theorem an1.{u} {α : Type u} (l : List α) : [] ++ l = l := rfl
theorem an2.{u} {α : Type u} {a : α} {l m : List α} : (a :: l) ++ m = a :: (l ++ m) := rfl
end Go.Proofs.YtigdpohdihopjaaGreatDoor

/- What is taken off in the middle: Fair. -/
namespace Go.Proofs.YtigdpohdihopjaaGreatDoor
set_option linter.unusedSimpArgs false
set_option linter.unusedVariables false
open Go.RowKit Go.Proofs.YtigdpohdihopjaaGreatDoor.ML Go.Proofs.YtigdpohdihopjaaGreatDoor.Samp

/-- The error of what is asked. -/
def fairE (N lo hi D o : Int) (xs : List (Int × Int)) : Int := firstE [unlessV (inB lo hi [D]) 2, agreedE xs, unlessV (inB 0 N [o]) 2]
def fairAll (N lo hi D o : Int) (xs : List (Int × Int)) : Value :=
  .tuple (if cargoB N lo hi = false then #[zeroPart, .int .i64 10] else if fairE N lo hi D o xs ≠ 0 then #[zeroPart, .int .i64 (fairE N lo hi D o xs)] else #[partV (midI N D o (fun k => offV xs o k) (o + 1).toNat).toNat (chI N o).toNat, .int .i64 0])
theorem offR_cons (o k : Int) (x : Int × Int × Int) (l : List (Int × Int × Int)) : offR o k (x :: l) = if offB o k x.2 = true then x.2.2 else offR o k l := by
  unfold offR
  rw [List.find?_cons]
  cases offB o k x.2 <;> simp
theorem offV_bound (xs : List (Int × Int)) (o f : Int) (h : ∀ t ∈ xs, 0 ≤ t.2 ∧ t.2 ≤ 1000000) : 0 ≤ offV xs o f ∧ offV xs o f ≤ 1000000 := by
  have key : ∀ l : List (Int × Int × Int), (∀ x ∈ l, 0 ≤ x.2.2 ∧ x.2.2 ≤ 1000000) → 0 ≤ offR o f l ∧ offR o f l ≤ 1000000 := by
    intro l
    induction l with
    | nil => intro _; simp [offR]
    | cons x l ih =>
      intro hl
      rw [offR_cons]
      split
      · exact hl x (by simp)
      · exact ih fun y hy => hl y (by simp [hy])
  exact key _ fun x hx => h _ (revT_mem xs _ (Nat.le_refl _) x hx)
theorem agreedFrom_pence : ∀ (xs : List (Int × Int)) (a b : Int), 0 ≤ b → agreedFrom a b xs = true → ∀ t ∈ xs, 0 ≤ t.2 ∧ t.2 ≤ 1000000
  | [], _, _, _, _, t, ht => by cases ht
  | x :: r, a, b, hb, h, t, ht => by
    simp [agreedFrom, inB] at h
    rcases List.mem_cons.1 ht with rfl | ht
    · omega
    · exact agreedFrom_pence r x.1 x.2 (by omega) h.2.2 t ht
theorem agreedE_pence {xs : List (Int × Int)} (h : agreedE xs = 0) : ∀ t ∈ xs, 0 ≤ t.2 ∧ t.2 ≤ 1000000 := by
  unfold agreedE at h
  split at h
  · cases h
  · rename_i h1
    exact agreedFrom_pence xs 0 0 (by omega) (by simpa using h1)

set_option maxRecDepth 100000 in
set_option maxHeartbeats 1000000 in
theorem fair1_any (xs : List (Int × Int)) (v : Value) (o k : Int) (b1 b2 : Nat) (w : World) (hv : PL xs v w) (h1 : w.cell? ⟨b1, 0, none⟩ = some v) (h2 : w.cell? ⟨b2, 0, none⟩ = some (.int .i64 o)) (hxs : ∀ t ∈ xs, 0 ≤ t.1 ∧ t.1 ≤ 100) (ho : 0 ≤ o ∧ o ≤ 36) (hk : 0 ≤ k ∧ k ≤ 36) :
    Calls Tryz.prog 54 #[.int .i64 k, .pointer (some ⟨b1, 0, none⟩), .pointer (some ⟨b2, 0, none⟩)] w fun e w' => e = .returned (.int .i64 (offV xs o k)) ∧ Below w.heap.size w w' := by
  have h0 := Lib.hid (off_any xs v o k w hv hxs ho hk)
  obtain ⟨pp, cap, rfl, hm, hcells⟩ := hv
  clear hcells
  go_enter Tryz.func54, Tryz.ntmps54
  go_wp2_with fail
  refine h0.out.mono ?_
  rintro e w1 ⟨rfl, hB⟩
  go_wp2_with fail
  go_ret
  exact ⟨rfl, hB⟩

set_option maxRecDepth 100000 in
set_option maxHeartbeats 4000000 in
theorem fair_a (N lo hi D o : Int) (ts : List (Int × Int)) (pp : Option Addr) (cap : Nat) (w : World) (hv : PL ts (.slice pp ts.length cap) w) (hc : cargoB N lo hi = false) :
    Calls Tryz.prog 16 #[.agg #[.int .i64 N, .int .i64 lo, .int .i64 hi], .int .i64 D, .int .i64 o, .slice pp ts.length cap] w fun e w' => e = .returned (.tuple #[.agg #[.int .i64 0, .int .i64 0], .int .i64 10]) ∧ Below w.heap.size w w' := by
  have HV := Lib.hid hv
  clear hv
  have hB0 : Below w.heap.size w ((((w.alloc (.cells #[.int .i64 N, .int .i64 lo, .int .i64 hi] 28)).alloc (.cells #[.int .i64 o] 3)).alloc (.cells #[(.slice pp ts.length cap)] 54)).alloc (.cells #[.int .i64 0, .int .i64 0] 31)) := ((((Below.refl _ w).alloc (Nat.le_refl _) _).alloc (by simp) _).alloc (by simp; omega) _).alloc (by simp; omega) _
  have c0_0 : ((((w.alloc (.cells #[.int .i64 N, .int .i64 lo, .int .i64 hi] 28)).alloc (.cells #[.int .i64 o] 3)).alloc (.cells #[(.slice pp ts.length cap)] 54)).alloc (.cells #[.int .i64 0, .int .i64 0] 31)).cell? ⟨w.heap.size, 0, none⟩ = some (.int .i64 N) := by simp [go_sem]
  have c0_1 : ((((w.alloc (.cells #[.int .i64 N, .int .i64 lo, .int .i64 hi] 28)).alloc (.cells #[.int .i64 o] 3)).alloc (.cells #[(.slice pp ts.length cap)] 54)).alloc (.cells #[.int .i64 0, .int .i64 0] 31)).cell? ⟨w.heap.size, 1, none⟩ = some (.int .i64 lo) := by simp [go_sem]
  have c0_2 : ((((w.alloc (.cells #[.int .i64 N, .int .i64 lo, .int .i64 hi] 28)).alloc (.cells #[.int .i64 o] 3)).alloc (.cells #[(.slice pp ts.length cap)] 54)).alloc (.cells #[.int .i64 0, .int .i64 0] 31)).cell? ⟨w.heap.size, 2, none⟩ = some (.int .i64 hi) := by simp [go_sem]
  have c1_0 : ((((w.alloc (.cells #[.int .i64 N, .int .i64 lo, .int .i64 hi] 28)).alloc (.cells #[.int .i64 o] 3)).alloc (.cells #[(.slice pp ts.length cap)] 54)).alloc (.cells #[.int .i64 0, .int .i64 0] 31)).cell? ⟨w.heap.size + 1, 0, none⟩ = some (.int .i64 o) := by simp [go_sem]
  have c2_0 : ((((w.alloc (.cells #[.int .i64 N, .int .i64 lo, .int .i64 hi] 28)).alloc (.cells #[.int .i64 o] 3)).alloc (.cells #[(.slice pp ts.length cap)] 54)).alloc (.cells #[.int .i64 0, .int .i64 0] 31)).cell? ⟨w.heap.size + 1 + 1, 0, none⟩ = some ((.slice pp ts.length cap)) := by simp [go_sem]
  have c3_0 : ((((w.alloc (.cells #[.int .i64 N, .int .i64 lo, .int .i64 hi] 28)).alloc (.cells #[.int .i64 o] 3)).alloc (.cells #[(.slice pp ts.length cap)] 54)).alloc (.cells #[.int .i64 0, .int .i64 0] 31)).cell? ⟨w.heap.size + 1 + 1 + 1, 0, none⟩ = some (.int .i64 0) := by simp [go_sem]
  have c3_1 : ((((w.alloc (.cells #[.int .i64 N, .int .i64 lo, .int .i64 hi] 28)).alloc (.cells #[.int .i64 o] 3)).alloc (.cells #[(.slice pp ts.length cap)] 54)).alloc (.cells #[.int .i64 0, .int .i64 0] 31)).cell? ⟨w.heap.size + 1 + 1 + 1, 1, none⟩ = some (.int .i64 0) := by simp [go_sem]
  have f3_0 : ((((w.alloc (.cells #[.int .i64 N, .int .i64 lo, .int .i64 hi] 28)).alloc (.cells #[.int .i64 o] 3)).alloc (.cells #[(.slice pp ts.length cap)] 54)).alloc (.cells #[.int .i64 0, .int .i64 0] 31)).frozen? ⟨w.heap.size + 1 + 1 + 1, 0, none⟩ = false := by simp [go_sem]
  have f3_1 : ((((w.alloc (.cells #[.int .i64 N, .int .i64 lo, .int .i64 hi] 28)).alloc (.cells #[.int .i64 o] 3)).alloc (.cells #[(.slice pp ts.length cap)] 54)).alloc (.cells #[.int .i64 0, .int .i64 0] 31)).frozen? ⟨w.heap.size + 1 + 1 + 1, 1, none⟩ = false := by simp [go_sem]
  go_enter Tryz.func16, Tryz.ntmps16
  go_wp2_with fail
  refine (begun_bad N lo hi _ hc).mono ?_
  rintro e w1 ⟨rfl, hB1⟩
  have K_w1 : Free.Bel ((((w.alloc (.cells #[.int .i64 N, .int .i64 lo, .int .i64 hi] 28)).alloc (.cells #[.int .i64 o] 3)).alloc (.cells #[(.slice pp ts.length cap)] 54)).alloc (.cells #[.int .i64 0, .int .i64 0] 31)) w1 := hB1
  clear hB1
  have hq : w.heap.size + 4 = ((((w.alloc (.cells #[.int .i64 N, .int .i64 lo, .int .i64 hi] 28)).alloc (.cells #[.int .i64 o] 3)).alloc (.cells #[(.slice pp ts.length cap)] 54)).alloc (.cells #[.int .i64 0, .int .i64 0] 31)).heap.size := by simp
  generalize ((((w.alloc (.cells #[.int .i64 N, .int .i64 lo, .int .i64 hi] 28)).alloc (.cells #[.int .i64 o] 3)).alloc (.cells #[(.slice pp ts.length cap)] 54)).alloc (.cells #[.int .i64 0, .int .i64 0] 31)) = W0 at *
  generalize hbb : w.heap.size = bb at *
  have HBB := Lib.hid hbb
  clear hbb
  have HB0 := Lib.hid hB0
  have hq0 : bb + 4 ≤ W0.heap.size := by omega
  clear hB0 hq
  have FA : ∀ W, Free.Bel W0 W → W.cell? ⟨bb, 0, none⟩ = some (.int .i64 N) ∧ W.cell? ⟨bb, 1, none⟩ = some (.int .i64 lo) ∧ W.cell? ⟨bb, 2, none⟩ = some (.int .i64 hi) ∧ W.cell? ⟨bb + 1, 0, none⟩ = some (.int .i64 o) ∧ W.cell? ⟨bb + 1 + 1, 0, none⟩ = some ((.slice pp ts.length cap)) ∧ W.cell? ⟨bb + 1 + 1 + 1, 0, none⟩ = some (.int .i64 0) ∧ W.cell? ⟨bb + 1 + 1 + 1, 1, none⟩ = some (.int .i64 0) ∧ W.frozen? ⟨bb + 1 + 1 + 1, 0, none⟩ = false ∧ W.frozen? ⟨bb + 1 + 1 + 1, 1, none⟩ = false ∧ bb + 4 ≤ W.heap.size := fun W hW => ⟨keepsB hW c0_0, keepsB hW c0_1, keepsB hW c0_2, keepsB hW c1_0, keepsB hW c2_0, keepsB hW c3_0, keepsB hW c3_1, (hW.frozen (p := ⟨bb + 1 + 1 + 1, 0, none⟩) (by simp; omega)).trans f3_0, (hW.frozen (p := ⟨bb + 1 + 1 + 1, 1, none⟩) (by simp; omega)).trans f3_1, Nat.le_trans hq0 hW.size⟩
  clear c0_0 c0_1 c0_2 c1_0 c2_0 c3_0 c3_1 f3_0 f3_1
  go_wp2_with fail
  have hz := FA w1 K_w1
  have n3 := noop2 (w := w1) (b := bb + 1 + 1 + 1) (x := .int .i64 0) (y := .int .i64 0) (by simp [hz]) (by simp [hz])
  rw [n3]
  have hbb := HBB.out
  subst hbb
  exact bodyPost_ret (v := .tuple #[.agg #[.int .i64 0, .int .i64 0], .int .i64 10]) (by simp [results, Tryz.results16, go_sem, hz]) rfl ⟨rfl, HB0.out.trans (K_w1.mono (by omega))⟩

set_option maxRecDepth 100000 in
set_option maxHeartbeats 4000000 in
theorem fair_b (N lo hi D o : Int) (ts : List (Int × Int)) (pp : Option Addr) (cap : Nat) (w : World) (hv : PL ts (.slice pp ts.length cap) w) (hc : cargoB N lo hi = true) (x y u : Int) (q : Bool) (hx : Hid (unlessV (inB lo hi [D]) 2 = x)) (hy : Hid (agreedE ts = y)) (hq : Hid (inB 0 N [o] = q)) (hzz : Hid (unlessV q 2 = u)) (z : Int) (hz : Hid (firstE [x, y, u] = z)) (hz0 : (z != 0) = true) :
    Calls Tryz.prog 16 #[.agg #[.int .i64 N, .int .i64 lo, .int .i64 hi], .int .i64 D, .int .i64 o, .slice pp ts.length cap] w fun e w' => e = .returned (.tuple #[.agg #[.int .i64 0, .int .i64 0], .int .i64 z]) ∧ Below w.heap.size w w' := by
  have HV := Lib.hid hv
  clear hv
  have hB0 : Below w.heap.size w ((((w.alloc (.cells #[.int .i64 N, .int .i64 lo, .int .i64 hi] 28)).alloc (.cells #[.int .i64 o] 3)).alloc (.cells #[(.slice pp ts.length cap)] 54)).alloc (.cells #[.int .i64 0, .int .i64 0] 31)) := ((((Below.refl _ w).alloc (Nat.le_refl _) _).alloc (by simp) _).alloc (by simp; omega) _).alloc (by simp; omega) _
  have c0_0 : ((((w.alloc (.cells #[.int .i64 N, .int .i64 lo, .int .i64 hi] 28)).alloc (.cells #[.int .i64 o] 3)).alloc (.cells #[(.slice pp ts.length cap)] 54)).alloc (.cells #[.int .i64 0, .int .i64 0] 31)).cell? ⟨w.heap.size, 0, none⟩ = some (.int .i64 N) := by simp [go_sem]
  have c0_1 : ((((w.alloc (.cells #[.int .i64 N, .int .i64 lo, .int .i64 hi] 28)).alloc (.cells #[.int .i64 o] 3)).alloc (.cells #[(.slice pp ts.length cap)] 54)).alloc (.cells #[.int .i64 0, .int .i64 0] 31)).cell? ⟨w.heap.size, 1, none⟩ = some (.int .i64 lo) := by simp [go_sem]
  have c0_2 : ((((w.alloc (.cells #[.int .i64 N, .int .i64 lo, .int .i64 hi] 28)).alloc (.cells #[.int .i64 o] 3)).alloc (.cells #[(.slice pp ts.length cap)] 54)).alloc (.cells #[.int .i64 0, .int .i64 0] 31)).cell? ⟨w.heap.size, 2, none⟩ = some (.int .i64 hi) := by simp [go_sem]
  have c1_0 : ((((w.alloc (.cells #[.int .i64 N, .int .i64 lo, .int .i64 hi] 28)).alloc (.cells #[.int .i64 o] 3)).alloc (.cells #[(.slice pp ts.length cap)] 54)).alloc (.cells #[.int .i64 0, .int .i64 0] 31)).cell? ⟨w.heap.size + 1, 0, none⟩ = some (.int .i64 o) := by simp [go_sem]
  have c2_0 : ((((w.alloc (.cells #[.int .i64 N, .int .i64 lo, .int .i64 hi] 28)).alloc (.cells #[.int .i64 o] 3)).alloc (.cells #[(.slice pp ts.length cap)] 54)).alloc (.cells #[.int .i64 0, .int .i64 0] 31)).cell? ⟨w.heap.size + 1 + 1, 0, none⟩ = some ((.slice pp ts.length cap)) := by simp [go_sem]
  have c3_0 : ((((w.alloc (.cells #[.int .i64 N, .int .i64 lo, .int .i64 hi] 28)).alloc (.cells #[.int .i64 o] 3)).alloc (.cells #[(.slice pp ts.length cap)] 54)).alloc (.cells #[.int .i64 0, .int .i64 0] 31)).cell? ⟨w.heap.size + 1 + 1 + 1, 0, none⟩ = some (.int .i64 0) := by simp [go_sem]
  have c3_1 : ((((w.alloc (.cells #[.int .i64 N, .int .i64 lo, .int .i64 hi] 28)).alloc (.cells #[.int .i64 o] 3)).alloc (.cells #[(.slice pp ts.length cap)] 54)).alloc (.cells #[.int .i64 0, .int .i64 0] 31)).cell? ⟨w.heap.size + 1 + 1 + 1, 1, none⟩ = some (.int .i64 0) := by simp [go_sem]
  have f3_0 : ((((w.alloc (.cells #[.int .i64 N, .int .i64 lo, .int .i64 hi] 28)).alloc (.cells #[.int .i64 o] 3)).alloc (.cells #[(.slice pp ts.length cap)] 54)).alloc (.cells #[.int .i64 0, .int .i64 0] 31)).frozen? ⟨w.heap.size + 1 + 1 + 1, 0, none⟩ = false := by simp [go_sem]
  have f3_1 : ((((w.alloc (.cells #[.int .i64 N, .int .i64 lo, .int .i64 hi] 28)).alloc (.cells #[.int .i64 o] 3)).alloc (.cells #[(.slice pp ts.length cap)] 54)).alloc (.cells #[.int .i64 0, .int .i64 0] 31)).frozen? ⟨w.heap.size + 1 + 1 + 1, 1, none⟩ = false := by simp [go_sem]
  go_enter Tryz.func16, Tryz.ntmps16
  go_wp2_with fail
  refine (begun_ok N lo hi _ hc).mono ?_
  rintro e w1 ⟨hb, mb, kb, cb, rfl, hH, hmb, hhb, hB1⟩
  have K_w1 : Free.Bel ((((w.alloc (.cells #[.int .i64 N, .int .i64 lo, .int .i64 hi] 28)).alloc (.cells #[.int .i64 o] 3)).alloc (.cells #[(.slice pp ts.length cap)] 54)).alloc (.cells #[.int .i64 0, .int .i64 0] 31)) w1 := hB1
  have HHB := Lib.hid hhb
  clear hB1 hhb
  have hq : w.heap.size + 4 = ((((w.alloc (.cells #[.int .i64 N, .int .i64 lo, .int .i64 hi] 28)).alloc (.cells #[.int .i64 o] 3)).alloc (.cells #[(.slice pp ts.length cap)] 54)).alloc (.cells #[.int .i64 0, .int .i64 0] 31)).heap.size := by simp
  generalize ((((w.alloc (.cells #[.int .i64 N, .int .i64 lo, .int .i64 hi] 28)).alloc (.cells #[.int .i64 o] 3)).alloc (.cells #[(.slice pp ts.length cap)] 54)).alloc (.cells #[.int .i64 0, .int .i64 0] 31)) = W0 at *
  generalize hbb : w.heap.size = bb at *
  have HBB := Lib.hid hbb
  clear hbb
  have HB0 := Lib.hid hB0
  have hq0 : bb + 4 ≤ W0.heap.size := by omega
  clear hB0 hq
  have FA : ∀ W, Free.Bel W0 W → W.cell? ⟨bb, 0, none⟩ = some (.int .i64 N) ∧ W.cell? ⟨bb, 1, none⟩ = some (.int .i64 lo) ∧ W.cell? ⟨bb, 2, none⟩ = some (.int .i64 hi) ∧ W.cell? ⟨bb + 1, 0, none⟩ = some (.int .i64 o) ∧ W.cell? ⟨bb + 1 + 1, 0, none⟩ = some ((.slice pp ts.length cap)) ∧ W.cell? ⟨bb + 1 + 1 + 1, 0, none⟩ = some (.int .i64 0) ∧ W.cell? ⟨bb + 1 + 1 + 1, 1, none⟩ = some (.int .i64 0) ∧ W.frozen? ⟨bb + 1 + 1 + 1, 0, none⟩ = false ∧ W.frozen? ⟨bb + 1 + 1 + 1, 1, none⟩ = false ∧ bb + 4 ≤ W.heap.size := fun W hW => ⟨keepsB hW c0_0, keepsB hW c0_1, keepsB hW c0_2, keepsB hW c1_0, keepsB hW c2_0, keepsB hW c3_0, keepsB hW c3_1, (hW.frozen (p := ⟨bb + 1 + 1 + 1, 0, none⟩) (by simp; omega)).trans f3_0, (hW.frozen (p := ⟨bb + 1 + 1 + 1, 1, none⟩) (by simp; omega)).trans f3_1, Nat.le_trans hq0 hW.size⟩
  clear c0_0 c0_1 c0_2 c1_0 c2_0 c3_0 c3_1 f3_0 f3_1
  obtain ⟨a0_0, a0_1, a0_2, a1_0, a2_0, a3_0, a3_1, b3_0, b3_1, aq⟩ := FA w1 K_w1
  have hm0 : W0.heap.size ≤ mb := hmb
  have HH1 := Lib.hid hH
  have HHo : ∀ W, Kept mb w1 W → Hold hb N lo hi mb kb cb W := fun W hW => HH1.out.kept hW
  have HC : ∀ W, Kept mb w1 W → W.cell? ⟨hb, 0, none⟩ = some (.int .i64 N) ∧ W.cell? ⟨hb, 1, none⟩ = some (.int .i64 lo) ∧ W.cell? ⟨hb, 2, none⟩ = some (.int .i64 hi) ∧ W.cell? ⟨hb, 3, none⟩ = some (setsV kb cb) ∧ mb < W.heap.size ∧ hb < W.heap.size := fun W hW => ⟨(HHo W hW).bags, (HHo W hW).lo, (HHo W hW).hi, (HHo W hW).sets, (by obtain ⟨l, hl, _⟩ := (HHo W hW).ctr.memo; exact hl.lt), lt_of_cell (HHo W hW).bags⟩
  have FB : ∀ W, Kept mb w1 W → W.cell? ⟨bb, 0, none⟩ = some (.int .i64 N) ∧ W.cell? ⟨bb, 1, none⟩ = some (.int .i64 lo) ∧ W.cell? ⟨bb, 2, none⟩ = some (.int .i64 hi) ∧ W.cell? ⟨bb + 1, 0, none⟩ = some (.int .i64 o) ∧ W.cell? ⟨bb + 1 + 1, 0, none⟩ = some ((.slice pp ts.length cap)) ∧ W.cell? ⟨bb + 1 + 1 + 1, 0, none⟩ = some (.int .i64 0) ∧ W.cell? ⟨bb + 1 + 1 + 1, 1, none⟩ = some (.int .i64 0) ∧ W.frozen? ⟨bb + 1 + 1 + 1, 0, none⟩ = false ∧ W.frozen? ⟨bb + 1 + 1 + 1, 1, none⟩ = false ∧ bb + 4 ≤ W.heap.size := fun W hW => ⟨hW.cell a0_0 (by show _ ≠ mb; simp; omega), hW.cell a0_1 (by show _ ≠ mb; simp; omega), hW.cell a0_2 (by show _ ≠ mb; simp; omega), hW.cell a1_0 (by show _ ≠ mb; simp; omega), hW.cell a2_0 (by show _ ≠ mb; simp; omega), hW.cell a3_0 (by show _ ≠ mb; simp; omega), hW.cell a3_1 (by show _ ≠ mb; simp; omega), (World.frozen?_of_block (w := w1) (a := ⟨bb + 1 + 1 + 1, 0, none⟩) (hW.block _ (by simp; omega) (by simp; omega))).trans b3_0, (World.frozen?_of_block (w := w1) (a := ⟨bb + 1 + 1 + 1, 1, none⟩) (hW.block _ (by simp; omega) (by simp; omega))).trans b3_1, Nat.le_trans aq hW.size⟩
  have HBE := Lib.hid (fun (W : World) (hW : Kept mb w1 W) => HB0.out.trans ((hW.below K_w1 hm0).mono (by omega)))
  have HK : Kept mb w1 w1 := Kept.refl _ _
  have HM := Lib.hid hm0
  clear a0_0 a0_1 a0_2 a1_0 a2_0 a3_0 a3_1 b3_0 b3_1 aq FA hH hmb K_w1
  go_wp2_with fail
  have HV0 := Lib.hid (fun (W : World) (hW : Kept mb w1 W) => HV.out.keeps (HBB.out.symm ▸ HBE.out W hW))
  have hF : ∀ W, Free.Bel w1.drew W → Kept mb w1 W := fun W hW => (HK.drew).trans (.of_below hW)
  refine Free.wp_free (R := Free.Bel) (by kernel_rfl) (by kernel_rfl) Free.Bel.refl Free.Bel.trans ?_
  refine Free.Chain.ex ?_ [] [10] (by kernel_rfl) (by kernel_rfl) rfl Free.Bel.refl ?_ ?_
  rotate_left 2
  simp only [an1, an2]
  refine Free.Chain.ex ?_ [] [1] (by kernel_rfl) (by kernel_rfl) rfl Free.Bel.refl ?_ ?_
  rotate_left 2
  simp only [an1, an2]
  rotate_left
  iterate 2 (rotate_left; intro ev W hb hR hO hD; have hS := hF W hR; obtain ⟨hb1, hb2, hb3⟩ := hb; simp only [Free.AllDeps, Free.AllOuts, Free.At, al1, al2, al3, al4, al5, and_true] at hO hD; go_simp; rfl)
  refine Free.Chain.pr (SlI [D]) [(1, 23)] [] (by kernel_rfl) (by kernel_rfl) rfl (SlI.stable _) ?_ ?_
  · (intro ev W hb hR hO hD; have hS := hF W hR; obtain ⟨hb1, hb2, hb3⟩ := hb; simp only [Free.AllDeps, Free.AllOuts, Free.At, al1, al2, al3, al4, al5, and_true] at hO hD; go_simp; exact ⟨belAlloc _ _, SlI.one _ _ _⟩)
  simp only [an1, an2]
  refine Free.Chain.pr (fun v _ => v = .int .i64 x) [(0, 22), (2, 24)] [] (by kernel_rfl) (by kernel_rfl) rfl (fun _ _ _ _ h => h) ?_ ?_
  · (intro ev W hb hR hO hD; have hS := hF W hR; obtain ⟨hb1, hb2, hb3⟩ := hb; simp only [Free.AllDeps, Free.AllOuts, Free.At, al1, al2, al3, al4, al5, and_true] at hO hD; go_simp; refine yields_enter ?_; (with_reducible refine (may_any hb lo hi [D] _ x _ (by simp [maxLen]) (HHo _ hS).lo (HHo _ hS).hi hD.2 hx.out).mono ?_); rintro e W2 ⟨rfl, hB2⟩; exact ⟨_, rfl, hB2, rfl⟩)
  simp only [an1, an2]
  refine Free.Chain.ex ?_ [] [7] (by kernel_rfl) (by kernel_rfl) rfl Free.Bel.refl ?_ ?_
  rotate_left 2
  simp only [an1, an2]
  rotate_left
  rotate_left
  · (intro ev W hb hR hO hD; have hS := hF W hR; obtain ⟨hb1, hb2, hb3⟩ := hb; simp only [Free.AllDeps, Free.AllOuts, Free.At, al1, al2, al3, al4, al5, and_true] at hO hD; go_simp; rfl)
  refine Free.Chain.pr (fun v _ => v = .int .i64 y) [(4, 26), (3, 25)] [] (by kernel_rfl) (by kernel_rfl) rfl (fun _ _ _ _ h => h) ?_ ?_
  · (intro ev W hb hR hO hD; have hS := hF W hR; obtain ⟨hb1, hb2, hb3⟩ := hb; simp only [Free.AllDeps, Free.AllOuts, Free.At, al1, al2, al3, al4, al5, and_true] at hO hD; go_simp; refine yields_enter ?_; (with_reducible refine (agreed_v ts (.slice pp ts.length cap) _ (HV0.out _ hS) y hy).mono ?_); rintro e W2 ⟨rfl, hB2⟩; exact ⟨_, rfl, hB2, rfl⟩)
  simp only [an1, an2]
  refine Free.Chain.ex ?_ [] [10] (by kernel_rfl) (by kernel_rfl) rfl Free.Bel.refl ?_ ?_
  rotate_left 2
  simp only [an1, an2]
  refine Free.Chain.ex ?_ [(6, 28)] [] (by kernel_rfl) (by kernel_rfl) rfl Free.Bel.refl ?_ ?_
  rotate_left 2
  simp only [an1, an2]
  refine Free.Chain.ex ?_ [(7, 29)] [] (by kernel_rfl) (by kernel_rfl) rfl Free.Bel.refl ?_ ?_
  rotate_left 2
  simp only [an1, an2]
  refine Free.Chain.ex ?_ [(8, 30)] [] (by kernel_rfl) (by kernel_rfl) rfl Free.Bel.refl ?_ ?_
  rotate_left 2
  simp only [an1, an2]
  refine Free.Chain.ex ?_ [(9, 31)] [] (by kernel_rfl) (by kernel_rfl) rfl Free.Bel.refl ?_ ?_
  rotate_left 2
  simp only [an1, an2]
  refine Free.Chain.ex ?_ [] [6] (by kernel_rfl) (by kernel_rfl) rfl Free.Bel.refl ?_ ?_
  rotate_left 2
  simp only [an1, an2]
  rotate_left
  iterate 6 (rotate_left; intro ev W hb hR hO hD; have hS := hF W hR; obtain ⟨hb1, hb2, hb3⟩ := hb; simp only [Free.AllDeps, Free.AllOuts, Free.At, al1, al2, al3, al4, al5, and_true] at hO hD; go_simp; rfl)
  refine Free.Chain.pr (SlI [o]) [(11, 33)] [] (by kernel_rfl) (by kernel_rfl) rfl (SlI.stable _) ?_ ?_
  · (intro ev W hb hR hO hD; have hS := hF W hR; obtain ⟨hb1, hb2, hb3⟩ := hb; simp only [Free.AllDeps, Free.AllOuts, Free.At, al1, al2, al3, al4, al5, and_true] at hO hD; go_simp; exact ⟨belAlloc _ _, SlI.one _ _ _⟩)
  simp only [an1, an2]
  refine Free.Chain.pr (fun v _ => v = .bool q) [(10, 32), (12, 34), (5, 27)] [] (by kernel_rfl) (by kernel_rfl) rfl (fun _ _ _ _ h => h) ?_ ?_
  · (intro ev W hb hR hO hD; have hS := hF W hR; obtain ⟨hb1, hb2, hb3⟩ := hb; simp only [Free.AllDeps, Free.AllOuts, Free.At, al1, al2, al3, al4, al5, and_true] at hO hD; go_simp; refine yields_enter ?_; (with_reducible refine (in_sl _ _ [o] q _ _ (by simp [maxLen]) hq.out hD.2.1).mono ?_); rintro e W2 ⟨rfl, hB2⟩; exact ⟨_, rfl, hB2, rfl⟩)
  simp only [an1, an2]
  refine Free.Chain.pr (fun v _ => v = .int .i64 u) [(13, 35), (13, 35)] [] (by kernel_rfl) (by kernel_rfl) rfl (fun _ _ _ _ h => h) ?_ ?_
  · (intro ev W hb hR hO hD; have hS := hF W hR; obtain ⟨hb1, hb2, hb3⟩ := hb; simp only [Free.AllDeps, Free.AllOuts, Free.At, al1, al2, al3, al4, al5, and_true] at hO hD; go_simp; refine yields_enter ?_; (with_reducible refine (unless_any q 2 u _ hzz.out).mono ?_); rintro e W2 ⟨rfl, rfl⟩; exact ⟨_, rfl, Free.Bel.refl _, rfl⟩)
  simp only [an1, an2]
  refine Free.Chain.pr (SlI [x, y, u]) [(3, 25), (5, 27), (14, 36)] [] (by kernel_rfl) (by kernel_rfl) rfl (SlI.stable _) ?_ ?_
  · (intro ev W hb hR hO hD; have hS := hF W hR; obtain ⟨hb1, hb2, hb3⟩ := hb; simp only [Free.AllDeps, Free.AllOuts, Free.At, al1, al2, al3, al4, al5, and_true] at hO hD; go_simp; exact ⟨belAlloc _ _, SlI.three _ _ _ _ _⟩)
  simp only [an1, an2]
  refine Free.Chain.pr (fun v _ => v = .int .i64 z) [(15, 37), (14, 36)] [] (by kernel_rfl) (by kernel_rfl) rfl (fun _ _ _ _ h => h) ?_ ?_
  · (intro ev W hb hR hO hD; have hS := hF W hR; obtain ⟨hb1, hb2, hb3⟩ := hb; simp only [Free.AllDeps, Free.AllOuts, Free.At, al1, al2, al3, al4, al5, and_true] at hO hD; go_simp; refine yields_enter ?_; (with_reducible refine (first_sl [x, y, u] z _ _ (by simp [maxLen]) hz.out hD.1).mono ?_); rintro e W2 ⟨rfl, rfl⟩; exact ⟨_, rfl, Free.Bel.refl _, rfl⟩)
  simp only [an1, an2]
  refine Free.Chain.ex ?_ [(16, 38), (16, 38), (0, 22), (1, 23), (2, 24), (3, 25), (4, 26), (5, 27), (6, 28), (7, 29), (8, 30), (9, 31), (10, 32), (11, 33), (12, 34), (13, 35), (14, 36), (15, 37), (16, 38)] [] (by kernel_rfl) (by kernel_rfl) rfl Free.Bel.refl ?_ ?_
  rotate_left 2
  simp only [an1, an2]
  rotate_left
  rotate_left
  · (intro ev W hb hR hO hD; have hS := hF W hR; obtain ⟨hb1, hb2, hb3⟩ := hb; simp only [Free.AllDeps, Free.AllOuts, Free.At, al1, al2, al3, al4, al5, and_true] at hO hD; go_simp; rfl)
  intro xs w2 hR hV
  simp only [Free.AllV, Free.At, List.length_cons, List.length_nil, Nat.reduceAdd, List.getElem?_cons_succ, List.getElem?_cons_zero, true_and] at hV
  simp only [Free.putsFrom, Act.put, Nat.zero_add, Nat.reduceAdd, hV, List.setIfInBounds_toArray, List.set_cons_succ, List.set_cons_zero]
  have HK2 := hF w2 hR
  clear hR hV hF HK
  go_wp2_with fail
  have hz9 := FB w2 HK2
  have n3 := noop2 (w := w2) (b := bb + 1 + 1 + 1) (x := .int .i64 0) (y := .int .i64 0) (by simp [hz9]) (by simp [hz9])
  rw [n3]
  have hbb := HBB.out
  subst hbb
  exact bodyPost_ret (v := .tuple #[.agg #[.int .i64 0, .int .i64 0], .int .i64 z]) (by simp [results, Tryz.results16, go_sem, hz9]) rfl ⟨rfl, HBE.out _ HK2⟩

set_option maxRecDepth 100000 in
set_option maxHeartbeats 4000000 in
theorem fair_c (N lo hi D o : Int) (ts : List (Int × Int)) (pp : Option Addr) (cap : Nat) (w : World) (hv : PL ts (.slice pp ts.length cap) w) (hc : cargoB N lo hi = true) (hx : Hid (unlessV (inB lo hi [D]) 2 = 0)) (hy : Hid (agreedE ts = 0)) (hq : Hid (inB 0 N [o] = true)) (hzz : Hid (unlessV true 2 = 0)) (hz : Hid (firstE [0, 0, 0] = 0)) (hD : lo ≤ D ∧ D ≤ hi) (ho : 0 ≤ o ∧ o ≤ N) (px py : Int) (hp : Hid (partV (midI N D o (fun k => offV ts o k) (o + 1).toNat).toNat (chI N o).toNat = .agg #[.int .i64 px, .int .i64 py])) :
    Calls Tryz.prog 16 #[.agg #[.int .i64 N, .int .i64 lo, .int .i64 hi], .int .i64 D, .int .i64 o, .slice pp ts.length cap] w fun e w' => e = .returned (.tuple #[.agg #[.int .i64 px, .int .i64 py], .int .i64 0]) ∧ Below w.heap.size w w' := by
  have hN := (cargoB_iff N lo hi).1 hc
  have HV := Lib.hid hv
  clear hv
  have hB0 : Below w.heap.size w ((((w.alloc (.cells #[.int .i64 N, .int .i64 lo, .int .i64 hi] 28)).alloc (.cells #[.int .i64 o] 3)).alloc (.cells #[(.slice pp ts.length cap)] 54)).alloc (.cells #[.int .i64 0, .int .i64 0] 31)) := ((((Below.refl _ w).alloc (Nat.le_refl _) _).alloc (by simp) _).alloc (by simp; omega) _).alloc (by simp; omega) _
  have c0_0 : ((((w.alloc (.cells #[.int .i64 N, .int .i64 lo, .int .i64 hi] 28)).alloc (.cells #[.int .i64 o] 3)).alloc (.cells #[(.slice pp ts.length cap)] 54)).alloc (.cells #[.int .i64 0, .int .i64 0] 31)).cell? ⟨w.heap.size, 0, none⟩ = some (.int .i64 N) := by simp [go_sem]
  have c0_1 : ((((w.alloc (.cells #[.int .i64 N, .int .i64 lo, .int .i64 hi] 28)).alloc (.cells #[.int .i64 o] 3)).alloc (.cells #[(.slice pp ts.length cap)] 54)).alloc (.cells #[.int .i64 0, .int .i64 0] 31)).cell? ⟨w.heap.size, 1, none⟩ = some (.int .i64 lo) := by simp [go_sem]
  have c0_2 : ((((w.alloc (.cells #[.int .i64 N, .int .i64 lo, .int .i64 hi] 28)).alloc (.cells #[.int .i64 o] 3)).alloc (.cells #[(.slice pp ts.length cap)] 54)).alloc (.cells #[.int .i64 0, .int .i64 0] 31)).cell? ⟨w.heap.size, 2, none⟩ = some (.int .i64 hi) := by simp [go_sem]
  have c1_0 : ((((w.alloc (.cells #[.int .i64 N, .int .i64 lo, .int .i64 hi] 28)).alloc (.cells #[.int .i64 o] 3)).alloc (.cells #[(.slice pp ts.length cap)] 54)).alloc (.cells #[.int .i64 0, .int .i64 0] 31)).cell? ⟨w.heap.size + 1, 0, none⟩ = some (.int .i64 o) := by simp [go_sem]
  have c2_0 : ((((w.alloc (.cells #[.int .i64 N, .int .i64 lo, .int .i64 hi] 28)).alloc (.cells #[.int .i64 o] 3)).alloc (.cells #[(.slice pp ts.length cap)] 54)).alloc (.cells #[.int .i64 0, .int .i64 0] 31)).cell? ⟨w.heap.size + 1 + 1, 0, none⟩ = some ((.slice pp ts.length cap)) := by simp [go_sem]
  have c3_0 : ((((w.alloc (.cells #[.int .i64 N, .int .i64 lo, .int .i64 hi] 28)).alloc (.cells #[.int .i64 o] 3)).alloc (.cells #[(.slice pp ts.length cap)] 54)).alloc (.cells #[.int .i64 0, .int .i64 0] 31)).cell? ⟨w.heap.size + 1 + 1 + 1, 0, none⟩ = some (.int .i64 0) := by simp [go_sem]
  have c3_1 : ((((w.alloc (.cells #[.int .i64 N, .int .i64 lo, .int .i64 hi] 28)).alloc (.cells #[.int .i64 o] 3)).alloc (.cells #[(.slice pp ts.length cap)] 54)).alloc (.cells #[.int .i64 0, .int .i64 0] 31)).cell? ⟨w.heap.size + 1 + 1 + 1, 1, none⟩ = some (.int .i64 0) := by simp [go_sem]
  have f3_0 : ((((w.alloc (.cells #[.int .i64 N, .int .i64 lo, .int .i64 hi] 28)).alloc (.cells #[.int .i64 o] 3)).alloc (.cells #[(.slice pp ts.length cap)] 54)).alloc (.cells #[.int .i64 0, .int .i64 0] 31)).frozen? ⟨w.heap.size + 1 + 1 + 1, 0, none⟩ = false := by simp [go_sem]
  have f3_1 : ((((w.alloc (.cells #[.int .i64 N, .int .i64 lo, .int .i64 hi] 28)).alloc (.cells #[.int .i64 o] 3)).alloc (.cells #[(.slice pp ts.length cap)] 54)).alloc (.cells #[.int .i64 0, .int .i64 0] 31)).frozen? ⟨w.heap.size + 1 + 1 + 1, 1, none⟩ = false := by simp [go_sem]
  go_enter Tryz.func16, Tryz.ntmps16
  go_wp2_with fail
  refine (begun_ok N lo hi _ hc).mono ?_
  rintro e w1 ⟨hb, mb, kb, cb, rfl, hH, hmb, hhb, hB1⟩
  have K_w1 : Free.Bel ((((w.alloc (.cells #[.int .i64 N, .int .i64 lo, .int .i64 hi] 28)).alloc (.cells #[.int .i64 o] 3)).alloc (.cells #[(.slice pp ts.length cap)] 54)).alloc (.cells #[.int .i64 0, .int .i64 0] 31)) w1 := hB1
  have HHB := Lib.hid hhb
  clear hB1 hhb
  have hq : w.heap.size + 4 = ((((w.alloc (.cells #[.int .i64 N, .int .i64 lo, .int .i64 hi] 28)).alloc (.cells #[.int .i64 o] 3)).alloc (.cells #[(.slice pp ts.length cap)] 54)).alloc (.cells #[.int .i64 0, .int .i64 0] 31)).heap.size := by simp
  generalize ((((w.alloc (.cells #[.int .i64 N, .int .i64 lo, .int .i64 hi] 28)).alloc (.cells #[.int .i64 o] 3)).alloc (.cells #[(.slice pp ts.length cap)] 54)).alloc (.cells #[.int .i64 0, .int .i64 0] 31)) = W0 at *
  generalize hbb : w.heap.size = bb at *
  have HBB := Lib.hid hbb
  clear hbb
  have HB0 := Lib.hid hB0
  have hq0 : bb + 4 ≤ W0.heap.size := by omega
  clear hB0 hq
  have FA : ∀ W, Free.Bel W0 W → W.cell? ⟨bb, 0, none⟩ = some (.int .i64 N) ∧ W.cell? ⟨bb, 1, none⟩ = some (.int .i64 lo) ∧ W.cell? ⟨bb, 2, none⟩ = some (.int .i64 hi) ∧ W.cell? ⟨bb + 1, 0, none⟩ = some (.int .i64 o) ∧ W.cell? ⟨bb + 1 + 1, 0, none⟩ = some ((.slice pp ts.length cap)) ∧ W.cell? ⟨bb + 1 + 1 + 1, 0, none⟩ = some (.int .i64 0) ∧ W.cell? ⟨bb + 1 + 1 + 1, 1, none⟩ = some (.int .i64 0) ∧ W.frozen? ⟨bb + 1 + 1 + 1, 0, none⟩ = false ∧ W.frozen? ⟨bb + 1 + 1 + 1, 1, none⟩ = false ∧ bb + 4 ≤ W.heap.size := fun W hW => ⟨keepsB hW c0_0, keepsB hW c0_1, keepsB hW c0_2, keepsB hW c1_0, keepsB hW c2_0, keepsB hW c3_0, keepsB hW c3_1, (hW.frozen (p := ⟨bb + 1 + 1 + 1, 0, none⟩) (by simp; omega)).trans f3_0, (hW.frozen (p := ⟨bb + 1 + 1 + 1, 1, none⟩) (by simp; omega)).trans f3_1, Nat.le_trans hq0 hW.size⟩
  clear c0_0 c0_1 c0_2 c1_0 c2_0 c3_0 c3_1 f3_0 f3_1
  obtain ⟨a0_0, a0_1, a0_2, a1_0, a2_0, a3_0, a3_1, b3_0, b3_1, aq⟩ := FA w1 K_w1
  have hm0 : W0.heap.size ≤ mb := hmb
  have HH1 := Lib.hid hH
  have HHo : ∀ W, Kept mb w1 W → Hold hb N lo hi mb kb cb W := fun W hW => HH1.out.kept hW
  have HC : ∀ W, Kept mb w1 W → W.cell? ⟨hb, 0, none⟩ = some (.int .i64 N) ∧ W.cell? ⟨hb, 1, none⟩ = some (.int .i64 lo) ∧ W.cell? ⟨hb, 2, none⟩ = some (.int .i64 hi) ∧ W.cell? ⟨hb, 3, none⟩ = some (setsV kb cb) ∧ mb < W.heap.size ∧ hb < W.heap.size := fun W hW => ⟨(HHo W hW).bags, (HHo W hW).lo, (HHo W hW).hi, (HHo W hW).sets, (by obtain ⟨l, hl, _⟩ := (HHo W hW).ctr.memo; exact hl.lt), lt_of_cell (HHo W hW).bags⟩
  have FB : ∀ W, Kept mb w1 W → W.cell? ⟨bb, 0, none⟩ = some (.int .i64 N) ∧ W.cell? ⟨bb, 1, none⟩ = some (.int .i64 lo) ∧ W.cell? ⟨bb, 2, none⟩ = some (.int .i64 hi) ∧ W.cell? ⟨bb + 1, 0, none⟩ = some (.int .i64 o) ∧ W.cell? ⟨bb + 1 + 1, 0, none⟩ = some ((.slice pp ts.length cap)) ∧ W.cell? ⟨bb + 1 + 1 + 1, 0, none⟩ = some (.int .i64 0) ∧ W.cell? ⟨bb + 1 + 1 + 1, 1, none⟩ = some (.int .i64 0) ∧ W.frozen? ⟨bb + 1 + 1 + 1, 0, none⟩ = false ∧ W.frozen? ⟨bb + 1 + 1 + 1, 1, none⟩ = false ∧ bb + 4 ≤ W.heap.size := fun W hW => ⟨hW.cell a0_0 (by show _ ≠ mb; simp; omega), hW.cell a0_1 (by show _ ≠ mb; simp; omega), hW.cell a0_2 (by show _ ≠ mb; simp; omega), hW.cell a1_0 (by show _ ≠ mb; simp; omega), hW.cell a2_0 (by show _ ≠ mb; simp; omega), hW.cell a3_0 (by show _ ≠ mb; simp; omega), hW.cell a3_1 (by show _ ≠ mb; simp; omega), (World.frozen?_of_block (w := w1) (a := ⟨bb + 1 + 1 + 1, 0, none⟩) (hW.block _ (by simp; omega) (by simp; omega))).trans b3_0, (World.frozen?_of_block (w := w1) (a := ⟨bb + 1 + 1 + 1, 1, none⟩) (hW.block _ (by simp; omega) (by simp; omega))).trans b3_1, Nat.le_trans aq hW.size⟩
  have HBE := Lib.hid (fun (W : World) (hW : Kept mb w1 W) => HB0.out.trans ((hW.below K_w1 hm0).mono (by omega)))
  have HK : Kept mb w1 w1 := Kept.refl _ _
  have HM := Lib.hid hm0
  clear a0_0 a0_1 a0_2 a1_0 a2_0 a3_0 a3_1 b3_0 b3_1 aq FA hH hmb K_w1
  go_wp2_with fail
  have HV0 := Lib.hid (fun (W : World) (hW : Kept mb w1 W) => HV.out.keeps (HBB.out.symm ▸ HBE.out W hW))
  have hF : ∀ W, Free.Bel w1.drew W → Kept mb w1 W := fun W hW => (HK.drew).trans (.of_below hW)
  refine Free.wp_free (R := Free.Bel) (by kernel_rfl) (by kernel_rfl) Free.Bel.refl Free.Bel.trans ?_
  refine Free.Chain.ex ?_ [] [10] (by kernel_rfl) (by kernel_rfl) rfl Free.Bel.refl ?_ ?_
  rotate_left 2
  simp only [an1, an2]
  refine Free.Chain.ex ?_ [] [1] (by kernel_rfl) (by kernel_rfl) rfl Free.Bel.refl ?_ ?_
  rotate_left 2
  simp only [an1, an2]
  rotate_left
  iterate 2 (rotate_left; intro ev W hb hR hO hD; have hS := hF W hR; obtain ⟨hb1, hb2, hb3⟩ := hb; simp only [Free.AllDeps, Free.AllOuts, Free.At, al1, al2, al3, al4, al5, and_true] at hO hD; go_simp; rfl)
  refine Free.Chain.pr (SlI [D]) [(1, 23)] [] (by kernel_rfl) (by kernel_rfl) rfl (SlI.stable _) ?_ ?_
  · (intro ev W hb hR hO hD; have hS := hF W hR; obtain ⟨hb1, hb2, hb3⟩ := hb; simp only [Free.AllDeps, Free.AllOuts, Free.At, al1, al2, al3, al4, al5, and_true] at hO hD; go_simp; exact ⟨belAlloc _ _, SlI.one _ _ _⟩)
  simp only [an1, an2]
  refine Free.Chain.pr (fun v _ => v = .int .i64 0) [(0, 22), (2, 24)] [] (by kernel_rfl) (by kernel_rfl) rfl (fun _ _ _ _ h => h) ?_ ?_
  · (intro ev W hb hR hO hD; have hS := hF W hR; obtain ⟨hb1, hb2, hb3⟩ := hb; simp only [Free.AllDeps, Free.AllOuts, Free.At, al1, al2, al3, al4, al5, and_true] at hO hD; go_simp; refine yields_enter ?_; (with_reducible refine (may_any hb lo hi [D] _ 0 _ (by simp [maxLen]) (HHo _ hS).lo (HHo _ hS).hi hD.2 hx.out).mono ?_); rintro e W2 ⟨rfl, hB2⟩; exact ⟨_, rfl, hB2, rfl⟩)
  simp only [an1, an2]
  refine Free.Chain.ex ?_ [] [7] (by kernel_rfl) (by kernel_rfl) rfl Free.Bel.refl ?_ ?_
  rotate_left 2
  simp only [an1, an2]
  rotate_left
  rotate_left
  · (intro ev W hb hR hO hD; have hS := hF W hR; obtain ⟨hb1, hb2, hb3⟩ := hb; simp only [Free.AllDeps, Free.AllOuts, Free.At, al1, al2, al3, al4, al5, and_true] at hO hD; go_simp; rfl)
  refine Free.Chain.pr (fun v _ => v = .int .i64 0) [(4, 26), (3, 25)] [] (by kernel_rfl) (by kernel_rfl) rfl (fun _ _ _ _ h => h) ?_ ?_
  · (intro ev W hb hR hO hD; have hS := hF W hR; obtain ⟨hb1, hb2, hb3⟩ := hb; simp only [Free.AllDeps, Free.AllOuts, Free.At, al1, al2, al3, al4, al5, and_true] at hO hD; go_simp; refine yields_enter ?_; (with_reducible refine (agreed_v ts (.slice pp ts.length cap) _ (HV0.out _ hS) 0 hy).mono ?_); rintro e W2 ⟨rfl, hB2⟩; exact ⟨_, rfl, hB2, rfl⟩)
  simp only [an1, an2]
  refine Free.Chain.ex ?_ [] [10] (by kernel_rfl) (by kernel_rfl) rfl Free.Bel.refl ?_ ?_
  rotate_left 2
  simp only [an1, an2]
  refine Free.Chain.ex ?_ [(6, 28)] [] (by kernel_rfl) (by kernel_rfl) rfl Free.Bel.refl ?_ ?_
  rotate_left 2
  simp only [an1, an2]
  refine Free.Chain.ex ?_ [(7, 29)] [] (by kernel_rfl) (by kernel_rfl) rfl Free.Bel.refl ?_ ?_
  rotate_left 2
  simp only [an1, an2]
  refine Free.Chain.ex ?_ [(8, 30)] [] (by kernel_rfl) (by kernel_rfl) rfl Free.Bel.refl ?_ ?_
  rotate_left 2
  simp only [an1, an2]
  refine Free.Chain.ex ?_ [(9, 31)] [] (by kernel_rfl) (by kernel_rfl) rfl Free.Bel.refl ?_ ?_
  rotate_left 2
  simp only [an1, an2]
  refine Free.Chain.ex ?_ [] [6] (by kernel_rfl) (by kernel_rfl) rfl Free.Bel.refl ?_ ?_
  rotate_left 2
  simp only [an1, an2]
  rotate_left
  iterate 6 (rotate_left; intro ev W hb hR hO hD; have hS := hF W hR; obtain ⟨hb1, hb2, hb3⟩ := hb; simp only [Free.AllDeps, Free.AllOuts, Free.At, al1, al2, al3, al4, al5, and_true] at hO hD; go_simp; rfl)
  refine Free.Chain.pr (SlI [o]) [(11, 33)] [] (by kernel_rfl) (by kernel_rfl) rfl (SlI.stable _) ?_ ?_
  · (intro ev W hb hR hO hD; have hS := hF W hR; obtain ⟨hb1, hb2, hb3⟩ := hb; simp only [Free.AllDeps, Free.AllOuts, Free.At, al1, al2, al3, al4, al5, and_true] at hO hD; go_simp; exact ⟨belAlloc _ _, SlI.one _ _ _⟩)
  simp only [an1, an2]
  refine Free.Chain.pr (fun v _ => v = .bool true) [(10, 32), (12, 34), (5, 27)] [] (by kernel_rfl) (by kernel_rfl) rfl (fun _ _ _ _ h => h) ?_ ?_
  · (intro ev W hb hR hO hD; have hS := hF W hR; obtain ⟨hb1, hb2, hb3⟩ := hb; simp only [Free.AllDeps, Free.AllOuts, Free.At, al1, al2, al3, al4, al5, and_true] at hO hD; go_simp; refine yields_enter ?_; (with_reducible refine (in_sl _ _ [o] true _ _ (by simp [maxLen]) hq.out hD.2.1).mono ?_); rintro e W2 ⟨rfl, hB2⟩; exact ⟨_, rfl, hB2, rfl⟩)
  simp only [an1, an2]
  refine Free.Chain.pr (fun v _ => v = .int .i64 0) [(13, 35), (13, 35)] [] (by kernel_rfl) (by kernel_rfl) rfl (fun _ _ _ _ h => h) ?_ ?_
  · (intro ev W hb hR hO hD; have hS := hF W hR; obtain ⟨hb1, hb2, hb3⟩ := hb; simp only [Free.AllDeps, Free.AllOuts, Free.At, al1, al2, al3, al4, al5, and_true] at hO hD; go_simp; refine yields_enter ?_; (with_reducible refine (unless_any true 2 0 _ hzz.out).mono ?_); rintro e W2 ⟨rfl, rfl⟩; exact ⟨_, rfl, Free.Bel.refl _, rfl⟩)
  simp only [an1, an2]
  refine Free.Chain.pr (SlI [0, 0, 0]) [(3, 25), (5, 27), (14, 36)] [] (by kernel_rfl) (by kernel_rfl) rfl (SlI.stable _) ?_ ?_
  · (intro ev W hb hR hO hD; have hS := hF W hR; obtain ⟨hb1, hb2, hb3⟩ := hb; simp only [Free.AllDeps, Free.AllOuts, Free.At, al1, al2, al3, al4, al5, and_true] at hO hD; go_simp; exact ⟨belAlloc _ _, SlI.three _ _ _ _ _⟩)
  simp only [an1, an2]
  refine Free.Chain.pr (fun v _ => v = .int .i64 0) [(15, 37), (14, 36)] [] (by kernel_rfl) (by kernel_rfl) rfl (fun _ _ _ _ h => h) ?_ ?_
  · (intro ev W hb hR hO hD; have hS := hF W hR; obtain ⟨hb1, hb2, hb3⟩ := hb; simp only [Free.AllDeps, Free.AllOuts, Free.At, al1, al2, al3, al4, al5, and_true] at hO hD; go_simp; refine yields_enter ?_; (with_reducible refine (first_sl [0, 0, 0] 0 _ _ (by simp [maxLen]) hz.out hD.1).mono ?_); rintro e W2 ⟨rfl, rfl⟩; exact ⟨_, rfl, Free.Bel.refl _, rfl⟩)
  simp only [an1, an2]
  refine Free.Chain.ex ?_ [(16, 38), (16, 38), (0, 22), (1, 23), (2, 24), (3, 25), (4, 26), (5, 27), (6, 28), (7, 29), (8, 30), (9, 31), (10, 32), (11, 33), (12, 34), (13, 35), (14, 36), (15, 37), (16, 38)] [] (by kernel_rfl) (by kernel_rfl) rfl Free.Bel.refl ?_ ?_
  rotate_left 2
  simp only [an1, an2]
  rotate_left
  rotate_left
  · (intro ev W hb hR hO hD; have hS := hF W hR; obtain ⟨hb1, hb2, hb3⟩ := hb; simp only [Free.AllDeps, Free.AllOuts, Free.At, al1, al2, al3, al4, al5, and_true] at hO hD; go_simp; rfl)
  intro xs w2 hR hV
  simp only [Free.AllV, Free.At, List.length_cons, List.length_nil, Nat.reduceAdd, List.getElem?_cons_succ, List.getElem?_cons_zero, true_and] at hV
  simp only [Free.putsFrom, Act.put, Nat.zero_add, Nat.reduceAdd, hV, List.setIfInBounds_toArray, List.set_cons_succ, List.set_cons_zero]
  have HK2 := hF w2 hR
  clear hR hV hF HK
  go_wp2_with fail
  have hbx := FB w2 HK2
  have hm2 : ∀ W, Kept mb w2 W → Kept mb w1 W := fun W hW => HK2.trans hW
  have h90 := Lib.hid (agreedE_mem hy.out)
  have h91 := Lib.hid (agreedE_pence hy.out)
  have MID := Lib.hid (middle_any hb N lo hi D o mb kb cb 54 #[.pointer (some ⟨bb + 1 + 1, 0, none⟩), .pointer (some ⟨bb + 1, 0, none⟩)] (fun k => offV ts o k) w2 (HHo _ HK2) (by omega) (by omega) (by omega) ho (fun k _ _ => offV_bound ts o k h91.out)
    ⟨enters_of Tryz.func54 (by kernel_rfl) rfl, fun W k hW h0 h1 => (fair1_any ts _ o k (bb + 1 + 1) (bb + 1) W (HV0.out W (hm2 W hW)) (by simp [FB W (hm2 W hW)]) (by simp [FB W (hm2 W hW)]) h90.out (by omega) (by omega)).mono fun e W' h => ⟨h.1, .of_below h.2⟩⟩)
  rw [hp.out] at MID
  clear hbx hm2
  refine MID.out.mono ?_
  rintro e w3 ⟨rfl, hK3⟩
  have HK3 : Kept mb w1 w3 := HK2.trans hK3
  have hz9 := FB w3 HK3
  obtain ⟨s0, s1⟩ := two_stores (w := w3) (b := bb + 1 + 1 + 1) (x := .int .i64 0) (y := .int .i64 0) (.int .i64 px) (.int .i64 py) (by simp [hz9]) (by simp [hz9])
  have hB9 := Lib.hid (((HBE.out _ HK3).setCell (p := ⟨bb + 1 + 1 + 1, 0, none⟩) (by show bb ≤ bb + 1 + 1 + 1; omega) (.int .i64 px)).setCell (p := ⟨bb + 1 + 1 + 1, 1, none⟩) (by show bb ≤ bb + 1 + 1 + 1; omega) (.int .i64 py))
  clear hK3 MID HK2
  go_wp2_with fail
  have hbb := HBB.out
  subst hbb
  exact bodyPost_ret (v := .tuple #[.agg #[.int .i64 px, .int .i64 py], .int .i64 0]) (by simp [results, Tryz.results16, go_sem, s0, s1]) rfl ⟨rfl, hB9.out⟩

theorem fair_any (N lo hi D o : Int) (xs : List (Int × Int)) (v : Value) (w : World) (hv : PL xs v w) :
    Calls Tryz.prog 16 #[.agg #[.int .i64 N, .int .i64 lo, .int .i64 hi], .int .i64 D, .int .i64 o, v] w fun e w' => e = .returned (fairAll N lo hi D o xs) ∧ Below w.heap.size w w' := by
  have hv' := hv
  obtain ⟨pp, cap, rfl, _, _⟩ := hv'
  cases hc : cargoB N lo hi
  · have := fair_a N lo hi D o xs pp cap w hv hc
    rw [fairAll, hc, if_pos rfl]
    exact this
  · rw [fairAll, hc, if_neg (by simp)]
    by_cases hz : fairE N lo hi D o xs = 0
    · have hm : inB lo hi [D] = true := by
        cases h : inB lo hi [D]
        · simp [fairE, h, unlessV, firstE] at hz
        · rfl
      have ha : agreedE xs = 0 := by
        by_cases h : agreedE xs = 0
        · exact h
        · simp [fairE, hm, unlessV, firstE, h] at hz
      have hq : inB 0 N [o] = true := by
        cases h : inB 0 N [o]
        · simp [fairE, hm, h, ha, unlessV, firstE] at hz
        · rfl
      rw [if_neg (by simp [hz])]
      obtain ⟨px, py, hp⟩ : ∃ px py : Int, partV (midI N D o (fun k => offV xs o k) (o + 1).toNat).toNat (chI N o).toNat = .agg #[.int .i64 px, .int .i64 py] := ⟨_, _, rfl⟩
      rw [hp]
      exact fair_c N lo hi D o xs pp cap w hv hc (by show _ = _; simp [hm, unlessV]) ha hq (by show _ = _; simp [unlessV]) (by show _ = _; simp [firstE]) (by simpa [inB] using hm) (by simpa [inB] using hq) px py hp
    · rw [if_pos hz]
      exact fair_b N lo hi D o xs pp cap w hv hc _ _ _ _ rfl rfl rfl rfl _ rfl (by simpa using hz)
end Go.Proofs.YtigdpohdihopjaaGreatDoor

/- Rules: Good, and the reference's. -/
namespace Go.Proofs.YtigdpohdihopjaaGreatDoor
set_option linter.unusedSimpArgs false
set_option linter.unusedVariables false
open Go.RowKit Go.Proofs.YtigdpohdihopjaaGreatDoor.ML Go.Proofs.YtigdpohdihopjaaGreatDoor.Samp

set_option maxRecDepth 100000 in
set_option maxHeartbeats 2000000 in
theorem good_a (N lo hi g b o a sn sd bn bd : Int) (w : World) (hc : cargoB N lo hi = false) :
    Calls Tryz.prog 15 #[.agg #[.int .i64 N, .int .i64 lo, .int .i64 hi], .agg #[.int .i64 o, .int .i64 a], .int .i64 g, .int .i64 b, .agg #[.int .i64 sn, .int .i64 sd], .agg #[.int .i64 bn, .int .i64 bd]] w fun e w' => e = .returned (.tuple #[.bool false, .int .i64 10]) ∧ Below w.heap.size w w' := by
  have hB0 : Below w.heap.size w ((((w.alloc (.cells #[.int .i64 N, .int .i64 lo, .int .i64 hi] 28)).alloc (.cells #[.int .i64 o, .int .i64 a] 47)).alloc (.cells #[.int .i64 sn, .int .i64 sd] 31)).alloc (.cells #[.int .i64 bn, .int .i64 bd] 31)) := ((((Below.refl _ w).alloc (Nat.le_refl _) _).alloc (by simp) _).alloc (by simp; omega) _).alloc (by simp; omega) _
  have c0 : ((((w.alloc (.cells #[.int .i64 N, .int .i64 lo, .int .i64 hi] 28)).alloc (.cells #[.int .i64 o, .int .i64 a] 47)).alloc (.cells #[.int .i64 sn, .int .i64 sd] 31)).alloc (.cells #[.int .i64 bn, .int .i64 bd] 31)).cell? ⟨w.heap.size, 0, none⟩ = some (.int .i64 N) := by simp [go_sem]
  have c1 : ((((w.alloc (.cells #[.int .i64 N, .int .i64 lo, .int .i64 hi] 28)).alloc (.cells #[.int .i64 o, .int .i64 a] 47)).alloc (.cells #[.int .i64 sn, .int .i64 sd] 31)).alloc (.cells #[.int .i64 bn, .int .i64 bd] 31)).cell? ⟨w.heap.size, 1, none⟩ = some (.int .i64 lo) := by simp [go_sem]
  have c2 : ((((w.alloc (.cells #[.int .i64 N, .int .i64 lo, .int .i64 hi] 28)).alloc (.cells #[.int .i64 o, .int .i64 a] 47)).alloc (.cells #[.int .i64 sn, .int .i64 sd] 31)).alloc (.cells #[.int .i64 bn, .int .i64 bd] 31)).cell? ⟨w.heap.size, 2, none⟩ = some (.int .i64 hi) := by simp [go_sem]
  have c3 : ((((w.alloc (.cells #[.int .i64 N, .int .i64 lo, .int .i64 hi] 28)).alloc (.cells #[.int .i64 o, .int .i64 a] 47)).alloc (.cells #[.int .i64 sn, .int .i64 sd] 31)).alloc (.cells #[.int .i64 bn, .int .i64 bd] 31)).cell? ⟨w.heap.size + 1, 0, none⟩ = some (.int .i64 o) := by simp [go_sem]
  have c4 : ((((w.alloc (.cells #[.int .i64 N, .int .i64 lo, .int .i64 hi] 28)).alloc (.cells #[.int .i64 o, .int .i64 a] 47)).alloc (.cells #[.int .i64 sn, .int .i64 sd] 31)).alloc (.cells #[.int .i64 bn, .int .i64 bd] 31)).cell? ⟨w.heap.size + 1, 1, none⟩ = some (.int .i64 a) := by simp [go_sem]
  have c5 : ((((w.alloc (.cells #[.int .i64 N, .int .i64 lo, .int .i64 hi] 28)).alloc (.cells #[.int .i64 o, .int .i64 a] 47)).alloc (.cells #[.int .i64 sn, .int .i64 sd] 31)).alloc (.cells #[.int .i64 bn, .int .i64 bd] 31)).cell? ⟨w.heap.size + 1 + 1, 0, none⟩ = some (.int .i64 sn) := by simp [go_sem]
  have c6 : ((((w.alloc (.cells #[.int .i64 N, .int .i64 lo, .int .i64 hi] 28)).alloc (.cells #[.int .i64 o, .int .i64 a] 47)).alloc (.cells #[.int .i64 sn, .int .i64 sd] 31)).alloc (.cells #[.int .i64 bn, .int .i64 bd] 31)).cell? ⟨w.heap.size + 1 + 1, 1, none⟩ = some (.int .i64 sd) := by simp [go_sem]
  have c7 : ((((w.alloc (.cells #[.int .i64 N, .int .i64 lo, .int .i64 hi] 28)).alloc (.cells #[.int .i64 o, .int .i64 a] 47)).alloc (.cells #[.int .i64 sn, .int .i64 sd] 31)).alloc (.cells #[.int .i64 bn, .int .i64 bd] 31)).cell? ⟨w.heap.size + 1 + 1 + 1, 0, none⟩ = some (.int .i64 bn) := by simp [go_sem]
  have c8 : ((((w.alloc (.cells #[.int .i64 N, .int .i64 lo, .int .i64 hi] 28)).alloc (.cells #[.int .i64 o, .int .i64 a] 47)).alloc (.cells #[.int .i64 sn, .int .i64 sd] 31)).alloc (.cells #[.int .i64 bn, .int .i64 bd] 31)).cell? ⟨w.heap.size + 1 + 1 + 1, 1, none⟩ = some (.int .i64 bd) := by simp [go_sem]
  have s1 := Lib.hid (fun (W : World) (h : Below ((((w.alloc (.cells #[.int .i64 N, .int .i64 lo, .int .i64 hi] 28)).alloc (.cells #[.int .i64 o, .int .i64 a] 47)).alloc (.cells #[.int .i64 sn, .int .i64 sd] 31)).alloc (.cells #[.int .i64 bn, .int .i64 bd] 31)).heap.size ((((w.alloc (.cells #[.int .i64 N, .int .i64 lo, .int .i64 hi] 28)).alloc (.cells #[.int .i64 o, .int .i64 a] 47)).alloc (.cells #[.int .i64 sn, .int .i64 sd] 31)).alloc (.cells #[.int .i64 bn, .int .i64 bd] 31)) W) => And.intro (keepsB h c0) ( And.intro (keepsB h c1) ( And.intro (keepsB h c2) ( And.intro (keepsB h c3) ( And.intro (keepsB h c4) ( And.intro (keepsB h c5) ( And.intro (keepsB h c6) ( And.intro (keepsB h c7) (keepsB h c8)))))))))
  have HB0 := Lib.hid hB0
  clear hB0 c0 c1 c2 c3 c4 c5 c6 c7 c8
  go_enter Tryz.func15, Tryz.ntmps15
  go_wp2_with fail
  refine (begun_bad N lo hi _ hc).mono ?_
  rintro e w1 ⟨rfl, hB1⟩
  have HB1 := Lib.hid (HB0.out.trans (hB1.mono HB0.out.size))
  clear hB1
  go_wp2_with fail
  exact bodyPost_ret (v := .tuple #[.bool false, .int .i64 10]) (by simp [results, Tryz.results15, go_sem]) rfl ⟨rfl, HB1.out⟩

/-- The error of a rule, of two numbers and of two chances. -/
def goodE (N lo hi g b o a sn sd bn bd : Int) : Int := firstE [unlessV (drawB N o a) 13, riskedE lo hi g b sn sd bn bd]

set_option maxRecDepth 100000 in
set_option maxHeartbeats 2000000 in
theorem good_b (N lo hi g b o a sn sd bn bd : Int) (w : World) (hc : cargoB N lo hi = true) (x y z : Int) (hx : Hid (unlessV (drawB N o a) 13 = x)) (hy : Hid (riskedE lo hi g b sn sd bn bd = y)) (hz : Hid (firstE [x, y] = z)) (hz0 : (z != 0) = true) :
    Calls Tryz.prog 15 #[.agg #[.int .i64 N, .int .i64 lo, .int .i64 hi], .agg #[.int .i64 o, .int .i64 a], .int .i64 g, .int .i64 b, .agg #[.int .i64 sn, .int .i64 sd], .agg #[.int .i64 bn, .int .i64 bd]] w fun e w' => e = .returned (.tuple #[.bool false, .int .i64 z]) ∧ Below w.heap.size w w' := by
  have hB0 : Below w.heap.size w ((((w.alloc (.cells #[.int .i64 N, .int .i64 lo, .int .i64 hi] 28)).alloc (.cells #[.int .i64 o, .int .i64 a] 47)).alloc (.cells #[.int .i64 sn, .int .i64 sd] 31)).alloc (.cells #[.int .i64 bn, .int .i64 bd] 31)) := ((((Below.refl _ w).alloc (Nat.le_refl _) _).alloc (by simp) _).alloc (by simp; omega) _).alloc (by simp; omega) _
  have c0 : ((((w.alloc (.cells #[.int .i64 N, .int .i64 lo, .int .i64 hi] 28)).alloc (.cells #[.int .i64 o, .int .i64 a] 47)).alloc (.cells #[.int .i64 sn, .int .i64 sd] 31)).alloc (.cells #[.int .i64 bn, .int .i64 bd] 31)).cell? ⟨w.heap.size, 0, none⟩ = some (.int .i64 N) := by simp [go_sem]
  have c1 : ((((w.alloc (.cells #[.int .i64 N, .int .i64 lo, .int .i64 hi] 28)).alloc (.cells #[.int .i64 o, .int .i64 a] 47)).alloc (.cells #[.int .i64 sn, .int .i64 sd] 31)).alloc (.cells #[.int .i64 bn, .int .i64 bd] 31)).cell? ⟨w.heap.size, 1, none⟩ = some (.int .i64 lo) := by simp [go_sem]
  have c2 : ((((w.alloc (.cells #[.int .i64 N, .int .i64 lo, .int .i64 hi] 28)).alloc (.cells #[.int .i64 o, .int .i64 a] 47)).alloc (.cells #[.int .i64 sn, .int .i64 sd] 31)).alloc (.cells #[.int .i64 bn, .int .i64 bd] 31)).cell? ⟨w.heap.size, 2, none⟩ = some (.int .i64 hi) := by simp [go_sem]
  have c3 : ((((w.alloc (.cells #[.int .i64 N, .int .i64 lo, .int .i64 hi] 28)).alloc (.cells #[.int .i64 o, .int .i64 a] 47)).alloc (.cells #[.int .i64 sn, .int .i64 sd] 31)).alloc (.cells #[.int .i64 bn, .int .i64 bd] 31)).cell? ⟨w.heap.size + 1, 0, none⟩ = some (.int .i64 o) := by simp [go_sem]
  have c4 : ((((w.alloc (.cells #[.int .i64 N, .int .i64 lo, .int .i64 hi] 28)).alloc (.cells #[.int .i64 o, .int .i64 a] 47)).alloc (.cells #[.int .i64 sn, .int .i64 sd] 31)).alloc (.cells #[.int .i64 bn, .int .i64 bd] 31)).cell? ⟨w.heap.size + 1, 1, none⟩ = some (.int .i64 a) := by simp [go_sem]
  have c5 : ((((w.alloc (.cells #[.int .i64 N, .int .i64 lo, .int .i64 hi] 28)).alloc (.cells #[.int .i64 o, .int .i64 a] 47)).alloc (.cells #[.int .i64 sn, .int .i64 sd] 31)).alloc (.cells #[.int .i64 bn, .int .i64 bd] 31)).cell? ⟨w.heap.size + 1 + 1, 0, none⟩ = some (.int .i64 sn) := by simp [go_sem]
  have c6 : ((((w.alloc (.cells #[.int .i64 N, .int .i64 lo, .int .i64 hi] 28)).alloc (.cells #[.int .i64 o, .int .i64 a] 47)).alloc (.cells #[.int .i64 sn, .int .i64 sd] 31)).alloc (.cells #[.int .i64 bn, .int .i64 bd] 31)).cell? ⟨w.heap.size + 1 + 1, 1, none⟩ = some (.int .i64 sd) := by simp [go_sem]
  have c7 : ((((w.alloc (.cells #[.int .i64 N, .int .i64 lo, .int .i64 hi] 28)).alloc (.cells #[.int .i64 o, .int .i64 a] 47)).alloc (.cells #[.int .i64 sn, .int .i64 sd] 31)).alloc (.cells #[.int .i64 bn, .int .i64 bd] 31)).cell? ⟨w.heap.size + 1 + 1 + 1, 0, none⟩ = some (.int .i64 bn) := by simp [go_sem]
  have c8 : ((((w.alloc (.cells #[.int .i64 N, .int .i64 lo, .int .i64 hi] 28)).alloc (.cells #[.int .i64 o, .int .i64 a] 47)).alloc (.cells #[.int .i64 sn, .int .i64 sd] 31)).alloc (.cells #[.int .i64 bn, .int .i64 bd] 31)).cell? ⟨w.heap.size + 1 + 1 + 1, 1, none⟩ = some (.int .i64 bd) := by simp [go_sem]
  have s1 := Lib.hid (fun (W : World) (h : Below ((((w.alloc (.cells #[.int .i64 N, .int .i64 lo, .int .i64 hi] 28)).alloc (.cells #[.int .i64 o, .int .i64 a] 47)).alloc (.cells #[.int .i64 sn, .int .i64 sd] 31)).alloc (.cells #[.int .i64 bn, .int .i64 bd] 31)).heap.size ((((w.alloc (.cells #[.int .i64 N, .int .i64 lo, .int .i64 hi] 28)).alloc (.cells #[.int .i64 o, .int .i64 a] 47)).alloc (.cells #[.int .i64 sn, .int .i64 sd] 31)).alloc (.cells #[.int .i64 bn, .int .i64 bd] 31)) W) => And.intro (keepsB h c0) ( And.intro (keepsB h c1) ( And.intro (keepsB h c2) ( And.intro (keepsB h c3) ( And.intro (keepsB h c4) ( And.intro (keepsB h c5) ( And.intro (keepsB h c6) ( And.intro (keepsB h c7) (keepsB h c8)))))))))
  have HB0 := Lib.hid hB0
  clear hB0 c0 c1 c2 c3 c4 c5 c6 c7 c8
  go_enter Tryz.func15, Tryz.ntmps15
  go_wp2_with fail
  generalize ((((w.alloc (.cells #[.int .i64 N, .int .i64 lo, .int .i64 hi] 28)).alloc (.cells #[.int .i64 o, .int .i64 a] 47)).alloc (.cells #[.int .i64 sn, .int .i64 sd] 31)).alloc (.cells #[.int .i64 bn, .int .i64 bd] 31)) = W0 at *
  generalize hbb : w.heap.size = bb at *
  have HBB := Lib.hid hbb
  clear hbb
  have hs0 : bb ≤ W0.heap.size := by have h1 := HB0.out.size; have h2 := HBB.out; omega
  refine (begun_ok N lo hi _ hc).mono ?_
  rintro e w1 ⟨hb, mb, kb, cb, rfl, hH, hmb, hhb, hB1⟩
  have HB1 := Lib.hid (HB0.out.trans (hB1.mono hs0))
  have hs1 := hB1.size
  have HH := Lib.hid (And.intro hH (Nat.le_trans hs0 hmb))
  have hF0 := Lib.hid (fun (W : World) (h : Below w1.heap.size w1 W) => And.intro (hH.kept (.of_below h)) (s1.out W (Below.trans hB1 (h.mono hB1.size))))
  obtain ⟨d1_0, d1_1, d1_2, d1_3, d1_4, d1_5, d1_6, d1_7, d1_8⟩ := s1.out w1 hB1
  clear hB1 hH hmb hhb
  go_wp2_with fail
  have hF : ∀ W, Free.Bel w1.drew W → Hold hb N lo hi mb kb cb W ∧ W.cell? ⟨bb, 0, none⟩ = some (.int .i64 N) ∧ W.cell? ⟨bb, 1, none⟩ = some (.int .i64 lo) ∧ W.cell? ⟨bb, 2, none⟩ = some (.int .i64 hi) ∧ W.cell? ⟨bb + 1, 0, none⟩ = some (.int .i64 o) ∧ W.cell? ⟨bb + 1, 1, none⟩ = some (.int .i64 a) ∧ W.cell? ⟨bb + 1 + 1, 0, none⟩ = some (.int .i64 sn) ∧ W.cell? ⟨bb + 1 + 1, 1, none⟩ = some (.int .i64 sd) ∧ W.cell? ⟨bb + 1 + 1 + 1, 0, none⟩ = some (.int .i64 bn) ∧ W.cell? ⟨bb + 1 + 1 + 1, 1, none⟩ = some (.int .i64 bd) := fun W hW => hF0.out W (Free.Bel.first hW)
  refine Free.wp_free (R := Free.Bel) (by kernel_rfl) (by kernel_rfl) Free.Bel.refl Free.Bel.trans ?_
  refine Free.Chain.ex ?_ [] [14] (by kernel_rfl) (by kernel_rfl) rfl Free.Bel.refl ?_ ?_
  rotate_left
  · (intro ev W hb hR hO hD; have hS := hF W hR; obtain ⟨hb1, hb2, hb3⟩ := hb; simp only [Free.AllDeps, Free.AllOuts, Free.At, List.getElem?_cons_succ, List.getElem?_cons_zero, Array.getD_eq_getD_getElem?, List.getElem?_toArray, Option.getD_some, and_true] at hO hD; go_simp; rfl)
  simp only [List.nil_append, List.cons_append]
  refine Free.Chain.ex ?_ [] [7] (by kernel_rfl) (by kernel_rfl) rfl Free.Bel.refl ?_ ?_
  rotate_left
  · (intro ev W hb hR hO hD; have hS := hF W hR; obtain ⟨hb1, hb2, hb3⟩ := hb; simp only [Free.AllDeps, Free.AllOuts, Free.At, List.getElem?_cons_succ, List.getElem?_cons_zero, Array.getD_eq_getD_getElem?, List.getElem?_toArray, Option.getD_some, and_true] at hO hD; go_simp; rfl)
  simp only [List.nil_append, List.cons_append]
  refine Free.Chain.pr (fun v _ => v = .int .i64 x) [(0, 25), (1, 26)] [] (by kernel_rfl) (by kernel_rfl) rfl (fun _ _ _ _ h => h) ?_ ?_
  · (intro ev W hb hR hO hD; have hS := hF W hR; obtain ⟨hb1, hb2, hb3⟩ := hb; simp only [Free.AllDeps, Free.AllOuts, Free.At, List.getElem?_cons_succ, List.getElem?_cons_zero, Array.getD_eq_getD_getElem?, List.getElem?_toArray, Option.getD_some, and_true] at hO hD; go_simp; refine (rule_any hb N o a x _ hS.1.bags hx.out).mono ?_; rintro e W1 ⟨rfl, hB1⟩; exact ⟨_, rfl, hB1, rfl⟩)
  simp only [List.nil_append, List.cons_append]
  refine Free.Chain.ex ?_ [] [14] (by kernel_rfl) (by kernel_rfl) rfl Free.Bel.refl ?_ ?_
  rotate_left
  · (intro ev W hb hR hO hD; have hS := hF W hR; obtain ⟨hb1, hb2, hb3⟩ := hb; simp only [Free.AllDeps, Free.AllOuts, Free.At, List.getElem?_cons_succ, List.getElem?_cons_zero, Array.getD_eq_getD_getElem?, List.getElem?_toArray, Option.getD_some, and_true] at hO hD; go_simp; rfl)
  simp only [List.nil_append, List.cons_append]
  refine Free.Chain.ex ?_ [] [2] (by kernel_rfl) (by kernel_rfl) rfl Free.Bel.refl ?_ ?_
  rotate_left
  · (intro ev W hb hR hO hD; have hS := hF W hR; obtain ⟨hb1, hb2, hb3⟩ := hb; simp only [Free.AllDeps, Free.AllOuts, Free.At, List.getElem?_cons_succ, List.getElem?_cons_zero, Array.getD_eq_getD_getElem?, List.getElem?_toArray, Option.getD_some, and_true] at hO hD; go_simp; rfl)
  simp only [List.nil_append, List.cons_append]
  refine Free.Chain.ex ?_ [] [3] (by kernel_rfl) (by kernel_rfl) rfl Free.Bel.refl ?_ ?_
  rotate_left
  · (intro ev W hb hR hO hD; have hS := hF W hR; obtain ⟨hb1, hb2, hb3⟩ := hb; simp only [Free.AllDeps, Free.AllOuts, Free.At, List.getElem?_cons_succ, List.getElem?_cons_zero, Array.getD_eq_getD_getElem?, List.getElem?_toArray, Option.getD_some, and_true] at hO hD; go_simp; rfl)
  simp only [List.nil_append, List.cons_append]
  refine Free.Chain.ex ?_ [] [10] (by kernel_rfl) (by kernel_rfl) rfl Free.Bel.refl ?_ ?_
  rotate_left
  · (intro ev W hb hR hO hD; have hS := hF W hR; obtain ⟨hb1, hb2, hb3⟩ := hb; simp only [Free.AllDeps, Free.AllOuts, Free.At, List.getElem?_cons_succ, List.getElem?_cons_zero, Array.getD_eq_getD_getElem?, List.getElem?_toArray, Option.getD_some, and_true] at hO hD; go_simp; rfl)
  simp only [List.nil_append, List.cons_append]
  refine Free.Chain.ex ?_ [] [11] (by kernel_rfl) (by kernel_rfl) rfl Free.Bel.refl ?_ ?_
  rotate_left
  · (intro ev W hb hR hO hD; have hS := hF W hR; obtain ⟨hb1, hb2, hb3⟩ := hb; simp only [Free.AllDeps, Free.AllOuts, Free.At, List.getElem?_cons_succ, List.getElem?_cons_zero, Array.getD_eq_getD_getElem?, List.getElem?_toArray, Option.getD_some, and_true] at hO hD; go_simp; rfl)
  simp only [List.nil_append, List.cons_append]
  refine Free.Chain.pr (fun v _ => v = .int .i64 y) [(3, 28), (4, 29), (5, 30), (6, 31), (7, 32), (2, 27)] [] (by kernel_rfl) (by kernel_rfl) rfl (fun _ _ _ _ h => h) ?_ ?_
  · (intro ev W hb hR hO hD; have hS := hF W hR; obtain ⟨hb1, hb2, hb3⟩ := hb; simp only [Free.AllDeps, Free.AllOuts, Free.At, List.getElem?_cons_succ, List.getElem?_cons_zero, Array.getD_eq_getD_getElem?, List.getElem?_toArray, Option.getD_some, and_true] at hO hD; go_simp; refine (risked_any hb lo hi g b sn sd bn bd _ _ _ y _ hS.1.lo hS.1.hi rfl rfl rfl hy.out).mono ?_; rintro e W1 ⟨rfl, hB1⟩; exact ⟨_, rfl, hB1, rfl⟩)
  simp only [List.nil_append, List.cons_append]
  refine Free.Chain.pr (SlI [x, y]) [(2, 27), (8, 33)] [] (by kernel_rfl) (by kernel_rfl) rfl (SlI.stable _) ?_ ?_
  · (intro ev W hb hR hO hD; have hS := hF W hR; obtain ⟨hb1, hb2, hb3⟩ := hb; simp only [Free.AllDeps, Free.AllOuts, Free.At, List.getElem?_cons_succ, List.getElem?_cons_zero, Array.getD_eq_getD_getElem?, List.getElem?_toArray, Option.getD_some, and_true] at hO hD; go_simp; exact ⟨belAlloc _ _, SlI.two _ _ _ _⟩)
  simp only [List.nil_append, List.cons_append]
  refine Free.Chain.pr (fun v _ => v = .int .i64 z) [(9, 34), (8, 33)] [] (by kernel_rfl) (by kernel_rfl) rfl (fun _ _ _ _ h => h) ?_ ?_
  · (intro ev W hb hR hO hD; have hS := hF W hR; obtain ⟨hb1, hb2, hb3⟩ := hb; simp only [Free.AllDeps, Free.AllOuts, Free.At, List.getElem?_cons_succ, List.getElem?_cons_zero, Array.getD_eq_getD_getElem?, List.getElem?_toArray, Option.getD_some, and_true] at hO hD; go_simp; refine (first_sl [x, y] z _ _ (by simp [maxLen]) hz.out hD.1).mono ?_; rintro e W1 ⟨rfl, rfl⟩; exact ⟨_, rfl, Free.Bel.refl _, rfl⟩)
  simp only [List.nil_append, List.cons_append]
  refine Free.Chain.ex ?_ [(10, 35), (10, 35), (0, 25), (1, 26), (2, 27), (3, 28), (4, 29), (5, 30), (6, 31), (7, 32), (8, 33), (9, 34), (10, 35)] [] (by kernel_rfl) (by kernel_rfl) rfl Free.Bel.refl ?_ ?_
  rotate_left
  · (intro ev W hb hR hO hD; have hS := hF W hR; obtain ⟨hb1, hb2, hb3⟩ := hb; simp only [Free.AllDeps, Free.AllOuts, Free.At, List.getElem?_cons_succ, List.getElem?_cons_zero, Array.getD_eq_getD_getElem?, List.getElem?_toArray, Option.getD_some, and_true] at hO hD; go_simp; rfl)
  simp only [List.nil_append, List.cons_append]
  intro xs w' hR hV
  simp only [Free.AllV, Free.At, List.length_cons, List.length_nil, Nat.reduceAdd, List.getElem?_cons_succ, List.getElem?_cons_zero, true_and] at hV
  simp only [Free.putsFrom, Act.put, hV, List.setIfInBounds_toArray, List.set_cons_succ, List.set_cons_zero]
  have HB2 := Lib.hid (HB1.out.trans ((Free.Bel.first hR).mono (Nat.le_trans hs0 hs1)))
  clear hR hV hF
  go_wp2_with fail
  have hbb := HBB.out
  subst hbb
  exact bodyPost_ret (v := .tuple #[.bool false, .int .i64 z]) (by simp [results, Tryz.results15, go_sem]) rfl ⟨rfl, HB2.out⟩

set_option maxRecDepth 100000 in
set_option maxHeartbeats 2000000 in
theorem good_c (N lo hi g b o a sn sd bn bd : Int) (w : World) (q : Bool) (hc : cargoB N lo hi = true) (hd : drawB N o a = true) (he : riskedE lo hi g b sn sd bn bd = 0) (hr : fineB N g b o a sn sd bn bd = q) :
    Calls Tryz.prog 15 #[.agg #[.int .i64 N, .int .i64 lo, .int .i64 hi], .agg #[.int .i64 o, .int .i64 a], .int .i64 g, .int .i64 b, .agg #[.int .i64 sn, .int .i64 sd], .agg #[.int .i64 bn, .int .i64 bd]] w fun e w' => e = .returned (.tuple #[.bool q, .int .i64 0]) ∧ Below w.heap.size w w' := by
  have hN := (cargoB_iff N lo hi).1 hc
  have hD := (drawB_iff N o a).1 hd
  have hM := riskedE_zero he
  have hx : Hid (unlessV (drawB N o a) 13 = 0) := by simp [Hid, unlessV, hd]
  have hy : Hid (riskedE lo hi g b sn sd bn bd = 0) := he
  have hz : Hid (firstE [0, 0] = 0) := by simp [Hid, firstE]
  have hfine := Lib.hid (fun (hb mb kb cb : Nat) (W : World) (hH : Hold hb N lo hi mb kb cb W) => fine_any hb N lo hi g b o a sn sd bn bd mb kb cb q W hH (by omega) (by omega) (by omega) (by omega) hM.2.2.2.1 hM.2.2.2.2 hr)
  clear hN hD hM hd he hr
  have hB0 : Below w.heap.size w ((((w.alloc (.cells #[.int .i64 N, .int .i64 lo, .int .i64 hi] 28)).alloc (.cells #[.int .i64 o, .int .i64 a] 47)).alloc (.cells #[.int .i64 sn, .int .i64 sd] 31)).alloc (.cells #[.int .i64 bn, .int .i64 bd] 31)) := ((((Below.refl _ w).alloc (Nat.le_refl _) _).alloc (by simp) _).alloc (by simp; omega) _).alloc (by simp; omega) _
  have c0 : ((((w.alloc (.cells #[.int .i64 N, .int .i64 lo, .int .i64 hi] 28)).alloc (.cells #[.int .i64 o, .int .i64 a] 47)).alloc (.cells #[.int .i64 sn, .int .i64 sd] 31)).alloc (.cells #[.int .i64 bn, .int .i64 bd] 31)).cell? ⟨w.heap.size, 0, none⟩ = some (.int .i64 N) := by simp [go_sem]
  have c1 : ((((w.alloc (.cells #[.int .i64 N, .int .i64 lo, .int .i64 hi] 28)).alloc (.cells #[.int .i64 o, .int .i64 a] 47)).alloc (.cells #[.int .i64 sn, .int .i64 sd] 31)).alloc (.cells #[.int .i64 bn, .int .i64 bd] 31)).cell? ⟨w.heap.size, 1, none⟩ = some (.int .i64 lo) := by simp [go_sem]
  have c2 : ((((w.alloc (.cells #[.int .i64 N, .int .i64 lo, .int .i64 hi] 28)).alloc (.cells #[.int .i64 o, .int .i64 a] 47)).alloc (.cells #[.int .i64 sn, .int .i64 sd] 31)).alloc (.cells #[.int .i64 bn, .int .i64 bd] 31)).cell? ⟨w.heap.size, 2, none⟩ = some (.int .i64 hi) := by simp [go_sem]
  have c3 : ((((w.alloc (.cells #[.int .i64 N, .int .i64 lo, .int .i64 hi] 28)).alloc (.cells #[.int .i64 o, .int .i64 a] 47)).alloc (.cells #[.int .i64 sn, .int .i64 sd] 31)).alloc (.cells #[.int .i64 bn, .int .i64 bd] 31)).cell? ⟨w.heap.size + 1, 0, none⟩ = some (.int .i64 o) := by simp [go_sem]
  have c4 : ((((w.alloc (.cells #[.int .i64 N, .int .i64 lo, .int .i64 hi] 28)).alloc (.cells #[.int .i64 o, .int .i64 a] 47)).alloc (.cells #[.int .i64 sn, .int .i64 sd] 31)).alloc (.cells #[.int .i64 bn, .int .i64 bd] 31)).cell? ⟨w.heap.size + 1, 1, none⟩ = some (.int .i64 a) := by simp [go_sem]
  have c5 : ((((w.alloc (.cells #[.int .i64 N, .int .i64 lo, .int .i64 hi] 28)).alloc (.cells #[.int .i64 o, .int .i64 a] 47)).alloc (.cells #[.int .i64 sn, .int .i64 sd] 31)).alloc (.cells #[.int .i64 bn, .int .i64 bd] 31)).cell? ⟨w.heap.size + 1 + 1, 0, none⟩ = some (.int .i64 sn) := by simp [go_sem]
  have c6 : ((((w.alloc (.cells #[.int .i64 N, .int .i64 lo, .int .i64 hi] 28)).alloc (.cells #[.int .i64 o, .int .i64 a] 47)).alloc (.cells #[.int .i64 sn, .int .i64 sd] 31)).alloc (.cells #[.int .i64 bn, .int .i64 bd] 31)).cell? ⟨w.heap.size + 1 + 1, 1, none⟩ = some (.int .i64 sd) := by simp [go_sem]
  have c7 : ((((w.alloc (.cells #[.int .i64 N, .int .i64 lo, .int .i64 hi] 28)).alloc (.cells #[.int .i64 o, .int .i64 a] 47)).alloc (.cells #[.int .i64 sn, .int .i64 sd] 31)).alloc (.cells #[.int .i64 bn, .int .i64 bd] 31)).cell? ⟨w.heap.size + 1 + 1 + 1, 0, none⟩ = some (.int .i64 bn) := by simp [go_sem]
  have c8 : ((((w.alloc (.cells #[.int .i64 N, .int .i64 lo, .int .i64 hi] 28)).alloc (.cells #[.int .i64 o, .int .i64 a] 47)).alloc (.cells #[.int .i64 sn, .int .i64 sd] 31)).alloc (.cells #[.int .i64 bn, .int .i64 bd] 31)).cell? ⟨w.heap.size + 1 + 1 + 1, 1, none⟩ = some (.int .i64 bd) := by simp [go_sem]
  have s1 := Lib.hid (fun (W : World) (h : Below ((((w.alloc (.cells #[.int .i64 N, .int .i64 lo, .int .i64 hi] 28)).alloc (.cells #[.int .i64 o, .int .i64 a] 47)).alloc (.cells #[.int .i64 sn, .int .i64 sd] 31)).alloc (.cells #[.int .i64 bn, .int .i64 bd] 31)).heap.size ((((w.alloc (.cells #[.int .i64 N, .int .i64 lo, .int .i64 hi] 28)).alloc (.cells #[.int .i64 o, .int .i64 a] 47)).alloc (.cells #[.int .i64 sn, .int .i64 sd] 31)).alloc (.cells #[.int .i64 bn, .int .i64 bd] 31)) W) => And.intro (keepsB h c0) ( And.intro (keepsB h c1) ( And.intro (keepsB h c2) ( And.intro (keepsB h c3) ( And.intro (keepsB h c4) ( And.intro (keepsB h c5) ( And.intro (keepsB h c6) ( And.intro (keepsB h c7) (keepsB h c8)))))))))
  have HB0 := Lib.hid hB0
  clear hB0 c0 c1 c2 c3 c4 c5 c6 c7 c8
  go_enter Tryz.func15, Tryz.ntmps15
  go_wp2_with fail
  generalize ((((w.alloc (.cells #[.int .i64 N, .int .i64 lo, .int .i64 hi] 28)).alloc (.cells #[.int .i64 o, .int .i64 a] 47)).alloc (.cells #[.int .i64 sn, .int .i64 sd] 31)).alloc (.cells #[.int .i64 bn, .int .i64 bd] 31)) = W0 at *
  generalize hbb : w.heap.size = bb at *
  have HBB := Lib.hid hbb
  clear hbb
  have hs0 : bb ≤ W0.heap.size := by have h1 := HB0.out.size; have h2 := HBB.out; omega
  refine (begun_ok N lo hi _ hc).mono ?_
  rintro e w1 ⟨hb, mb, kb, cb, rfl, hH, hmb, hhb, hB1⟩
  have HB1 := Lib.hid (HB0.out.trans (hB1.mono hs0))
  have hs1 := hB1.size
  have HH := Lib.hid (And.intro hH (Nat.le_trans hs0 hmb))
  have hF0 := Lib.hid (fun (W : World) (h : Below w1.heap.size w1 W) => And.intro (hH.kept (.of_below h)) (s1.out W (Below.trans hB1 (h.mono hB1.size))))
  obtain ⟨d1_0, d1_1, d1_2, d1_3, d1_4, d1_5, d1_6, d1_7, d1_8⟩ := s1.out w1 hB1
  clear hB1 hH hmb hhb
  go_wp2_with fail
  have hF : ∀ W, Free.Bel w1.drew W → Hold hb N lo hi mb kb cb W ∧ W.cell? ⟨bb, 0, none⟩ = some (.int .i64 N) ∧ W.cell? ⟨bb, 1, none⟩ = some (.int .i64 lo) ∧ W.cell? ⟨bb, 2, none⟩ = some (.int .i64 hi) ∧ W.cell? ⟨bb + 1, 0, none⟩ = some (.int .i64 o) ∧ W.cell? ⟨bb + 1, 1, none⟩ = some (.int .i64 a) ∧ W.cell? ⟨bb + 1 + 1, 0, none⟩ = some (.int .i64 sn) ∧ W.cell? ⟨bb + 1 + 1, 1, none⟩ = some (.int .i64 sd) ∧ W.cell? ⟨bb + 1 + 1 + 1, 0, none⟩ = some (.int .i64 bn) ∧ W.cell? ⟨bb + 1 + 1 + 1, 1, none⟩ = some (.int .i64 bd) := fun W hW => hF0.out W (Free.Bel.first hW)
  refine Free.wp_free (R := Free.Bel) (by kernel_rfl) (by kernel_rfl) Free.Bel.refl Free.Bel.trans ?_
  refine Free.Chain.ex ?_ [] [14] (by kernel_rfl) (by kernel_rfl) rfl Free.Bel.refl ?_ ?_
  rotate_left
  · (intro ev W hb hR hO hD; have hS := hF W hR; obtain ⟨hb1, hb2, hb3⟩ := hb; simp only [Free.AllDeps, Free.AllOuts, Free.At, List.getElem?_cons_succ, List.getElem?_cons_zero, Array.getD_eq_getD_getElem?, List.getElem?_toArray, Option.getD_some, and_true] at hO hD; go_simp; rfl)
  simp only [List.nil_append, List.cons_append]
  refine Free.Chain.ex ?_ [] [7] (by kernel_rfl) (by kernel_rfl) rfl Free.Bel.refl ?_ ?_
  rotate_left
  · (intro ev W hb hR hO hD; have hS := hF W hR; obtain ⟨hb1, hb2, hb3⟩ := hb; simp only [Free.AllDeps, Free.AllOuts, Free.At, List.getElem?_cons_succ, List.getElem?_cons_zero, Array.getD_eq_getD_getElem?, List.getElem?_toArray, Option.getD_some, and_true] at hO hD; go_simp; rfl)
  simp only [List.nil_append, List.cons_append]
  refine Free.Chain.pr (fun v _ => v = .int .i64 0) [(0, 25), (1, 26)] [] (by kernel_rfl) (by kernel_rfl) rfl (fun _ _ _ _ h => h) ?_ ?_
  · (intro ev W hb hR hO hD; have hS := hF W hR; obtain ⟨hb1, hb2, hb3⟩ := hb; simp only [Free.AllDeps, Free.AllOuts, Free.At, List.getElem?_cons_succ, List.getElem?_cons_zero, Array.getD_eq_getD_getElem?, List.getElem?_toArray, Option.getD_some, and_true] at hO hD; go_simp; refine (rule_any hb N o a 0 _ hS.1.bags hx.out).mono ?_; rintro e W1 ⟨rfl, hB1⟩; exact ⟨_, rfl, hB1, rfl⟩)
  simp only [List.nil_append, List.cons_append]
  refine Free.Chain.ex ?_ [] [14] (by kernel_rfl) (by kernel_rfl) rfl Free.Bel.refl ?_ ?_
  rotate_left
  · (intro ev W hb hR hO hD; have hS := hF W hR; obtain ⟨hb1, hb2, hb3⟩ := hb; simp only [Free.AllDeps, Free.AllOuts, Free.At, List.getElem?_cons_succ, List.getElem?_cons_zero, Array.getD_eq_getD_getElem?, List.getElem?_toArray, Option.getD_some, and_true] at hO hD; go_simp; rfl)
  simp only [List.nil_append, List.cons_append]
  refine Free.Chain.ex ?_ [] [2] (by kernel_rfl) (by kernel_rfl) rfl Free.Bel.refl ?_ ?_
  rotate_left
  · (intro ev W hb hR hO hD; have hS := hF W hR; obtain ⟨hb1, hb2, hb3⟩ := hb; simp only [Free.AllDeps, Free.AllOuts, Free.At, List.getElem?_cons_succ, List.getElem?_cons_zero, Array.getD_eq_getD_getElem?, List.getElem?_toArray, Option.getD_some, and_true] at hO hD; go_simp; rfl)
  simp only [List.nil_append, List.cons_append]
  refine Free.Chain.ex ?_ [] [3] (by kernel_rfl) (by kernel_rfl) rfl Free.Bel.refl ?_ ?_
  rotate_left
  · (intro ev W hb hR hO hD; have hS := hF W hR; obtain ⟨hb1, hb2, hb3⟩ := hb; simp only [Free.AllDeps, Free.AllOuts, Free.At, List.getElem?_cons_succ, List.getElem?_cons_zero, Array.getD_eq_getD_getElem?, List.getElem?_toArray, Option.getD_some, and_true] at hO hD; go_simp; rfl)
  simp only [List.nil_append, List.cons_append]
  refine Free.Chain.ex ?_ [] [10] (by kernel_rfl) (by kernel_rfl) rfl Free.Bel.refl ?_ ?_
  rotate_left
  · (intro ev W hb hR hO hD; have hS := hF W hR; obtain ⟨hb1, hb2, hb3⟩ := hb; simp only [Free.AllDeps, Free.AllOuts, Free.At, List.getElem?_cons_succ, List.getElem?_cons_zero, Array.getD_eq_getD_getElem?, List.getElem?_toArray, Option.getD_some, and_true] at hO hD; go_simp; rfl)
  simp only [List.nil_append, List.cons_append]
  refine Free.Chain.ex ?_ [] [11] (by kernel_rfl) (by kernel_rfl) rfl Free.Bel.refl ?_ ?_
  rotate_left
  · (intro ev W hb hR hO hD; have hS := hF W hR; obtain ⟨hb1, hb2, hb3⟩ := hb; simp only [Free.AllDeps, Free.AllOuts, Free.At, List.getElem?_cons_succ, List.getElem?_cons_zero, Array.getD_eq_getD_getElem?, List.getElem?_toArray, Option.getD_some, and_true] at hO hD; go_simp; rfl)
  simp only [List.nil_append, List.cons_append]
  refine Free.Chain.pr (fun v _ => v = .int .i64 0) [(3, 28), (4, 29), (5, 30), (6, 31), (7, 32), (2, 27)] [] (by kernel_rfl) (by kernel_rfl) rfl (fun _ _ _ _ h => h) ?_ ?_
  · (intro ev W hb hR hO hD; have hS := hF W hR; obtain ⟨hb1, hb2, hb3⟩ := hb; simp only [Free.AllDeps, Free.AllOuts, Free.At, List.getElem?_cons_succ, List.getElem?_cons_zero, Array.getD_eq_getD_getElem?, List.getElem?_toArray, Option.getD_some, and_true] at hO hD; go_simp; refine (risked_any hb lo hi g b sn sd bn bd _ _ _ 0 _ hS.1.lo hS.1.hi rfl rfl rfl hy.out).mono ?_; rintro e W1 ⟨rfl, hB1⟩; exact ⟨_, rfl, hB1, rfl⟩)
  simp only [List.nil_append, List.cons_append]
  refine Free.Chain.pr (SlI [0, 0]) [(2, 27), (8, 33)] [] (by kernel_rfl) (by kernel_rfl) rfl (SlI.stable _) ?_ ?_
  · (intro ev W hb hR hO hD; have hS := hF W hR; obtain ⟨hb1, hb2, hb3⟩ := hb; simp only [Free.AllDeps, Free.AllOuts, Free.At, List.getElem?_cons_succ, List.getElem?_cons_zero, Array.getD_eq_getD_getElem?, List.getElem?_toArray, Option.getD_some, and_true] at hO hD; go_simp; exact ⟨belAlloc _ _, SlI.two _ _ _ _⟩)
  simp only [List.nil_append, List.cons_append]
  refine Free.Chain.pr (fun v _ => v = .int .i64 0) [(9, 34), (8, 33)] [] (by kernel_rfl) (by kernel_rfl) rfl (fun _ _ _ _ h => h) ?_ ?_
  · (intro ev W hb hR hO hD; have hS := hF W hR; obtain ⟨hb1, hb2, hb3⟩ := hb; simp only [Free.AllDeps, Free.AllOuts, Free.At, List.getElem?_cons_succ, List.getElem?_cons_zero, Array.getD_eq_getD_getElem?, List.getElem?_toArray, Option.getD_some, and_true] at hO hD; go_simp; refine (first_sl [0, 0] 0 _ _ (by simp [maxLen]) hz.out hD.1).mono ?_; rintro e W1 ⟨rfl, rfl⟩; exact ⟨_, rfl, Free.Bel.refl _, rfl⟩)
  simp only [List.nil_append, List.cons_append]
  refine Free.Chain.ex ?_ [(10, 35), (10, 35), (0, 25), (1, 26), (2, 27), (3, 28), (4, 29), (5, 30), (6, 31), (7, 32), (8, 33), (9, 34), (10, 35)] [] (by kernel_rfl) (by kernel_rfl) rfl Free.Bel.refl ?_ ?_
  rotate_left
  · (intro ev W hb hR hO hD; have hS := hF W hR; obtain ⟨hb1, hb2, hb3⟩ := hb; simp only [Free.AllDeps, Free.AllOuts, Free.At, List.getElem?_cons_succ, List.getElem?_cons_zero, Array.getD_eq_getD_getElem?, List.getElem?_toArray, Option.getD_some, and_true] at hO hD; go_simp; rfl)
  simp only [List.nil_append, List.cons_append]
  intro xs w' hR hV
  simp only [Free.AllV, Free.At, List.length_cons, List.length_nil, Nat.reduceAdd, List.getElem?_cons_succ, List.getElem?_cons_zero, true_and] at hV
  simp only [Free.putsFrom, Act.put, hV, List.setIfInBounds_toArray, List.set_cons_succ, List.set_cons_zero]
  have HB2 := Lib.hid (HB1.out.trans ((Free.Bel.first hR).mono (Nat.le_trans hs0 hs1)))
  obtain ⟨hH2, d2_0, d2_1, d2_2, d2_3, d2_4, d2_5, d2_6, d2_7, d2_8⟩ := hF0.out w' (Free.Bel.first hR)
  have HH2 := Lib.hid hH2
  clear hR hV hF hH2
  go_wp2_with fail
  refine (hfine.out hb mb kb cb _ HH2.out).mono ?_
  rintro e w3 ⟨rfl, hK3⟩
  have hbb := HBB.out
  have HB3 := Lib.hid (hK3.below_of HB2.out HH.out.2 (by have h1 := HB2.out.size; omega))
  clear hK3
  go_wp2_with fail
  subst hbb
  exact bodyPost_ret (v := .tuple #[.bool q, .int .i64 0]) (by simp [results, Tryz.results15, go_sem]) rfl ⟨rfl, HB3.out⟩

theorem good_any (N lo hi g b o a sn sd bn bd : Int) (w : World) :
    Calls Tryz.prog 15 #[.agg #[.int .i64 N, .int .i64 lo, .int .i64 hi], .agg #[.int .i64 o, .int .i64 a], .int .i64 g, .int .i64 b, .agg #[.int .i64 sn, .int .i64 sd], .agg #[.int .i64 bn, .int .i64 bd]] w fun e w' => e = .returned (.tuple (if cargoB N lo hi = false then #[.bool false, .int .i64 10] else if goodE N lo hi g b o a sn sd bn bd ≠ 0 then #[.bool false, .int .i64 (goodE N lo hi g b o a sn sd bn bd)] else #[.bool (fineB N g b o a sn sd bn bd), .int .i64 0])) ∧ Below w.heap.size w w' := by
  cases hc : cargoB N lo hi
  · simpa using good_a N lo hi g b o a sn sd bn bd w hc
  · by_cases hz : goodE N lo hi g b o a sn sd bn bd = 0
    · have hd : drawB N o a = true := by
        cases h : drawB N o a
        · simp [goodE, h, unlessV, firstE] at hz
        · rfl
      have he : riskedE lo hi g b sn sd bn bd = 0 := by
        have := hz
        simp only [goodE, hd, unlessV, firstE, if_true] at this
        by_cases h : riskedE lo hi g b sn sd bn bd = 0
        · exact h
        · simp [h] at this
      simpa [hz] using good_c N lo hi g b o a sn sd bn bd w _ hc hd he rfl
    · rw [if_neg (by simp), if_pos hz]
      exact good_b N lo hi g b o a sn sd bn bd w hc _ _ _ rfl rfl rfl (by show (goodE N lo hi g b o a sn sd bn bd != 0) = true; simpa using hz)
end Go.Proofs.YtigdpohdihopjaaGreatDoor

/- Rules: Curve. -/
namespace Go.Proofs.YtigdpohdihopjaaGreatDoor
set_option linter.unusedSimpArgs false
set_option linter.unusedVariables false
open Go.RowKit Go.Proofs.YtigdpohdihopjaaGreatDoor.ML Go.Proofs.YtigdpohdihopjaaGreatDoor.Samp

/-- The chance that a rule accepts, as two numbers. -/
def partP (N D o f : Int) : Int × Int := (((lowest (mostI N D o f).toNat (chI N o).toNat).1 : Nat), ((lowest (mostI N D o f).toNat (chI N o).toNat).2 : Nat))
theorem partP_eq (N D o f : Int) : mostV N D o f = encP (partP N D o f) := rfl
theorem partP_val {N D o f p q : Int} (h : partP N D o f = (p, q)) : mostV N D o f = .agg #[.int .i64 p, .int .i64 q] := by rw [partP_eq, h]; rfl
/-- The chances of the first k numbers of dirty bags from lo on. -/
def curveL (N lo o f : Int) (k : Nat) : List (Int × Int) := (List.range k).map fun (i : Nat) => partP N (lo + i) o f
def cellsP (xs : List (Int × Int)) : List Value := xs.flatMap fun x => [.int .i64 x.1, .int .i64 x.2]
theorem T.infoPart : (Tryz.prog.info? 31).map (fun i => (i.zero, i.size, i.bytes)) = some (some (.agg #[.int .i64 0, .int .i64 0]), 2, 16) := by kernel_rfl
theorem curveL_succ (N lo o f : Int) (k : Nat) : curveL N lo o f (k + 1) = curveL N lo o f k ++ [partP N (lo + k) o f] := by simp [curveL, List.range_succ]
theorem cellsP_append (xs ys : List (Int × Int)) : cellsP (xs ++ ys) = cellsP xs ++ cellsP ys := by simp [cellsP]
theorem cellsP_get (xs : List (Int × Int)) (k : Nat) (h : k < xs.length) : (cellsP xs)[k * 2]? = some (.int .i64 xs[k].1) ∧ (cellsP xs)[k * 2 + 1]? = some (.int .i64 xs[k].2) := by
  induction xs generalizing k with
  | nil => simp at h
  | cons x r ih =>
    cases k with
    | zero => simp [cellsP]
    | succ k =>
      have := ih k (by simpa using h)
      have e : cellsP (x :: r) = .int .i64 x.1 :: .int .i64 x.2 :: cellsP r := by simp [cellsP]
      rw [e, show (k + 1) * 2 = k * 2 + 1 + 1 by omega]
      simpa using this
/-- An owned row is a slice of fractions. -/
theorem PL.of_row {base : Nat} {e : TypeId} {v : Value} {n : Nat} {xs : List (Int × Int)} {w : World} (hn : xs.length = n) (hm : n ≤ maxLen) (h : w.ownsRow base e 2 v n (cellsP xs)) : PL xs v w := by
  subst hn
  rcases h.2 with ⟨rfl, h0⟩ | ⟨g, cap, cur, rfl, _, hg, _, _, _, ht⟩
  · have : xs = [] := List.eq_nil_of_length_eq_zero h0
    subst this
    exact PL.nil w
  · refine ⟨_, cap, rfl, hm, fun _ => ⟨g, 0, rfl, fun k hk => ?_⟩⟩
    have hc := h.cells (g := g) rfl
    obtain ⟨c1, c2⟩ := cellsP_get xs k hk
    have a1 := hc _ _ c1
    have a2 := hc _ _ c2
    simp only [Addr.add] at a1 a2
    refine ⟨?_, by simpa using a2⟩
    by_cases h0 : k = 0
    · subst h0; simpa using a1
    · rw [if_neg (by omega)] at a1; simpa using a1

set_option maxRecDepth 100000 in
set_option maxHeartbeats 2000000 in
theorem curve_a (N lo hi o a : Int) (w : World) (hc : cargoB N lo hi = false) :
    Calls Tryz.prog 14 #[.agg #[.int .i64 N, .int .i64 lo, .int .i64 hi], .agg #[.int .i64 o, .int .i64 a]] w fun e w' => e = .returned (.tuple #[.slice none 0 0, .int .i64 10]) ∧ Below w.heap.size w w' := by
  have hB0 : Below w.heap.size w ((w.alloc (.cells #[.int .i64 N, .int .i64 lo, .int .i64 hi] 28)).alloc (.cells #[.int .i64 o, .int .i64 a] 47)) := ((Below.refl _ w).alloc (Nat.le_refl _) _).alloc (by simp) _
  have c0 : ((w.alloc (.cells #[.int .i64 N, .int .i64 lo, .int .i64 hi] 28)).alloc (.cells #[.int .i64 o, .int .i64 a] 47)).cell? ⟨w.heap.size, 0, none⟩ = some (.int .i64 N) := by simp [go_sem]
  have c1 : ((w.alloc (.cells #[.int .i64 N, .int .i64 lo, .int .i64 hi] 28)).alloc (.cells #[.int .i64 o, .int .i64 a] 47)).cell? ⟨w.heap.size, 1, none⟩ = some (.int .i64 lo) := by simp [go_sem]
  have c2 : ((w.alloc (.cells #[.int .i64 N, .int .i64 lo, .int .i64 hi] 28)).alloc (.cells #[.int .i64 o, .int .i64 a] 47)).cell? ⟨w.heap.size, 2, none⟩ = some (.int .i64 hi) := by simp [go_sem]
  have c3 : ((w.alloc (.cells #[.int .i64 N, .int .i64 lo, .int .i64 hi] 28)).alloc (.cells #[.int .i64 o, .int .i64 a] 47)).cell? ⟨w.heap.size + 1, 0, none⟩ = some (.int .i64 o) := by simp [go_sem]
  have c4 : ((w.alloc (.cells #[.int .i64 N, .int .i64 lo, .int .i64 hi] 28)).alloc (.cells #[.int .i64 o, .int .i64 a] 47)).cell? ⟨w.heap.size + 1, 1, none⟩ = some (.int .i64 a) := by simp [go_sem]
  have s1 := Lib.hid (fun (W : World) (h : Below ((w.alloc (.cells #[.int .i64 N, .int .i64 lo, .int .i64 hi] 28)).alloc (.cells #[.int .i64 o, .int .i64 a] 47)).heap.size ((w.alloc (.cells #[.int .i64 N, .int .i64 lo, .int .i64 hi] 28)).alloc (.cells #[.int .i64 o, .int .i64 a] 47)) W) => And.intro (keepsB h c0) ( And.intro (keepsB h c1) ( And.intro (keepsB h c2) ( And.intro (keepsB h c3) (keepsB h c4)))))
  have HB0 := Lib.hid hB0
  clear hB0 c0 c1 c2 c3 c4
  go_enter Tryz.func14, Tryz.ntmps14
  go_wp2_with fail
  generalize ((w.alloc (.cells #[.int .i64 N, .int .i64 lo, .int .i64 hi] 28)).alloc (.cells #[.int .i64 o, .int .i64 a] 47)) = W0 at *
  generalize hbb : w.heap.size = bb at *
  have HBB := Lib.hid hbb
  clear hbb
  have hs0 : bb ≤ W0.heap.size := by have h1 := HB0.out.size; have h2 := HBB.out; omega
  refine (begun_bad N lo hi _ hc).mono ?_
  rintro e w1 ⟨rfl, hB1⟩
  have HB1 := Lib.hid hB1
  clear hB1
  go_wp2_with fail
  have hbb := HBB.out
  subst hbb
  exact bodyPost_ret (v := .tuple #[.slice none 0 0, .int .i64 10]) (by simp [results, Tryz.results14, go_sem]) rfl ⟨rfl, HB0.out.trans (HB1.out.mono hs0)⟩

set_option maxRecDepth 100000 in
set_option maxHeartbeats 2000000 in
theorem curve_b (N lo hi o a : Int) (w : World) (hc : cargoB N lo hi = true) (hd : drawB N o a = false) :
    Calls Tryz.prog 14 #[.agg #[.int .i64 N, .int .i64 lo, .int .i64 hi], .agg #[.int .i64 o, .int .i64 a]] w fun e w' => e = .returned (.tuple #[.slice none 0 0, .int .i64 13]) ∧ Below w.heap.size w w' := by
  have hx : Hid (unlessV (drawB N o a) 13 = 13) := by simp [Hid, unlessV, hd]
  have hB0 : Below w.heap.size w ((w.alloc (.cells #[.int .i64 N, .int .i64 lo, .int .i64 hi] 28)).alloc (.cells #[.int .i64 o, .int .i64 a] 47)) := ((Below.refl _ w).alloc (Nat.le_refl _) _).alloc (by simp) _
  have c0 : ((w.alloc (.cells #[.int .i64 N, .int .i64 lo, .int .i64 hi] 28)).alloc (.cells #[.int .i64 o, .int .i64 a] 47)).cell? ⟨w.heap.size, 0, none⟩ = some (.int .i64 N) := by simp [go_sem]
  have c1 : ((w.alloc (.cells #[.int .i64 N, .int .i64 lo, .int .i64 hi] 28)).alloc (.cells #[.int .i64 o, .int .i64 a] 47)).cell? ⟨w.heap.size, 1, none⟩ = some (.int .i64 lo) := by simp [go_sem]
  have c2 : ((w.alloc (.cells #[.int .i64 N, .int .i64 lo, .int .i64 hi] 28)).alloc (.cells #[.int .i64 o, .int .i64 a] 47)).cell? ⟨w.heap.size, 2, none⟩ = some (.int .i64 hi) := by simp [go_sem]
  have c3 : ((w.alloc (.cells #[.int .i64 N, .int .i64 lo, .int .i64 hi] 28)).alloc (.cells #[.int .i64 o, .int .i64 a] 47)).cell? ⟨w.heap.size + 1, 0, none⟩ = some (.int .i64 o) := by simp [go_sem]
  have c4 : ((w.alloc (.cells #[.int .i64 N, .int .i64 lo, .int .i64 hi] 28)).alloc (.cells #[.int .i64 o, .int .i64 a] 47)).cell? ⟨w.heap.size + 1, 1, none⟩ = some (.int .i64 a) := by simp [go_sem]
  have s1 := Lib.hid (fun (W : World) (h : Below ((w.alloc (.cells #[.int .i64 N, .int .i64 lo, .int .i64 hi] 28)).alloc (.cells #[.int .i64 o, .int .i64 a] 47)).heap.size ((w.alloc (.cells #[.int .i64 N, .int .i64 lo, .int .i64 hi] 28)).alloc (.cells #[.int .i64 o, .int .i64 a] 47)) W) => And.intro (keepsB h c0) ( And.intro (keepsB h c1) ( And.intro (keepsB h c2) ( And.intro (keepsB h c3) (keepsB h c4)))))
  have HB0 := Lib.hid hB0
  clear hB0 c0 c1 c2 c3 c4
  go_enter Tryz.func14, Tryz.ntmps14
  go_wp2_with fail
  generalize ((w.alloc (.cells #[.int .i64 N, .int .i64 lo, .int .i64 hi] 28)).alloc (.cells #[.int .i64 o, .int .i64 a] 47)) = W0 at *
  generalize hbb : w.heap.size = bb at *
  have HBB := Lib.hid hbb
  clear hbb
  have hs0 : bb ≤ W0.heap.size := by have h1 := HB0.out.size; have h2 := HBB.out; omega
  refine (begun_ok N lo hi _ hc).mono ?_
  rintro e w1 ⟨hb, mb, kb, cb, rfl, hH, hmb, hhb, hB1⟩
  have HB1 := Lib.hid hB1
  have HH := Lib.hid (And.intro hH (And.intro hmb hhb))
  have hbags := hH.bags
  clear hB1 hH hmb hhb
  obtain ⟨dw1_0, dw1_1, dw1_2, dw1_3, dw1_4⟩ := s1.out w1 HB1.out
  have hs1 := HB1.out.size
  go_wp2_with fail
  refine (rule_any hb N o a 13 _ hbags hx.out).mono ?_
  rintro e w2 ⟨rfl, hB2⟩
  have HB2 := Lib.hid (HB1.out.trans (hB2.mono hs1))
  have HH2 := Lib.hid (HH.out.1.kept (.of_below hB2))
  have hs2 := hB2.size
  clear hB2
  obtain ⟨dw2_0, dw2_1, dw2_2, dw2_3, dw2_4⟩ := s1.out w2 HB2.out
  go_wp2_with fail
  have hbb := HBB.out
  subst hbb
  exact bodyPost_ret (v := .tuple #[.slice none 0 0, .int .i64 13]) (by simp [results, Tryz.results14, go_sem]) rfl ⟨rfl, HB0.out.trans (HB2.out.mono hs0)⟩

set_option maxRecDepth 100000 in
set_option maxHeartbeats 2000000 in
theorem curve_c (N lo hi o a : Int) (w : World) (hc : cargoB N lo hi = true) (hd : drawB N o a = true) :
    Calls Tryz.prog 14 #[.agg #[.int .i64 N, .int .i64 lo, .int .i64 hi], .agg #[.int .i64 o, .int .i64 a]] w fun e w' => (∃ v, e = .returned (.tuple #[v, .int .i64 0]) ∧ PL (curveL N lo o a (hi - lo + 1).toNat) v w') ∧ Below w.heap.size w w' := by
  have hN := (cargoB_iff N lo hi).1 hc
  have hD := (drawB_iff N o a).1 hd
  have hx : Hid (unlessV (drawB N o a) 13 = 0) := by simp [Hid, unlessV, hd]
  clear hd
  have hB0 : Below w.heap.size w ((w.alloc (.cells #[.int .i64 N, .int .i64 lo, .int .i64 hi] 28)).alloc (.cells #[.int .i64 o, .int .i64 a] 47)) := ((Below.refl _ w).alloc (Nat.le_refl _) _).alloc (by simp) _
  have c0 : ((w.alloc (.cells #[.int .i64 N, .int .i64 lo, .int .i64 hi] 28)).alloc (.cells #[.int .i64 o, .int .i64 a] 47)).cell? ⟨w.heap.size, 0, none⟩ = some (.int .i64 N) := by simp [go_sem]
  have c1 : ((w.alloc (.cells #[.int .i64 N, .int .i64 lo, .int .i64 hi] 28)).alloc (.cells #[.int .i64 o, .int .i64 a] 47)).cell? ⟨w.heap.size, 1, none⟩ = some (.int .i64 lo) := by simp [go_sem]
  have c2 : ((w.alloc (.cells #[.int .i64 N, .int .i64 lo, .int .i64 hi] 28)).alloc (.cells #[.int .i64 o, .int .i64 a] 47)).cell? ⟨w.heap.size, 2, none⟩ = some (.int .i64 hi) := by simp [go_sem]
  have c3 : ((w.alloc (.cells #[.int .i64 N, .int .i64 lo, .int .i64 hi] 28)).alloc (.cells #[.int .i64 o, .int .i64 a] 47)).cell? ⟨w.heap.size + 1, 0, none⟩ = some (.int .i64 o) := by simp [go_sem]
  have c4 : ((w.alloc (.cells #[.int .i64 N, .int .i64 lo, .int .i64 hi] 28)).alloc (.cells #[.int .i64 o, .int .i64 a] 47)).cell? ⟨w.heap.size + 1, 1, none⟩ = some (.int .i64 a) := by simp [go_sem]
  have s1 := Lib.hid (fun (W : World) (h : Below ((w.alloc (.cells #[.int .i64 N, .int .i64 lo, .int .i64 hi] 28)).alloc (.cells #[.int .i64 o, .int .i64 a] 47)).heap.size ((w.alloc (.cells #[.int .i64 N, .int .i64 lo, .int .i64 hi] 28)).alloc (.cells #[.int .i64 o, .int .i64 a] 47)) W) => And.intro (keepsB h c0) ( And.intro (keepsB h c1) ( And.intro (keepsB h c2) ( And.intro (keepsB h c3) (keepsB h c4)))))
  have HB0 := Lib.hid hB0
  clear hB0 c0 c1 c2 c3 c4
  go_enter Tryz.func14, Tryz.ntmps14
  go_wp2_with fail
  generalize ((w.alloc (.cells #[.int .i64 N, .int .i64 lo, .int .i64 hi] 28)).alloc (.cells #[.int .i64 o, .int .i64 a] 47)) = W0 at *
  generalize hbb : w.heap.size = bb at *
  have HBB := Lib.hid hbb
  clear hbb
  have hs0 : bb ≤ W0.heap.size := by have h1 := HB0.out.size; have h2 := HBB.out; omega
  refine (begun_ok N lo hi _ hc).mono ?_
  rintro e w1 ⟨hb, mb, kb, cb, rfl, hH, hmb, hhb, hB1⟩
  have HB1 := Lib.hid hB1
  have HH := Lib.hid (And.intro hH (And.intro hmb hhb))
  have hbags := hH.bags
  clear hB1 hH hmb hhb
  obtain ⟨dw1_0, dw1_1, dw1_2, dw1_3, dw1_4⟩ := s1.out w1 HB1.out
  have hs1 := HB1.out.size
  go_wp2_with fail
  refine (rule_any hb N o a 0 _ hbags hx.out).mono ?_
  rintro e w2 ⟨rfl, hB2⟩
  have HB2 := Lib.hid (HB1.out.trans (hB2.mono hs1))
  have HH2 := Lib.hid (HH.out.1.kept (.of_below hB2))
  have hs2 := hB2.size
  clear hB2
  obtain ⟨dw2_0, dw2_1, dw2_2, dw2_3, dw2_4⟩ := s1.out w2 HB2.out
  have hlo2 := HH2.out.lo
  have hhi2 := HH2.out.hi
  have hF : ∀ W, Free.Bel w2.drew W → W.cell? ⟨hb, 1, none⟩ = some (.int .i64 lo) ∧ W.cell? ⟨hb, 2, none⟩ = some (.int .i64 hi) := fun W hW => ⟨keepsB (Free.Bel.first hW) hlo2, keepsB (Free.Bel.first hW) hhi2⟩
  go_wp2_with fail
  refine Free.wp_free (R := Free.Bel) (by kernel_rfl) (by kernel_rfl) Free.Bel.refl Free.Bel.trans ?_
  refine Free.Chain.ex ?_ [] [6] (by kernel_rfl) (by kernel_rfl) rfl Free.Bel.refl ?_ ?_
  rotate_left
  · (intro ev W hb hR hO hD; have hS := hF W hR; obtain ⟨hb1, hb2, hb3⟩ := hb; simp only [Free.AllDeps, Free.AllOuts, Free.At, List.getElem?_cons_succ, List.getElem?_cons_zero, Array.getD_eq_getD_getElem?, List.getElem?_toArray, Option.getD_some, and_true] at hO hD; go_simp; rfl)
  simp only [List.nil_append, List.cons_append]
  refine Free.Chain.ex ?_ [(0, 25)] [] (by kernel_rfl) (by kernel_rfl) rfl Free.Bel.refl ?_ ?_
  rotate_left
  · (intro ev W hb hR hO hD; have hS := hF W hR; obtain ⟨hb1, hb2, hb3⟩ := hb; simp only [Free.AllDeps, Free.AllOuts, Free.At, List.getElem?_cons_succ, List.getElem?_cons_zero, Array.getD_eq_getD_getElem?, List.getElem?_toArray, Option.getD_some, and_true] at hO hD; go_simp; rfl)
  simp only [List.nil_append, List.cons_append]
  refine Free.Chain.ex ?_ [(1, 26)] [] (by kernel_rfl) (by kernel_rfl) rfl Free.Bel.refl ?_ ?_
  rotate_left
  · (intro ev W hb hR hO hD; have hS := hF W hR; obtain ⟨hb1, hb2, hb3⟩ := hb; simp only [Free.AllDeps, Free.AllOuts, Free.At, List.getElem?_cons_succ, List.getElem?_cons_zero, Array.getD_eq_getD_getElem?, List.getElem?_toArray, Option.getD_some, and_true] at hO hD; go_simp; rfl)
  simp only [List.nil_append, List.cons_append]
  refine Free.Chain.ex ?_ [(2, 27)] [] (by kernel_rfl) (by kernel_rfl) rfl Free.Bel.refl ?_ ?_
  rotate_left
  · (intro ev W hb hR hO hD; have hS := hF W hR; obtain ⟨hb1, hb2, hb3⟩ := hb; simp only [Free.AllDeps, Free.AllOuts, Free.At, List.getElem?_cons_succ, List.getElem?_cons_zero, Array.getD_eq_getD_getElem?, List.getElem?_toArray, Option.getD_some, and_true] at hO hD; go_simp; rfl)
  simp only [List.nil_append, List.cons_append]
  refine Free.Chain.ex ?_ [(3, 28)] [] (by kernel_rfl) (by kernel_rfl) rfl Free.Bel.refl ?_ ?_
  rotate_left
  · (intro ev W hb hR hO hD; have hS := hF W hR; obtain ⟨hb1, hb2, hb3⟩ := hb; simp only [Free.AllDeps, Free.AllOuts, Free.At, List.getElem?_cons_succ, List.getElem?_cons_zero, Array.getD_eq_getD_getElem?, List.getElem?_toArray, Option.getD_some, and_true] at hO hD; go_simp; rfl)
  simp only [List.nil_append, List.cons_append]
  refine Free.Chain.ex ?_ [(4, 29)] [] (by kernel_rfl) (by kernel_rfl) rfl Free.Bel.refl ?_ ?_
  rotate_left
  · (intro ev W hb hR hO hD; have hS := hF W hR; obtain ⟨hb1, hb2, hb3⟩ := hb; simp only [Free.AllDeps, Free.AllOuts, Free.At, List.getElem?_cons_succ, List.getElem?_cons_zero, Array.getD_eq_getD_getElem?, List.getElem?_toArray, Option.getD_some, and_true] at hO hD; go_simp; rfl)
  simp only [List.nil_append, List.cons_append]
  refine Free.Chain.ex ?_ [] [6] (by kernel_rfl) (by kernel_rfl) rfl Free.Bel.refl ?_ ?_
  rotate_left
  · (intro ev W hb hR hO hD; have hS := hF W hR; obtain ⟨hb1, hb2, hb3⟩ := hb; simp only [Free.AllDeps, Free.AllOuts, Free.At, List.getElem?_cons_succ, List.getElem?_cons_zero, Array.getD_eq_getD_getElem?, List.getElem?_toArray, Option.getD_some, and_true] at hO hD; go_simp; rfl)
  simp only [List.nil_append, List.cons_append]
  refine Free.Chain.ex ?_ [(6, 31)] [] (by kernel_rfl) (by kernel_rfl) rfl Free.Bel.refl ?_ ?_
  rotate_left
  · (intro ev W hb hR hO hD; have hS := hF W hR; obtain ⟨hb1, hb2, hb3⟩ := hb; simp only [Free.AllDeps, Free.AllOuts, Free.At, List.getElem?_cons_succ, List.getElem?_cons_zero, Array.getD_eq_getD_getElem?, List.getElem?_toArray, Option.getD_some, and_true] at hO hD; go_simp; rfl)
  simp only [List.nil_append, List.cons_append]
  refine Free.Chain.ex ?_ [(7, 32)] [] (by kernel_rfl) (by kernel_rfl) rfl Free.Bel.refl ?_ ?_
  rotate_left
  · (intro ev W hb hR hO hD; have hS := hF W hR; obtain ⟨hb1, hb2, hb3⟩ := hb; simp only [Free.AllDeps, Free.AllOuts, Free.At, List.getElem?_cons_succ, List.getElem?_cons_zero, Array.getD_eq_getD_getElem?, List.getElem?_toArray, Option.getD_some, and_true] at hO hD; go_simp; rfl)
  simp only [List.nil_append, List.cons_append]
  refine Free.Chain.ex ?_ [(8, 33)] [] (by kernel_rfl) (by kernel_rfl) rfl Free.Bel.refl ?_ ?_
  rotate_left
  · (intro ev W hb hR hO hD; have hS := hF W hR; obtain ⟨hb1, hb2, hb3⟩ := hb; simp only [Free.AllDeps, Free.AllOuts, Free.At, List.getElem?_cons_succ, List.getElem?_cons_zero, Array.getD_eq_getD_getElem?, List.getElem?_toArray, Option.getD_some, and_true] at hO hD; go_simp; rfl)
  simp only [List.nil_append, List.cons_append]
  refine Free.Chain.ex ?_ [(9, 34)] [] (by kernel_rfl) (by kernel_rfl) rfl Free.Bel.refl ?_ ?_
  rotate_left
  · (intro ev W hb hR hO hD; have hS := hF W hR; obtain ⟨hb1, hb2, hb3⟩ := hb; simp only [Free.AllDeps, Free.AllOuts, Free.At, List.getElem?_cons_succ, List.getElem?_cons_zero, Array.getD_eq_getD_getElem?, List.getElem?_toArray, Option.getD_some, and_true] at hO hD; go_simp; rfl)
  simp only [List.nil_append, List.cons_append]
  refine Free.Chain.ex ?_ [(10, 35)] [] (by kernel_rfl) (by kernel_rfl) rfl Free.Bel.refl ?_ ?_
  rotate_left
  · (intro ev W hb hR hO hD; have hS := hF W hR; obtain ⟨hb1, hb2, hb3⟩ := hb; simp only [Free.AllDeps, Free.AllOuts, Free.At, List.getElem?_cons_succ, List.getElem?_cons_zero, Array.getD_eq_getD_getElem?, List.getElem?_toArray, Option.getD_some, and_true] at hO hD; go_simp; rfl)
  simp only [List.nil_append, List.cons_append]
  refine Free.Chain.ex ?_ [(5, 30), (11, 36)] [] (by kernel_rfl) (by kernel_rfl) rfl Free.Bel.refl ?_ ?_
  rotate_left
  · (intro ev W hb hR hO hD; have hS := hF W hR; obtain ⟨hb1, hb2, hb3⟩ := hb; simp only [Free.AllDeps, Free.AllOuts, Free.At, List.getElem?_cons_succ, List.getElem?_cons_zero, Array.getD_eq_getD_getElem?, List.getElem?_toArray, Option.getD_some, and_true] at hO hD; go_simp; rfl)
  simp only [List.nil_append, List.cons_append]
  refine Free.Chain.ex ?_ [(12, 37)] [] (by kernel_rfl) (by kernel_rfl) rfl Free.Bel.refl ?_ ?_
  rotate_left
  · (intro ev W hb hR hO hD; have hS := hF W hR; obtain ⟨hb1, hb2, hb3⟩ := hb; simp only [Free.AllDeps, Free.AllOuts, Free.At, List.getElem?_cons_succ, List.getElem?_cons_zero, Array.getD_eq_getD_getElem?, List.getElem?_toArray, Option.getD_some, and_true] at hO hD; go_simp; rfl)
  simp only [List.nil_append, List.cons_append]
  refine Free.Chain.ex ?_ [] [] (by kernel_rfl) (by kernel_rfl) rfl Free.Bel.refl ?_ ?_
  rotate_left
  · (intro ev W hb hR hO hD; have hS := hF W hR; obtain ⟨hb1, hb2, hb3⟩ := hb; simp only [Free.AllDeps, Free.AllOuts, Free.At, List.getElem?_cons_succ, List.getElem?_cons_zero, Array.getD_eq_getD_getElem?, List.getElem?_toArray, Option.getD_some, and_true] at hO hD; go_simp; rfl)
  simp only [List.nil_append, List.cons_append]
  intro xs w' hR hV
  simp only [Free.AllV, Free.At, List.length_cons, List.length_nil, Nat.reduceAdd, List.getElem?_cons_succ, List.getElem?_cons_zero, true_and] at hV
  simp only [Free.putsFrom, Act.put, hV, List.setIfInBounds_toArray, List.set_cons_succ, List.set_cons_zero]
  have HB3 := Lib.hid (HB2.out.trans ((Free.Bel.first hR).mono (Nat.le_trans hs1 hs2)))
  have HH3 := Lib.hid (HH2.out.kept (.of_below (Free.Bel.first hR)))
  have hs3 := (Free.Bel.first hR).size
  obtain ⟨dw3_0, dw3_1, dw3_2, dw3_3, dw3_4⟩ := s1.out w' HB3.out
  have HMB := Lib.hid (show bb ≤ mb ∧ bb ≤ w'.heap.size ∧ mb < w'.heap.size from ⟨Nat.le_trans hs0 HH.out.2.1, by omega, by obtain ⟨l, hl, _⟩ := HH3.out.ctr.memo; exact hl.lt⟩)
  have HN3 := Lib.hid (HH3.out.ctr.memo.ne dw3_3)
  have HC := Lib.hid (And.intro dw3_3 dw3_4)
  clear hR hV hF
  go_wp2_with fail
  go_loopw [9, 39] (fun l i wr => ∃ k : Nat, (k : Int) ≤ hi - lo + 1 ∧ i = .int .i64 k ∧ Hid (wr.ownsRow w'.heap.size 31 2 l k (cellsP (curveL N lo o a k))) ∧ Hid (KeptB w'.heap.size mb w' wr)) (fun _ i _ => (hi - lo + 1 - intOf i).toNat)
  case atStart => exact ⟨0, by omega, rfl, World.ownsRow_nil _ _ _ _, KeptB.refl _ _ _⟩
  case round =>
    obtain ⟨k, hk, rfl, hrow, hKB⟩ := hrel
    by_cases hlt : (k : Int) < hi - lo + 1
    · have hKk : Kept mb w' wr := hKB.out.kept (Nat.le_refl _)
      have HHr := Lib.hid (HH3.out.kept hKk)
      have hss := hKB.out.size
      have HHW := Lib.hid (fun (W : World) (hW : KeptB w'.heap.size mb wr.drew W) => (hKB.out.trans ⟨hW.os, hW.tape, hW.output, hW.size, hW.block, hW.memo⟩).kept (Nat.le_refl _))
      clear hKk
      obtain ⟨p, q, hpq⟩ : ∃ p q : Int, partP N (lo + k) o a = (p, q) := ⟨_, _, rfl⟩
      have HPQ := Lib.hid hpq
      clear hpq
      have HM3 := Lib.hid HMB.out.2.2
      have HNN := Lib.hid (And.intro hN hD)
      have hwr : IntKind.i64.wrap (lo + k) = lo + k := IntWalk.i64_in _ (by omega)
      go_wp2_with fail
      have hF : ∀ W, KeptB w'.heap.size mb wr.drew W → Hold hb N lo hi mb kb cb W ∧ W.cell? ⟨bb + 1, 0, none⟩ = some (.int .i64 o) ∧ W.cell? ⟨bb + 1, 1, none⟩ = some (.int .i64 a) ∧ w'.heap.size ≤ W.heap.size ∧ W.cell? ⟨hb, 1, none⟩ = some (.int .i64 lo) := fun W hW => by
        have hK := HHW.out W hW
        have hH := HH3.out.kept hK
        exact ⟨hH, hK.cell HC.out.1 HN3.out, hK.cell HC.out.2 HN3.out, hK.size, hH.lo⟩
      refine Free2.wp_free (R := KeptB w'.heap.size mb) (J := J1 w'.heap.size mb 12 13 14 31 2 u9 k (cellsP (curveL N lo o a k)) [.int .i64 p, .int .i64 q]) (by kernel_rfl) (by kernel_rfl) (KeptB.refl _ _) (fun _ _ _ => KeptB.trans) (J1.start hrow.out) ?_
      refine Free2.Chain.ex ?_ 0 rfl [] [9] (by kernel_rfl) (by kernel_rfl) rfl (KeptB.refl _ _) (fun X W v h => J1.skip h 0 v (show (0 : Nat) ≠ 13 by decide) (show (0 : Nat) ≠ 12 by decide) (show (0 : Nat) ≠ 14 by decide)) ?_ ?_
      rotate_left
      · (intro ev W hb hR hO hD; have hS := hF W hR; obtain ⟨hb1, hb2, hb3⟩ := hb; simp only [Free.AllDeps, Free.AllOuts, Free.At, List.getElem?_cons_succ, List.getElem?_cons_zero, Array.getD_eq_getD_getElem?, List.getElem?_toArray, Option.getD_some, and_true] at hO hD; go_simp; rfl)
      simp only [List.nil_append, List.cons_append]
      refine Free2.Chain.ex ?_ 1 rfl [] [6] (by kernel_rfl) (by kernel_rfl) rfl (KeptB.refl _ _) (fun X W v h => J1.skip h 1 v (show (1 : Nat) ≠ 13 by decide) (show (1 : Nat) ≠ 12 by decide) (show (1 : Nat) ≠ 14 by decide)) ?_ ?_
      rotate_left
      · (intro ev W hb hR hO hD; have hS := hF W hR; obtain ⟨hb1, hb2, hb3⟩ := hb; simp only [Free.AllDeps, Free.AllOuts, Free.At, List.getElem?_cons_succ, List.getElem?_cons_zero, Array.getD_eq_getD_getElem?, List.getElem?_toArray, Option.getD_some, and_true] at hO hD; go_simp; rfl)
      simp only [List.nil_append, List.cons_append]
      refine Free2.Chain.ex ?_ 2 rfl [] [3] (by kernel_rfl) (by kernel_rfl) rfl (KeptB.refl _ _) (fun X W v h => J1.skip h 2 v (show (2 : Nat) ≠ 13 by decide) (show (2 : Nat) ≠ 12 by decide) (show (2 : Nat) ≠ 14 by decide)) ?_ ?_
      rotate_left
      · (intro ev W hb hR hO hD; have hS := hF W hR; obtain ⟨hb1, hb2, hb3⟩ := hb; simp only [Free.AllDeps, Free.AllOuts, Free.At, List.getElem?_cons_succ, List.getElem?_cons_zero, Array.getD_eq_getD_getElem?, List.getElem?_toArray, Option.getD_some, and_true] at hO hD; go_simp; rfl)
      simp only [List.nil_append, List.cons_append]
      refine Free2.Chain.ex ?_ 3 rfl [] [6] (by kernel_rfl) (by kernel_rfl) rfl (KeptB.refl _ _) (fun X W v h => J1.skip h 3 v (show (3 : Nat) ≠ 13 by decide) (show (3 : Nat) ≠ 12 by decide) (show (3 : Nat) ≠ 14 by decide)) ?_ ?_
      rotate_left
      · (intro ev W hb hR hO hD; have hS := hF W hR; obtain ⟨hb1, hb2, hb3⟩ := hb; simp only [Free.AllDeps, Free.AllOuts, Free.At, List.getElem?_cons_succ, List.getElem?_cons_zero, Array.getD_eq_getD_getElem?, List.getElem?_toArray, Option.getD_some, and_true] at hO hD; go_simp; rfl)
      simp only [List.nil_append, List.cons_append]
      refine Free2.Chain.ex ?_ 4 rfl [(3, 45)] [] (by kernel_rfl) (by kernel_rfl) rfl (KeptB.refl _ _) (fun X W v h => J1.skip h 4 v (show (4 : Nat) ≠ 13 by decide) (show (4 : Nat) ≠ 12 by decide) (show (4 : Nat) ≠ 14 by decide)) ?_ ?_
      rotate_left
      · (intro ev W hb hR hO hD; have hS := hF W hR; obtain ⟨hb1, hb2, hb3⟩ := hb; simp only [Free.AllDeps, Free.AllOuts, Free.At, List.getElem?_cons_succ, List.getElem?_cons_zero, Array.getD_eq_getD_getElem?, List.getElem?_toArray, Option.getD_some, and_true] at hO hD; go_simp; rfl)
      simp only [List.nil_append, List.cons_append]
      refine Free2.Chain.ex ?_ 5 rfl [(4, 46)] [] (by kernel_rfl) (by kernel_rfl) rfl (KeptB.refl _ _) (fun X W v h => J1.skip h 5 v (show (5 : Nat) ≠ 13 by decide) (show (5 : Nat) ≠ 12 by decide) (show (5 : Nat) ≠ 14 by decide)) ?_ ?_
      rotate_left
      · (intro ev W hb hR hO hD; have hS := hF W hR; obtain ⟨hb1, hb2, hb3⟩ := hb; simp only [Free.AllDeps, Free.AllOuts, Free.At, List.getElem?_cons_succ, List.getElem?_cons_zero, Array.getD_eq_getD_getElem?, List.getElem?_toArray, Option.getD_some, and_true] at hO hD; go_simp; rfl)
      simp only [List.nil_append, List.cons_append]
      refine Free2.Chain.ex ?_ 6 rfl [(5, 47)] [] (by kernel_rfl) (by kernel_rfl) rfl (KeptB.refl _ _) (fun X W v h => J1.skip h 6 v (show (6 : Nat) ≠ 13 by decide) (show (6 : Nat) ≠ 12 by decide) (show (6 : Nat) ≠ 14 by decide)) ?_ ?_
      rotate_left
      · (intro ev W hb hR hO hD; have hS := hF W hR; obtain ⟨hb1, hb2, hb3⟩ := hb; simp only [Free.AllDeps, Free.AllOuts, Free.At, List.getElem?_cons_succ, List.getElem?_cons_zero, Array.getD_eq_getD_getElem?, List.getElem?_toArray, Option.getD_some, and_true] at hO hD; go_simp; rfl)
      simp only [List.nil_append, List.cons_append]
      refine Free2.Chain.ex ?_ 7 rfl [(6, 48)] [] (by kernel_rfl) (by kernel_rfl) rfl (KeptB.refl _ _) (fun X W v h => J1.skip h 7 v (show (7 : Nat) ≠ 13 by decide) (show (7 : Nat) ≠ 12 by decide) (show (7 : Nat) ≠ 14 by decide)) ?_ ?_
      rotate_left
      · (intro ev W hb hR hO hD; have hS := hF W hR; obtain ⟨hb1, hb2, hb3⟩ := hb; simp only [Free.AllDeps, Free.AllOuts, Free.At, List.getElem?_cons_succ, List.getElem?_cons_zero, Array.getD_eq_getD_getElem?, List.getElem?_toArray, Option.getD_some, and_true] at hO hD; go_simp; rfl)
      simp only [List.nil_append, List.cons_append]
      refine Free2.Chain.ex ?_ 8 rfl [(7, 49)] [] (by kernel_rfl) (by kernel_rfl) rfl (KeptB.refl _ _) (fun X W v h => J1.skip h 8 v (show (8 : Nat) ≠ 13 by decide) (show (8 : Nat) ≠ 12 by decide) (show (8 : Nat) ≠ 14 by decide)) ?_ ?_
      rotate_left
      · (intro ev W hb hR hO hD; have hS := hF W hR; obtain ⟨hb1, hb2, hb3⟩ := hb; simp only [Free.AllDeps, Free.AllOuts, Free.At, List.getElem?_cons_succ, List.getElem?_cons_zero, Array.getD_eq_getD_getElem?, List.getElem?_toArray, Option.getD_some, and_true] at hO hD; go_simp; rfl)
      simp only [List.nil_append, List.cons_append]
      refine Free2.Chain.ex ?_ 9 rfl [] [10] (by kernel_rfl) (by kernel_rfl) rfl (KeptB.refl _ _) (fun X W v h => J1.skip h 9 v (show (9 : Nat) ≠ 13 by decide) (show (9 : Nat) ≠ 12 by decide) (show (9 : Nat) ≠ 14 by decide)) ?_ ?_
      rotate_left
      · (intro ev W hb hR hO hD; have hS := hF W hR; obtain ⟨hb1, hb2, hb3⟩ := hb; simp only [Free.AllDeps, Free.AllOuts, Free.At, List.getElem?_cons_succ, List.getElem?_cons_zero, Array.getD_eq_getD_getElem?, List.getElem?_toArray, Option.getD_some, and_true] at hO hD; go_simp; rfl)
      simp only [List.nil_append, List.cons_append]
      refine Free2.Chain.ex ?_ 10 rfl [(8, 50), (9, 51)] [] (by kernel_rfl) (by kernel_rfl) rfl (KeptB.refl _ _) (fun X W v h => J1.skip h 10 v (show (10 : Nat) ≠ 13 by decide) (show (10 : Nat) ≠ 12 by decide) (show (10 : Nat) ≠ 14 by decide)) ?_ ?_
      rotate_left
      · (intro ev W hb hR hO hD; have hS := hF W hR; obtain ⟨hb1, hb2, hb3⟩ := hb; simp only [Free.AllDeps, Free.AllOuts, Free.At, List.getElem?_cons_succ, List.getElem?_cons_zero, Array.getD_eq_getD_getElem?, List.getElem?_toArray, Option.getD_some, and_true] at hO hD; go_simp; rfl)
      simp only [List.nil_append, List.cons_append]
      refine Free2.Chain.pr (fun v _ => v = .agg #[.int .i64 p, .int .i64 q]) 11 rfl [(1, 43), (2, 44), (10, 52)] [] (by kernel_rfl) (by kernel_rfl) rfl (fun _ _ _ _ h => h) ?_ ?_
      · (intro ev W X hb hR hO hD hj hx hax; have hS := hF W hR; obtain ⟨hb1, hb2, hb3⟩ := hb; simp only [Free.AllDeps, Free.AllOuts, Free.At, List.getElem?_cons_succ, List.getElem?_cons_zero, Array.getD_eq_getD_getElem?, List.getElem?_toArray, Option.getD_some, and_true] at hO hD; simp only [Free2.AllX, and_true] at hax; go_simp; refine (accepts_any hb N lo hi (lo + k) o a mb kb cb _ (.agg #[.int .i64 p, .int .i64 q]) (partP_val HPQ.out) hS.1 HNN.out.1.2.1 (by have := HNN.out.1; omega) (by have := HNN.out.1; omega) (by have := HNN.out.2; omega)).mono ?_; rintro e W1 ⟨rfl, hK1⟩; exact ⟨_, rfl, KeptB.of_kept hK1 hS.2.2.2.1, rfl, (hj.kept hK1 HM3.out).skip 11 _ (by decide) (by decide) (by decide)⟩)
      simp only [List.nil_append, List.cons_append]
      refine Free2.Chain.pr (fun _ _ => True) 12 rfl [(11, 53)] [] (by kernel_rfl) (by kernel_rfl) rfl (fun _ _ _ _ h => h) ?_ ?_
      · (intro ev W X hb hR hO hD hj hx hax; have hS := hF W hR; obtain ⟨hb1, hb2, hb3⟩ := hb; simp only [Free.AllDeps, Free.AllOuts, Free.At, List.getElem?_cons_succ, List.getElem?_cons_zero, Array.getD_eq_getD_getElem?, List.getElem?_toArray, Option.getD_some, and_true] at hO hD; simp only [Free2.AllX, and_true] at hax; obtain ⟨ml, hml, _⟩ := hS.1.ctr.memo; have hmlt := hml.lt; clear hml; go_simp; exact ⟨KeptB.of_kept ((Kept.refl _ _).alloc _) hS.2.2.2.1, (hj.kept ((Kept.refl _ _).alloc _) HM3.out).made (by decide) (by decide) (by omega) (cells2_new _ _ _ _)⟩)
      simp only [List.nil_append, List.cons_append]
      refine Free2.Chain.pr (fun _ _ => True) 13 rfl [(0, 42), (12, 54), (11, 53)] [] (by kernel_rfl) (by kernel_rfl) rfl (fun _ _ _ _ h => h) ?_ ?_
      · (intro ev W X hb hR hO hD hj hx hax; have hS := hF W hR; obtain ⟨hb1, hb2, hb3⟩ := hb; simp only [Free.AllDeps, Free.AllOuts, Free.At, List.getElem?_cons_succ, List.getElem?_cons_zero, Array.getD_eq_getD_getElem?, List.getElem?_toArray, Option.getD_some, and_true] at hO hD; simp only [Free2.AllX, and_true] at hax; obtain ⟨i0, hi0, hz0, hz1, hz2⟩ := info_parts T.infoPart; obtain ⟨sb, hsb, hsne, hsc⟩ := hj.src _ hax.2.1 hx; obtain ⟨v2, W2, hr2, ho2, hg2, _⟩ := run_append_own_wide (P := Tryz.prog) W w'.heap.size 48 48 31 i0 (.agg #[.int .i64 0, .int .i64 0]) 2 16 Tryz.underlying48 hi0 hz0 hz1 hz2 rfl (by decide) u9 k _ (hj.old hx) ⟨sb, 0, none⟩ 1 1 [.int .i64 p, .int .i64 q] rfl hsc (by simp [Value.oneCell']) (by have := HNN.out.1; unfold maxLen; omega) (by have := HNN.out.1; omega) hS.2.2.2.1; simp only [execOp, resolve, invoke, builtin, Sem.run_bind, Sem.run_pure, Result.andThen_ok, List.map_toArray, List.map_cons, List.map_nil, hD.1, hsb, hr2]; exact ⟨KeptB.of_grown (hj.old hx) hg2 HM3.out hS.2.2.2.1, trivial, hj.set (by decide) hx ho2⟩)
      simp only [List.nil_append, List.cons_append]
      refine Free2.Chain.pr (fun _ _ => True) 14 rfl [(13, 55), (13, 55), (0, 42), (1, 43), (2, 44), (3, 45), (4, 46), (5, 47), (6, 48), (7, 49), (8, 50), (9, 51), (10, 52), (11, 53), (12, 54), (13, 55)] [] (by kernel_rfl) (by kernel_rfl) rfl (fun _ _ _ _ h => h) ?_ ?_
      · (intro ev W X hb hR hO hD hj hx hax; have hS := hF W hR; obtain ⟨hb1, hb2, hb3⟩ := hb; simp only [Free.AllDeps, Free.AllOuts, Free.At, List.getElem?_cons_succ, List.getElem?_cons_zero, Array.getD_eq_getD_getElem?, List.getElem?_toArray, Option.getD_some, and_true] at hO hD; simp only [Free2.AllX, and_true] at hax; go_simp; exact ⟨KeptB.refl _ _ _, hj.keep (by decide) (by decide) hax.1⟩)
      simp only [List.nil_append, List.cons_append]
      intro xs w5 hR hV hX
      obtain ⟨X, hj, hxx⟩ := hX
      have hlast := hxx 14 (show (14 : Nat) < 15 by decide)
      have hrow5 := Lib.hid (hj.now _ (hj.same _ hlast))
      simp only [Free.AllV, Free.At, List.length_cons, List.length_nil, Nat.reduceAdd, List.getElem?_cons_succ, List.getElem?_cons_zero, true_and, and_true] at hV
      simp only [Free.putsFrom, Act.put, hV, List.setIfInBounds_toArray, List.set_cons_succ, List.set_cons_zero]
      have hKB5 := Lib.hid (hKB.out.trans (KeptB.trans (show KeptB w'.heap.size mb wr wr.drew from ⟨rfl, rfl, rfl, Nat.le_refl _, fun _ _ _ => rfl, id⟩) hR))
      generalize xs 14 = v14 at *
      clear hR hV hj hxx hlast hF
      go_wp2_with fail
      go_roundw
      case rel => exact ⟨k + 1, by omega, by go_num, by have h := hrow5.out; rw [curveL_succ, cellsP_append, HPQ.out]; exact h, hKB5.out⟩
      case measure => simp [intOf]; omega
    · have hk2 : k = (hi - lo + 1).toNat := by omega
      have HBE := Lib.hid (hKB.out.kept (Nat.le_refl _))
      have HK2 := Lib.hid hk2
      clear hk2
      go_wp2_with fail
      have hbb := HBB.out
      subst hbb
      refine bodyPost_ret (v := .tuple #[u9, .int .i64 0]) (by simp [results, Tryz.results14, go_sem]) rfl ⟨⟨u9, rfl, ?_⟩, ?_⟩
      · rw [← HK2.out]
        exact PL.of_row (by simp [curveL]) (by unfold maxLen; omega) hrow.out
      · exact HB0.out.trans ((HBE.out.below (HB3.out) (by have := HMB.out; have := HH.out.2.1; omega)).mono hs0)
end Go.Proofs.YtigdpohdihopjaaGreatDoor

/- The reference's Curve. -/
namespace Go.Proofs.YtigdpohdihopjaaGreatDoor
set_option linter.unusedSimpArgs false
set_option linter.unusedVariables false
open Go.RowKit Go.Proofs.YtigdpohdihopjaaGreatDoor.ML Go.Proofs.YtigdpohdihopjaaGreatDoor.Samp

/-- What is returned. -/
def CurveIs (N lo hi o a : Int) (e : Ending) (w : World) : Prop :=
  if cargoB N lo hi = false then e = .returned (.tuple #[.slice none 0 0, .int .i64 10]) else
  if drawB N o a = false then e = .returned (.tuple #[.slice none 0 0, .int .i64 13]) else
  ∃ v, e = .returned (.tuple #[v, .int .i64 0]) ∧ PL (curveL N lo o a (hi - lo + 1).toNat) v w
theorem curve_any (N lo hi o a : Int) (w : World) :
    Calls Tryz.prog 14 #[.agg #[.int .i64 N, .int .i64 lo, .int .i64 hi], .agg #[.int .i64 o, .int .i64 a]] w fun e w' => CurveIs N lo hi o a e w' ∧ Below w.heap.size w w' := by
  cases hc : cargoB N lo hi
  · exact (curve_a N lo hi o a w hc).mono fun e w' ⟨h1, h2⟩ => ⟨by rw [CurveIs, if_pos hc]; exact h1, h2⟩
  · cases hd : drawB N o a
    · exact (curve_b N lo hi o a w hc hd).mono fun e w' ⟨h1, h2⟩ => ⟨by rw [CurveIs, if_neg (by simp [hc]), if_pos hd]; exact h1, h2⟩
    · exact (curve_c N lo hi o a w hc hd).mono fun e w' ⟨h1, h2⟩ => ⟨by rw [CurveIs, if_neg (by simp [hc]), if_neg (by simp [hd])]; exact h1, h2⟩

end Go.Proofs.YtigdpohdihopjaaGreatDoor

/- What the program's functions return at the numbers of the chapter's examples. -/
namespace Go.Proofs.YtigdpohdihopjaaGreatDoor
set_option linter.unusedSimpArgs false
set_option linter.unusedVariables false
open Go.RowKit Go.Proofs.YtigdpohdihopjaaGreatDoor.ML Go.Proofs.YtigdpohdihopjaaGreatDoor.Samp

abbrev few10 : Value := .agg #[.int .i64 10, .int .i64 0, .int .i64 3]
abbrev bad10 : Value := .agg #[.int .i64 10, .int .i64 4, .int .i64 3]
abbrev trm : List (Int × Int) := [(5, 100), (10, 300), (30, 1000)]
theorem ex_mean (w : World) : Calls Tryz.prog 7 #[cargo10, .int .i64 4, .int .i64 3] w fun e w' => e = .returned (.tuple #[i2 6 5, .int .i64 0]) ∧ Below w.heap.size w w' :=
  (mean_any 10 0 10 4 3 w).mono fun e w' h => ⟨h.1.trans (congrArg _ (by kernel_rfl)), h.2⟩
theorem ex_rest (w : World) : Calls Tryz.prog 8 #[cargo10, i2 3 1] w fun e w' => e = .returned (.tuple #[i3 7 0 7, .int .i64 0]) ∧ Below w.heap.size w w' :=
  (rest_ok 10 0 10 3 1 w (by decide) (by decide) 1 8 (by show _ = _; kernel_rfl) (by decide) (by decide)).mono fun e w' h => ⟨h.1.trans (congrArg _ (by kernel_rfl)), h.2⟩
theorem ex_like5 (w : World) : Calls Tryz.prog 10 #[cargo10, i2 4 2] w fun e w' => (∃ v, e = .returned (.tuple #[v, .int .i64 0]) ∧ IL [5] v w') ∧ Below w.heap.size w w' := by
  have h := likely_any 10 0 10 4 2 w
  rw [show likeE 10 0 10 4 2 = 0 by decide +kernel, show likeA 10 0 10 4 2 = [5] by decide +kernel] at h
  exact h
theorem ex_like34 (w : World) : Calls Tryz.prog 10 #[.agg #[.int .i64 11, .int .i64 0, .int .i64 11], i2 3 1] w fun e w' => (∃ v, e = .returned (.tuple #[v, .int .i64 0]) ∧ IL [3, 4] v w') ∧ Below w.heap.size w w' := by
  have h := likely_any 11 0 11 3 1 w
  rw [show likeE 11 0 11 3 1 = 0 by decide +kernel, show likeA 11 0 11 3 1 = [3, 4] by decide +kernel] at h
  exact h
theorem ex_find9 (w : World) : Calls Tryz.prog 11 #[cargo10, .int .i64 2, i2 1 1] w fun e w' => e = .returned (.tuple #[.int .i64 9, .int .i64 0]) ∧ Below w.heap.size w w' := by
  refine (find_any 10 0 10 2 1 1 w).mono ?_
  rintro e w' ⟨⟨k, q, rfl, h⟩, hB⟩
  have hw : FindAll 10 0 10 2 1 1 9 0 := by
    rw [FindAll, if_neg (by decide +kernel), if_neg (by decide +kernel)]
    refine .inl ⟨rfl, 9, rfl, by omega, by decide +kernel, fun j hj => ?_⟩
    obtain rfl | rfl | rfl | rfl | rfl | rfl | rfl | rfl | rfl : j = 0 ∨ j = 1 ∨ j = 2 ∨ j = 3 ∨ j = 4 ∨ j = 5 ∨ j = 6 ∨ j = 7 ∨ j = 8 := by omega
    all_goals decide +kernel
  obtain ⟨rfl, rfl⟩ := findAll_unique h hw
  exact ⟨rfl, hB⟩
theorem ex_accept (w : World) : Calls Tryz.prog 13 #[cargo10, i2 3 0, .int .i64 2] w fun e w' => e = .returned (.tuple #[i2 7 15, .int .i64 0]) ∧ Below w.heap.size w w' :=
  (accept_any 10 0 10 2 3 0 w).mono fun e w' h => ⟨h.1.trans (congrArg _ (by kernel_rfl)), h.2⟩
theorem ex_curve (w : World) : Calls Tryz.prog 14 #[few10, i2 3 0] w fun e w' => (∃ v, e = .returned (.tuple #[v, .int .i64 0]) ∧ PL [(1, 1), (7, 10), (7, 15), (7, 24)] v w') ∧ Below w.heap.size w w' := by
  refine (curve_any 10 0 3 3 0 w).mono ?_
  rintro e w' ⟨h, hB⟩
  refine ⟨?_, hB⟩
  rw [CurveIs, if_neg (by decide +kernel), if_neg (by decide +kernel)] at h
  rw [show curveL 10 0 3 0 (3 - 0 + 1 : Int).toNat = [(1, 1), (7, 10), (7, 15), (7, 24)] by decide +kernel] at h
  exact h
theorem ex_good (w : World) : Calls Tryz.prog 15 #[cargo10, i2 3 0, .int .i64 1, .int .i64 5, i2 3 10, i2 1 10] w fun e w' => e = .returned (.tuple #[.bool true, .int .i64 0]) ∧ Below w.heap.size w w' :=
  (good_any 10 0 10 1 5 3 0 3 10 1 10 w).mono fun e w' h => ⟨h.1.trans (congrArg _ (by kernel_rfl)), h.2⟩
theorem ex_fair (v : Value) (w : World) (hv : PL trm v w) : Calls Tryz.prog 16 #[cargo10, .int .i64 4, .int .i64 3, v] w fun e w' => e = .returned (.tuple #[i2 2500 3, .int .i64 0]) ∧ Below w.heap.size w w' :=
  (fair_any 10 0 10 4 3 trm v w hv).mono fun e w' h => ⟨h.1.trans (congrArg _ (by kernel_rfl)), h.2⟩
theorem ex_award1 (w : World) : Calls Tryz.prog 18 #[.int .i64 100, .int .i64 110, .int .i64 500] w fun e w' => e = .returned (.tuple #[.int .i64 105, .int .i64 0]) ∧ Below w.heap.size w w' :=
  (award_any 100 110 500 w).mono fun e w' h => ⟨h.1.trans (congrArg _ (by kernel_rfl)), h.2⟩
theorem ex_award2 (w : World) : Calls Tryz.prog 18 #[.int .i64 100, .int .i64 120, .int .i64 115] w fun e w' => e = .returned (.tuple #[.int .i64 115, .int .i64 0]) ∧ Below w.heap.size w w' :=
  (award_any 100 120 115 w).mono fun e w' h => ⟨h.1.trans (congrArg _ (by kernel_rfl)), h.2⟩
theorem ex_award3 (w : World) : Calls Tryz.prog 18 #[.int .i64 0, .int .i64 1000001, .int .i64 0] w fun e w' => e = .returned (.tuple #[.int .i64 0, .int .i64 2]) ∧ Below w.heap.size w w' :=
  (award_any 0 1000001 0 w).mono fun e w' h => ⟨h.1.trans (congrArg _ (by kernel_rfl)), h.2⟩
theorem ex_off (xs : List (Int × Int)) (v r : Value) (o f : Int) (w : World) (hv : PL xs v w) (h : offAll xs o f = r) : Calls Tryz.prog 21 #[v, i2 o f] w fun e w' => e = .returned r ∧ Below w.heap.size w w' := by
  have := offA_any xs v o f w hv
  rw [h] at this
  exact this
theorem off1 : offAll trm 3 1 = .tuple #[.int .i64 1000, .int .i64 0] := by kernel_rfl
theorem off2 : offAll trm 10 1 = .tuple #[.int .i64 300, .int .i64 0] := by kernel_rfl
theorem off3 : offAll trm 20 1 = .tuple #[.int .i64 100, .int .i64 0] := by kernel_rfl
theorem off4 : offAll trm 3 0 = .tuple #[.int .i64 0, .int .i64 0] := by kernel_rfl
theorem off5 : offAll [(5, 3), (6, 2)] 9 10 = .tuple #[.int .i64 0, .int .i64 14] := by kernel_rfl
theorem off6 : offAll [] 9 10 = .tuple #[.int .i64 0, .int .i64 11] := by kernel_rfl
theorem ex_chance10 (w : World) : Calls Tryz.prog 23 #[bad10, .int .i64 4, i2 0 1] w fun e w' => e = .returned (.tuple #[i2 0 0, .int .i64 10]) ∧ Below w.heap.size w w' :=
  (chance_any 10 4 3 4 0 1 w).mono fun e w' h => ⟨h.1.trans (congrArg _ (by kernel_rfl)), h.2⟩
theorem ex_chance11 (w : World) : Calls Tryz.prog 23 #[cargo10, .int .i64 11, i2 0 1] w fun e w' => e = .returned (.tuple #[i2 0 0, .int .i64 11]) ∧ Below w.heap.size w w' :=
  (chance_any 10 0 10 11 0 1 w).mono fun e w' h => ⟨h.1.trans (congrArg _ (by kernel_rfl)), h.2⟩
theorem ex_atmost2 (w : World) : Calls Tryz.prog 24 #[cargo10, .int .i64 11, i2 1 1] w fun e w' => e = .returned (.tuple #[i2 0 0, .int .i64 2]) ∧ Below w.heap.size w w' :=
  (atmost_any 10 0 10 11 1 1 w).mono fun e w' h => ⟨h.1.trans (congrArg _ (by kernel_rfl)), h.2⟩
theorem ex_can8 (w : World) : Calls Tryz.prog 25 #[few10, i2 10 4] w fun e w' => e = .returned (.tuple #[i2 0 0, .int .i64 8]) ∧ Below w.heap.size w w' :=
  (can_any 10 0 3 10 4 w).mono fun e w' h => ⟨h.1.trans (congrArg _ (by kernel_rfl)), h.2⟩
theorem ex_rest6 (w : World) : Calls Tryz.prog 8 #[cargo10, i2 10 4] w fun e w' => e = .returned (.tuple #[i3 0 0 0, .int .i64 6]) ∧ Below w.heap.size w w' :=
  rest_full 10 0 10 4 w (by decide) (by decide) 4 4 (by show _ = _; kernel_rfl)
theorem ex_bound12 (w : World) : Calls Tryz.prog 26 #[cargo10, i2 1 1, i2 1 0] w fun e w' => e = .returned (.tuple #[.int .i64 0, .int .i64 12]) ∧ Below w.heap.size w w' :=
  (bound_any 10 0 10 1 1 1 0 w).mono fun e w' h => ⟨h.1.trans (congrArg _ (by kernel_rfl)), h.2⟩
theorem ex_find6 (w : World) : Calls Tryz.prog 11 #[cargo10, .int .i64 0, i2 1 1000] w fun e w' => e = .returned (.tuple #[.int .i64 0, .int .i64 6]) ∧ Below w.heap.size w w' := by
  refine (find_any 10 0 10 0 1 1000 w).mono ?_
  rintro e w' ⟨⟨k, q, rfl, h⟩, hB⟩
  have hw : FindAll 10 0 10 0 1 1000 0 6 := by
    rw [FindAll, if_neg (by decide +kernel), if_neg (by decide +kernel)]
    refine .inr ⟨rfl, rfl, fun j hj => ?_⟩
    obtain rfl | rfl | rfl | rfl | rfl | rfl | rfl | rfl | rfl | rfl | rfl : j = 0 ∨ j = 1 ∨ j = 2 ∨ j = 3 ∨ j = 4 ∨ j = 5 ∨ j = 6 ∨ j = 7 ∨ j = 8 ∨ j = 9 ∨ j = 10 := by omega
    all_goals decide +kernel
  obtain ⟨rfl, rfl⟩ := findAll_unique h hw
  exact ⟨rfl, hB⟩
theorem ex_accept13 (w : World) : Calls Tryz.prog 13 #[cargo10, i2 3 4, .int .i64 11] w fun e w' => e = .returned (.tuple #[i2 0 0, .int .i64 13]) ∧ Below w.heap.size w w' :=
  (accept_any 10 0 10 11 3 4 w).mono fun e w' h => ⟨h.1.trans (congrArg _ (by kernel_rfl)), h.2⟩
theorem ex_least2 (w : World) : Calls Tryz.prog 27 #[cargo10, .int .i64 5, .int .i64 5, i2 1 1, i2 1 1] w fun e w' => e = .returned (.tuple #[i2 0 0, .int .i64 2]) ∧ Below w.heap.size w w' := by
  refine (least_all 10 0 10 5 5 1 1 1 1 w).mono ?_
  rintro e w' ⟨⟨o, a, q, rfl, h⟩, hB⟩
  rw [LeastAll, if_neg (by decide +kernel), if_pos (by decide +kernel), show riskedE 0 10 5 5 1 1 1 1 = 2 by decide +kernel] at h
  obtain ⟨rfl, rfl, rfl⟩ := h
  exact ⟨rfl, hB⟩
theorem ex_twice13 (w : World) (hT : TabD w) : Calls Tryz.prog 28 #[cargo10, .agg #[.int .i64 2, .int .i64 0, .int .i64 4, .int .i64 0, .int .i64 0], .int .i64 1] w fun e w' => e = .returned (.tuple #[i2 0 0, i2 0 0, .int .i64 13]) ∧ Below w.heap.size w w' :=
  (twice_any 10 0 10 2 0 4 0 0 1 w hT).mono fun e w' h => ⟨h.1.trans (congrArg _ (by kernel_rfl)), h.2⟩
theorem ex_fair2 (w : World) : Calls Tryz.prog 16 #[cargo10, .int .i64 4, .int .i64 11, .slice none 0 0] w fun e w' => e = .returned (.tuple #[i2 0 0, .int .i64 2]) ∧ Below w.heap.size w w' :=
  (fair_any 10 0 10 4 11 [] _ w (PL.nil w)).mono fun e w' h => ⟨h.1.trans (congrArg _ (by kernel_rfl)), h.2⟩
theorem ex_check10 (w : World) : Calls Tryz.prog 29 #[bad10] w fun e w' => e = .returned (.int .i64 10) ∧ Below w.heap.size w w' :=
  (check_any 10 4 3 w).mono fun e w' h => ⟨h.1.trans (congrArg _ (by kernel_rfl)), h.2⟩
theorem ex_check0 (w : World) : Calls Tryz.prog 29 #[cargo10] w fun e w' => e = .returned (.int .i64 0) ∧ Below w.heap.size w w' :=
  (check_any 10 0 10 w).mono fun e w' h => ⟨h.1.trans (congrArg _ (by kernel_rfl)), h.2⟩
end Go.Proofs.YtigdpohdihopjaaGreatDoor

/- SampleExamples: a fraction made by a call and kept in a box, beside a row of terms; the terms as a block. -/
namespace Go.Proofs.YtigdpohdihopjaaGreatDoor
set_option linter.unusedSimpArgs false
set_option linter.unusedVariables false
open Go.RowKit Go.Proofs.YtigdpohdihopjaaGreatDoor.ML Go.Proofs.YtigdpohdihopjaaGreatDoor.Samp Go.Proofs.YtigdpohdihopjaaGreatDoor.Free2

/-- Blocks below n0 stay, and later ones but cells of one type. -/
structure RQt (t : TypeId) (n0 : Nat) (a b : World) : Prop where
  below : Below n0 a b
  other : ∀ (k : Nat) (o : Obj), a.heap[k]? = some o → (∀ c f, o ≠ .cells c t f) → b.heap[k]? = some o
section
variable {a b c : World} {n0 : Nat} {t : TypeId}
theorem RQt.refl (t : TypeId) (n0 : Nat) (a : World) : RQt t n0 a a := ⟨Below.refl _ _, fun _ _ h _ => h⟩
theorem RQt.trans (h : RQt t n0 a b) (k : RQt t n0 b c) : RQt t n0 a c := ⟨h.below.trans k.below, fun i o h1 h2 => k.other i o (h.other i o h1 h2) h2⟩
theorem RQt.of_bel (h : Free.Bel a b) (hn : n0 ≤ a.heap.size) : RQt t n0 a b := ⟨h.mono hn, fun k o h1 _ => (h.block k (lt_of_heap h1)).trans h1⟩
theorem RQt.set {g o : Nat} {v : Value} {cs : Array Value} {f : Nat × Nat} (hg : n0 ≤ g) (hq : a.heap[g]? = some (.cells cs t f)) : RQt t n0 a (a.setCell ⟨g, o, none⟩ v) :=
  ⟨(Below.refl _ a).setCell (by simpa using hg) v, fun k p h1 h2 => by
    have hne : k ≠ g := by
      rintro rfl
      rw [hq] at h1
      cases h1
      exact h2 _ _ rfl
    exact (Below.heap_setCell _ _ _ _ (by simpa using hne)).trans h1⟩
end
/-- Operation al makes a box of two cells, operation st stores in it what operation ex gave. -/
structure JK (t : TypeId) (s0 ex al st : Nat) (X : XT) (W : World) : Prop where
  ord : X st ≠ none → X ex ≠ none ∧ X al ≠ none
  size : s0 ≤ W.heap.size
  new : ∀ v, X al = some v → ∃ b, v = .pointer (some ⟨b, 0, none⟩) ∧ s0 ≤ b ∧ (X st = none → ∃ x y, W.heap[b]? = some (.cells #[x, y] t (0, 0))) ∧ (X st ≠ none → ∃ x y, X ex = some (.agg #[x, y]) ∧ W.heap[b]? = some (.cells #[x, y] t (0, 0)))
section
variable {t : TypeId} {s0 ex al st : Nat} {X : XT} {W W' : World}
theorem JK.start (hs : s0 ≤ W.heap.size) : JK t s0 ex al st (fun _ => none) W := ⟨fun h => absurd rfl h, hs, fun v h => (by cases h)⟩
theorem JK.bel (H : JK t s0 ex al st X W) (hB : Free.Bel W W') : JK t s0 ex al st X W' :=
  ⟨H.ord, Nat.le_trans H.size hB.size, fun v hv => by
    obtain ⟨b, h1, h2, h3, h4⟩ := H.new v hv
    exact ⟨b, h1, h2, fun h => let ⟨x, y, h5⟩ := h3 h; ⟨x, y, (hB.block _ (lt_of_heap h5)).trans h5⟩, fun h => let ⟨x, y, h5, h6⟩ := h4 h; ⟨x, y, h5, (hB.block _ (lt_of_heap h6)).trans h6⟩⟩⟩
theorem JK.skip (H : JK t s0 ex al st X W) (n : Nat) (v : Value) (h1 : n ≠ al) (h2 : n ≠ st) (h3 : n = ex → X ex = none) : JK t s0 ex al st (upd X n v) W := by
  have e1 := upd_other X v (Ne.symm h1)
  have e2 := upd_other X v (Ne.symm h2)
  refine ⟨fun h => ?_, H.size, fun u hu => ?_⟩
  · rw [e2] at h
    refine ⟨?_, by rw [e1]; exact (H.ord h).2⟩
    by_cases e : n = ex
    · subst e; rw [upd_same]; simp
    · rw [upd_other _ _ (Ne.symm e)]; exact (H.ord h).1
  · rw [e1] at hu
    obtain ⟨b, a1, a2, a3, a4⟩ := H.new u hu
    refine ⟨b, a1, a2, fun h => a3 (by rwa [e2] at h), fun h => ?_⟩
    rw [e2] at h
    by_cases e : n = ex
    · exact absurd (h3 e) (H.ord h).1
    · rw [upd_other _ _ (Ne.symm e)]; exact a4 h
theorem JK.made (H : JK t s0 ex al st X W) (hst : X al = none) {b : Nat} {x y : Value} (hB : Free.Bel W W') (hb : s0 ≤ b) (hh : W'.heap[b]? = some (.cells #[x, y] t (0, 0))) (hne : al ≠ st) : JK t s0 ex al st (upd X al (.pointer (some ⟨b, 0, none⟩))) W' := by
  have hs : X st = none := by
    cases h : X st with
    | none => rfl
    | some v => exact absurd hst (H.ord (by rw [h]; simp)).2
  have e2 := upd_other X (.pointer (some ⟨b, 0, none⟩)) (Ne.symm hne)
  refine ⟨fun h => absurd hs (by rwa [e2] at h), Nat.le_trans H.size hB.size, fun u hu => ?_⟩
  rw [upd_same] at hu
  cases hu
  exact ⟨b, rfl, hb, fun _ => ⟨x, y, hh⟩, fun h => absurd hs (by rwa [e2] at h)⟩
theorem JK.put (H : JK t s0 ex al st X W) (hst : X st = none) {b : Nat} {x y v : Value} (hal : X al = some (.pointer (some ⟨b, 0, none⟩))) (hex : X ex = some (.agg #[x, y])) (n1 : al ≠ st) (n2 : ex ≠ st) : JK t s0 ex al st (upd X st v) ((W.setCell ⟨b, 0, none⟩ x).setCell ⟨b, 1, none⟩ y) := by
  have e1 := upd_other X v n1
  have e2 := upd_other X v n2
  refine ⟨fun _ => ⟨by rw [e2, hex]; simp, by rw [e1, hal]; simp⟩, by simpa using H.size, fun u hu => ?_⟩
  rw [e1, hal] at hu
  cases hu
  obtain ⟨b', h1, h2, h3, _⟩ := H.new _ hal
  cases h1
  obtain ⟨x0, y0, h5⟩ := h3 hst
  refine ⟨b, rfl, h2, fun h => (by rw [upd_same] at h; cases h), fun _ => ⟨x, y, by rw [e2]; exact hex, ?_⟩⟩
  have h6 := heap_setCell_same (o := 1) y (heap_setCell_same (o := 0) x h5)
  simpa using h6
end
abbrev trmO : Obj := .cells #[.int .i64 5, .int .i64 100, .int .i64 10, .int .i64 300, .int .i64 30, .int .i64 1000] 73
/-- The row of the examples' terms, with the block it lies in. -/
def TrmV (v : Value) (w : World) : Prop := ∃ b, v = .slice (some ⟨b, 0, none⟩) 3 3 ∧ w.heap[b]? = some trmO
theorem TrmV.pl {v : Value} {w : World} (h : TrmV v w) : PL trm v w := by
  obtain ⟨b, rfl, h1⟩ := h
  refine ⟨_, _, rfl, by simp [maxLen], fun _ => ⟨b, 0, rfl, fun k hk => ?_⟩⟩
  match k, hk with
  | 0, _ => exact ⟨cell_of_heap (o := 0) h1 rfl, cell_of_heap (o := 1) h1 rfl⟩
  | 1, _ => exact ⟨cell_of_heap (o := 2) h1 rfl, cell_of_heap (o := 3) h1 rfl⟩
  | 2, _ => exact ⟨cell_of_heap (o := 4) h1 rfl, cell_of_heap (o := 5) h1 rfl⟩
theorem TrmV.rq {n0 : Nat} {v : Value} {a b : World} (hR : RQt 31 n0 a b) (h : TrmV v a) : TrmV v b :=
  let ⟨k, h1, h2⟩ := h; ⟨k, h1, hR.other k _ h2 fun _ _ e => by cases e⟩
theorem TrmV.bel {v : Value} {a b : World} (hB : Free.Bel a b) (h : TrmV v a) : TrmV v b :=
  let ⟨k, h1, h2⟩ := h; ⟨k, h1, (hB.block k (lt_of_heap h2)).trans h2⟩
theorem TrmV.stable (n0 : Nat) : Free.Stable (RQt 31 n0) TrmV := fun _ _ _ hR h => h.rq hR
set_option maxRecDepth 100000 in
set_option maxHeartbeats 1000000 in
theorem terms_heap (w : World) : Calls Tryz.prog 17 #[] w fun e w' => (∃ v, e = .returned v ∧ TrmV v w') ∧ Below w.heap.size w w' := by
  have hB : Below w.heap.size w (w.alloc trmO) := (Below.refl _ w).alloc (Nat.le_refl _) _
  go_enter Tryz.func17, Tryz.ntmps17
  go_wp2_with fail
  go_ret
  exact ⟨⟨_, rfl, _, rfl, World.alloc_heap_new w trmO⟩, hB⟩
set_option maxRecDepth 100000 in
set_option maxHeartbeats 1000000 in
theorem err10 (w : World) : Calls Tryz.prog 4 #[.int .i64 10] w fun e w' => e = .returned (.string ⟨#[101, 114, 114, 111, 114, 32, 49, 48]⟩) ∧ w' = w := by
  go_enter Tryz.func4, Tryz.ntmps4
  go_wp2_with fail
  refine (Tryz.strconv_Itoa_small 10 (by omega) _).mono ?_
  rintro e w1 ⟨he, rfl⟩
  rw [show Lib.decDigits 10 = [49, 48] by decide +kernel] at he
  subst he
  go_wp2_with fail
  go_ret
  exact ⟨rfl, rfl⟩
end Go.Proofs.YtigdpohdihopjaaGreatDoor

/- SampleExamples: the chapter's examples, limits and numbers. -/
namespace Go.Proofs.YtigdpohdihopjaaGreatDoor
set_option linter.unusedSimpArgs false
set_option linter.unusedVariables false
open Go.RowKit Go.Proofs.YtigdpohdihopjaaGreatDoor.ML Go.Proofs.YtigdpohdihopjaaGreatDoor.Samp
open Go.RowKit Go.Proofs.YtigdpohdihopjaaGreatDoor.ML Go.Proofs.YtigdpohdihopjaaGreatDoor.Samp Go.Proofs.YtigdpohdihopjaaGreatDoor.Free2
abbrev cur4 : List (Int × Int) := [(1, 1), (7, 10), (7, 15), (7, 24)]
theorem pl4 (t : TypeId) (w : World) : PL cur4 (.slice (some ⟨w.heap.size, 0, none⟩) 4 4) (w.alloc (.cells #[.int .i64 1, .int .i64 1, .int .i64 7, .int .i64 10, .int .i64 7, .int .i64 15, .int .i64 7, .int .i64 24] t)) := by
  have h1 := World.alloc_heap_new w (.cells #[.int .i64 1, .int .i64 1, .int .i64 7, .int .i64 10, .int .i64 7, .int .i64 15, .int .i64 7, .int .i64 24] t)
  refine ⟨_, _, rfl, by simp [maxLen], fun _ => ⟨_, 0, rfl, fun k hk => ?_⟩⟩
  match k, hk with
  | 0, _ => exact ⟨cell_of_heap (o := 0) h1 rfl, cell_of_heap (o := 1) h1 rfl⟩
  | 1, _ => exact ⟨cell_of_heap (o := 2) h1 rfl, cell_of_heap (o := 3) h1 rfl⟩
  | 2, _ => exact ⟨cell_of_heap (o := 4) h1 rfl, cell_of_heap (o := 5) h1 rfl⟩
  | 3, _ => exact ⟨cell_of_heap (o := 6) h1 rfl, cell_of_heap (o := 7) h1 rfl⟩
set_option maxRecDepth 100000 in
set_option maxHeartbeats 64000000 in
theorem examS_walk (w : World) (hT : TabD w) :
    Calls Tryz.prog 3 #[] w fun e w' => e = .returned (.bool true) ∧ Below w.heap.size w w' := by
  have t0 := hT.1
  have t1 := hT.2.1
  have t2 := hT.2.2
  go_enter Tryz.func3, Tryz.ntmps3
  go_wp2_with fail
  refine (err10 w).mono ?_
  rintro e w ⟨rfl, hwa⟩
  subst hwa
  go_wp2_with fail
  refine (alive_any w hT).mono ?_
  rintro e w1 ⟨rfl, hB1⟩
  have hzz : w.heap.size ≤ w1.heap.size := hB1.size
  have kt0 := keepsB hB1 t0
  have kt1 := keepsB hB1 t1
  have kt2 := keepsB hB1 t2
  clear t0 t1 t2 hT
  generalize hbb : w.heap.size = bb at *
  have HBB := Lib.hid hbb
  clear hbb
  have HB_w1 := Lib.hid (show Below bb w w1 from hB1)
  have hz_w1 : bb ≤ w1.heap.size := hzz
  have FA : ∀ W, Free.Bel w1 W → W.cell? ⟨0, 0, none⟩ = some (dblF 125) ∧ W.cell? ⟨0, 1, none⟩ = some (dblF 126) ∧ W.cell? ⟨0, 2, none⟩ = some (dblF 127) ∧ bb ≤ W.heap.size := fun W hW => ⟨keepsB hW kt0, keepsB hW kt1, keepsB hW kt2, Nat.le_trans hz_w1 hW.size⟩
  have KR : Free.Bel w1 w1 := Free.Bel.refl _
  clear hB1 hzz kt0 kt1 kt2
  go_wp2_with fail
  refine (bags_any 10 _).mono ?_
  rintro e w2 ⟨rfl, hB⟩
  have HB_w2 := Lib.hid (HB_w1.out.trans ((hB).mono hz_w1))
  have hz_w2 : bb ≤ w2.heap.size := Nat.le_trans hz_w1 (hB).size
  have FN := fun (W : World) (hW : Free.Bel w2 W) => FA W (bt (hB) hW)
  clear FA HB_w1 hz_w1 KR
  have FA := FN
  clear FN
  have KR := Free.Bel.refl w2
  clear hB
  go_wp2_with fail
  refine (bags_any 10 _).mono ?_
  rintro e w3 ⟨rfl, hB⟩
  have HB_w3 := Lib.hid (HB_w2.out.trans ((hB).mono hz_w2))
  have hz_w3 : bb ≤ w3.heap.size := Nat.le_trans hz_w2 (hB).size
  have FN := fun (W : World) (hW : Free.Bel w3 W) => FA W (bt (hB) hW)
  clear FA HB_w2 hz_w2 KR
  have FA := FN
  clear FN
  have KR := Free.Bel.refl w3
  clear hB
  go_upto_region 5 with fail
  refine with_world ?_
  intro w4 hWE
  have hN : Free.Bel w3 w4 := by
    subst hWE
    show Below w3.heap.size w3 _
    repeat (first | exact Below.refl _ _ | refine Below.setCell ?_ (by simp) _ | refine Below.alloc ?_ (by simp; try omega) _)
  have hsz : w3.heap.size + 2 ≤ w4.heap.size := by subst hWE; simp
  have n_0_0 : w4.cell? ⟨w3.heap.size, 0, none⟩ = some (.int .i64 10) := by subst hWE; simp [go_sem]
  have n_0_1 : w4.cell? ⟨w3.heap.size, 1, none⟩ = some (.int .i64 0) := by subst hWE; simp [go_sem]
  have n_0_2 : w4.cell? ⟨w3.heap.size, 2, none⟩ = some (.int .i64 10) := by subst hWE; simp [go_sem]
  have n_1_0 : w4.cell? ⟨w3.heap.size + 1, 0, none⟩ = some (.int .i64 10) := by subst hWE; simp [go_sem]
  have n_1_1 : w4.cell? ⟨w3.heap.size + 1, 1, none⟩ = some (.int .i64 0) := by subst hWE; simp [go_sem]
  have n_1_2 : w4.cell? ⟨w3.heap.size + 1, 2, none⟩ = some (.int .i64 3) := by subst hWE; simp [go_sem]
  clear hWE
  obtain ⟨g40, hgz⟩ : ∃ x, x = w3.heap.size := ⟨_, rfl⟩
  rw [← hgz] at n_0_0 n_0_1 n_0_2 n_1_0 n_1_1 n_1_2 ⊢
  clear hgz hsz
  have HB_w4 := Lib.hid (HB_w3.out.trans ((hN).mono hz_w3))
  have hz_w4 : bb ≤ w4.heap.size := Nat.le_trans hz_w3 (hN).size
  have FN := fun (W : World) (hW : Free.Bel w4 W) => And.intro (keepsB hW n_0_0) (And.intro (keepsB hW n_0_1) (And.intro (keepsB hW n_0_2) (And.intro (keepsB hW n_1_0) (And.intro (keepsB hW n_1_1) (And.intro (keepsB hW n_1_2) (FA W (bt (hN) hW)))))))
  clear FA HB_w3 hz_w3 KR
  have FA := FN
  clear FN
  have KR := Free.Bel.refl w4
  clear hN n_0_0 n_0_1 n_0_2 n_1_0 n_1_1 n_1_2
  go_wp2_with fail
  refine (ex_mean _).mono ?_
  rintro e w5 ⟨rfl, hB⟩
  have HB_w5 := Lib.hid (HB_w4.out.trans ((hB).mono hz_w4))
  have hz_w5 : bb ≤ w5.heap.size := Nat.le_trans hz_w4 (hB).size
  have FN := fun (W : World) (hW : Free.Bel w5 W) => FA W (bt (hB) hW)
  clear FA HB_w4 hz_w4 KR
  have FA := FN
  clear FN
  have KR := Free.Bel.refl w5
  clear hB
  go_wp2_with fail
  have hN : Free.Bel w5 (w5.alloc (.cells #[.int .i64 6, .int .i64 5] 31)) := (Bel.allocT (Free.Bel.refl w5) _)
  have n_g50_0 : (w5.alloc (.cells #[.int .i64 6, .int .i64 5] 31)).cell? ⟨w5.heap.size, 0, none⟩ = some (.int .i64 6) := by simp [go_sem]
  have n_g50_1 : (w5.alloc (.cells #[.int .i64 6, .int .i64 5] 31)).cell? ⟨w5.heap.size, 1, none⟩ = some (.int .i64 5) := by simp [go_sem]
  generalize (w5.alloc (.cells #[.int .i64 6, .int .i64 5] 31)) = w6 at *
  obtain ⟨g50, hgz⟩ : ∃ x, x = w5.heap.size := ⟨_, rfl⟩
  rw [← hgz] at n_g50_0 n_g50_1 ⊢
  clear hgz
  have HB_w6 := Lib.hid (HB_w5.out.trans ((hN).mono hz_w5))
  have hz_w6 : bb ≤ w6.heap.size := Nat.le_trans hz_w5 (hN).size
  have FN := fun (W : World) (hW : Free.Bel w6 W) => And.intro (keepsB hW n_g50_0) (And.intro (keepsB hW n_g50_1) (FA W (bt (hN) hW)))
  clear FA HB_w5 hz_w5 KR
  have FA := FN
  clear FN
  have KR := Free.Bel.refl w6
  clear hN n_g50_0 n_g50_1
  have hF : ∀ W, Below w6.heap.size w6.drew W → Free.Bel w6 W := fun W hW => (show Below w6.heap.size w6 W from ((Below.refl _ w6).drew).trans hW)
  refine Free2.wp_free (R := Below w6.heap.size) (J := LL w6.heap.size [⟨6, 7, (.cells #[.int .i64 0, .int .i64 0, .int .i64 0] 28), (.cells #[.int .i64 7, .int .i64 0, .int .i64 7] 28)⟩]) (by kernel_rfl) (by kernel_rfl) (Below.refl _) (fun _ _ _ => Below.trans) (LL.start (Nat.le_refl _)) ?_
  refine Free2.Chain.ex ?_ 0 rfl [] [1] (by kernel_rfl) (by kernel_rfl) rfl (Below.refl _) (fun X W v h => LL.skip h 0 v (by simp)) ?_ ?_
  rotate_left
  · (intro ev W hb hR hO hD; have hS := hF W hR; obtain ⟨hb1, hb2, hb3⟩ := hb; simp only [Free.AllDeps, Free.AllOuts, Free.At, al1, al2, al3, al4, al5, and_true] at hO hD; go_simp; rfl)
  simp only [an1, an2]
  refine Free2.Chain.pr (fun v _ => v = i2 3 1) 1 rfl [] [] (by kernel_rfl) (by kernel_rfl) rfl (fun _ _ _ _ h => h) ?_ ?_
  · (intro ev W X hb hR hO hD hj hx hax; have hS := hF W hR; obtain ⟨hb1, hb2, hb3⟩ := hb; simp only [Free.AllDeps, Free.AllOuts, Free.At, al1, al2, al3, al4, al5, and_true] at hO hD; simp only [Free2.AllX, and_true] at hax; go_simp; refine yields_enter ?_; (with_reducible refine (drawn_any 3 1 _).mono ?_); rintro e W2 ⟨rfl, hB2⟩; exact ⟨_, rfl, hB2.mono hj.size, rfl, (hj.bel hB2).skip 1 _ (by simp)⟩)
  simp only [an1, an2]
  refine Free2.Chain.pr (fun v _ => v = .tuple #[i3 7 0 7, .int .i64 0]) 2 rfl [(0, 56), (1, 57), (1, 57)] [] (by kernel_rfl) (by kernel_rfl) rfl (fun _ _ _ _ h => h) ?_ ?_
  · (intro ev W X hb hR hO hD hj hx hax; have hS := hF W hR; obtain ⟨hb1, hb2, hb3⟩ := hb; simp only [Free.AllDeps, Free.AllOuts, Free.At, al1, al2, al3, al4, al5, and_true] at hO hD; simp only [Free2.AllX, and_true] at hax; go_simp; refine yields_enter ?_; (with_reducible refine (ex_rest _).mono ?_); rintro e W2 ⟨rfl, hB2⟩; exact ⟨_, rfl, hB2.mono hj.size, rfl, (hj.bel hB2).skip 2 _ (by simp)⟩)
  simp only [an1, an2]
  refine Free2.Chain.ex ?_ 3 rfl [(2, 58)] [] (by kernel_rfl) (by kernel_rfl) rfl (Below.refl _) (fun X W v h => LL.skip h 3 v (by simp)) ?_ ?_
  rotate_left
  · (intro ev W hb hR hO hD; have hS := hF W hR; obtain ⟨hb1, hb2, hb3⟩ := hb; simp only [Free.AllDeps, Free.AllOuts, Free.At, al1, al2, al3, al4, al5, and_true] at hO hD; go_simp; rfl)
  simp only [an1, an2]
  refine Free2.Chain.ex ?_ 4 rfl [(3, 55)] [] (by kernel_rfl) (by kernel_rfl) rfl (Below.refl _) (fun X W v h => LL.skip h 4 v (by simp)) ?_ ?_
  rotate_left
  · (intro ev W hb hR hO hD; have hS := hF W hR; obtain ⟨hb1, hb2, hb3⟩ := hb; simp only [Free.AllDeps, Free.AllOuts, Free.At, al1, al2, al3, al4, al5, and_true] at hO hD; go_simp; rfl)
  simp only [an1, an2]
  refine Free2.Chain.ex ?_ 5 rfl [(3, 55)] [] (by kernel_rfl) (by kernel_rfl) rfl (Below.refl _) (fun X W v h => LL.skip h 5 v (by simp)) ?_ ?_
  rotate_left
  · (intro ev W hb hR hO hD; have hS := hF W hR; obtain ⟨hb1, hb2, hb3⟩ := hb; simp only [Free.AllDeps, Free.AllOuts, Free.At, al1, al2, al3, al4, al5, and_true] at hO hD; go_simp; rfl)
  simp only [an1, an2]
  refine Free2.Chain.pr (fun v _ => ∃ b, v = ptr b) 6 rfl [] [] (by kernel_rfl) (by kernel_rfl) rfl (fun _ _ _ _ h => h) ?_ ?_
  · (intro ev W X hb hR hO hD hj hx hax; have hS := hF W hR; obtain ⟨hb1, hb2, hb3⟩ := hb; simp only [Free.AllDeps, Free.AllOuts, Free.At, al1, al2, al3, al4, al5, and_true] at hO hD; simp only [Free2.AllX, and_true] at hax; go_simp; exact ⟨(Below.refl _ W).alloc hj.size _, ⟨_, rfl⟩, hj.new ⟨6, 7, (.cells #[.int .i64 0, .int .i64 0, .int .i64 0] 28), (.cells #[.int .i64 7, .int .i64 0, .int .i64 7] 28)⟩ (by simp) (by simp) hx⟩)
  simp only [an1, an2]
  refine Free2.Chain.pr (fun _ _ => True) 7 rfl [(6, 5), (4, 59), (2, 58), (0, 56), (1, 57), (2, 58), (3, 55), (4, 59), (6, 5)] [] (by kernel_rfl) (by kernel_rfl) rfl (fun _ _ _ _ h => h) ?_ ?_
  · (intro ev W X hb hR hO hD hj hx hax; have hS := hF W hR; obtain ⟨hb1, hb2, hb3⟩ := hb; simp only [Free.AllDeps, Free.AllOuts, Free.At, al1, al2, al3, al4, al5, and_true] at hO hD; simp only [Free2.AllX, and_true] at hax; obtain ⟨b, hb9, hs0, hbl⟩ := hj.at_ ⟨6, 7, (.cells #[.int .i64 0, .int .i64 0, .int .i64 0] 28), (.cells #[.int .i64 7, .int .i64 0, .int .i64 7] 28)⟩ (by simp) hax.1 hx; have hX := hax.1; rw [hb9] at hX; have hp := hj.puts ⟨6, 7, (.cells #[.int .i64 0, .int .i64 0, .int .i64 0] 28), (.cells #[.int .i64 7, .int .i64 0, .int .i64 7] 28)⟩ (by simp) (by simp) hX hs0 hbl [(0, .int .i64 7), (1, .int .i64 0), (2, .int .i64 7)] rfl; have q0 : W.cell? ⟨b, 0, none⟩ = some (.int .i64 0) := cell_of_heap (o := 0) hbl rfl; have q1 : W.cell? ⟨b, 1, none⟩ = some (.int .i64 0) := cell_of_heap (o := 1) hbl rfl; have q2 : W.cell? ⟨b, 2, none⟩ = some (.int .i64 0) := cell_of_heap (o := 2) hbl rfl; have p0 : ∀ o, W.frozen? ⟨b, o, none⟩ = false := fun o => frozen_of_heap (o := o) hbl; go_simp; exact ⟨(hp undef).1, (hp _).2⟩)
  simp only [an1, an2]
  refine Free2.Chain.ex ?_ 8 rfl [(5, 60), (0, 56), (1, 57), (2, 58), (3, 55), (4, 59), (5, 60), (6, 5)] [] (by kernel_rfl) (by kernel_rfl) rfl (Below.refl _) (fun X W v h => LL.skip h 8 v (by simp)) ?_ ?_
  rotate_left
  · (intro ev W hb hR hO hD; have hS := hF W hR; obtain ⟨hb1, hb2, hb3⟩ := hb; simp only [Free.AllDeps, Free.AllOuts, Free.At, al1, al2, al3, al4, al5, and_true] at hO hD; go_simp; rfl)
  simp only [an1, an2]
  intro ys w7 hR hV hX
  obtain ⟨X, hj, hxx⟩ := hX
  obtain ⟨b6, hp_b6, hs_b6, hl_b6⟩ := hj.done ⟨6, 7, (.cells #[.int .i64 0, .int .i64 0, .int .i64 0] 28), (.cells #[.int .i64 7, .int .i64 0, .int .i64 7] 28)⟩ (by simp) (hxx 6 (show (6 : Nat) < 9 by decide)) (hxx 7 (show (7 : Nat) < 9 by decide))
  simp only [Free.AllV, Free.At, List.length_cons, List.length_nil, Nat.reduceAdd, List.getElem?_cons_succ, List.getElem?_cons_zero, true_and, and_true] at hV
  simp only [Free.putsFrom, Act.put, Nat.zero_add, Nat.reduceAdd, hV, hp_b6, List.setIfInBounds_toArray, List.set_cons_succ, List.set_cons_zero]
  have hN := hF w7 hR
  have HB_w7 := Lib.hid (HB_w6.out.trans ((hN).mono hz_w6))
  have hz_w7 : bb ≤ w7.heap.size := Nat.le_trans hz_w6 (hN).size
  have FN := fun (W : World) (hW : Free.Bel w7 W) => And.intro (keepsB hW (cell_of_heap (o := 0) hl_b6 rfl)) (And.intro (keepsB hW (cell_of_heap (o := 1) hl_b6 rfl)) (And.intro (keepsB hW (cell_of_heap (o := 2) hl_b6 rfl)) (FA W (bt (hN) hW))))
  clear FA HB_w6 hz_w6 KR
  have FA := FN
  clear FN
  have KR := Free.Bel.refl w7
  clear hR hF hj hxx hV hN hp_b6 hs_b6 hl_b6
  go_wp2_with fail
  have hF : ∀ W, Free.Bel w7.drew W → Free.Bel w7 W := fun W hW => bt (Bel.drewT (Free.Bel.refl _)) hW
  refine Free.wp_free (R := Free.Bel) (by kernel_rfl) (by kernel_rfl) Free.Bel.refl Free.Bel.trans ?_
  refine Free.Chain.ex ?_ [] [1] (by kernel_rfl) (by kernel_rfl) rfl Free.Bel.refl ?_ ?_
  rotate_left 2
  simp only [an1, an2]
  rotate_left
  rotate_left
  · (intro ev W hb hR hO hD; have hS := hF W hR; obtain ⟨hb1, hb2, hb3⟩ := hb; simp only [Free.AllDeps, Free.AllOuts, Free.At, al1, al2, al3, al4, al5, and_true] at hO hD; go_simp; rfl)
  refine Free.Chain.pr (fun v _ => v = i2 4 2) [] [] (by kernel_rfl) (by kernel_rfl) rfl (fun _ _ _ _ h => h) ?_ ?_
  · (intro ev W hb hR hO hD; have hS := hF W hR; obtain ⟨hb1, hb2, hb3⟩ := hb; simp only [Free.AllDeps, Free.AllOuts, Free.At, al1, al2, al3, al4, al5, and_true] at hO hD; go_simp; refine yields_enter ?_; (with_reducible refine (drawn_any 4 2 _).mono ?_); rintro e W2 ⟨rfl, hB2⟩; exact ⟨_, rfl, hB2, rfl⟩)
  simp only [an1, an2]
  refine Free.Chain.pr (fun v W => ∃ u, v = .tuple #[u, .int .i64 0] ∧ IL [5] u W) [(0, 62), (1, 63), (1, 63)] [] (by kernel_rfl) (by kernel_rfl) rfl (fun v W W' hB h => let ⟨u, h1, h2⟩ := h; ⟨u, h1, h2.keeps hB⟩) ?_ ?_
  · (intro ev W hb hR hO hD; have hS := hF W hR; obtain ⟨hb1, hb2, hb3⟩ := hb; simp only [Free.AllDeps, Free.AllOuts, Free.At, al1, al2, al3, al4, al5, and_true] at hO hD; go_simp; refine yields_enter ?_; (with_reducible refine (ex_like5 _).mono ?_); rintro e W2 ⟨⟨u, rfl, hil⟩, hB2⟩; exact ⟨_, rfl, hB2, u, rfl, hil⟩)
  simp only [an1, an2]
  refine Free.Chain.pr (fun v W => ∃ u, v = .tuple #[u, .int .i64 0] ∧ IL [5] u W) [(2, 64)] [] (by kernel_rfl) (by kernel_rfl) rfl (fun v W W' hB h => let ⟨u, h1, h2⟩ := h; ⟨u, h1, h2.keeps hB⟩) ?_ ?_
  · (intro ev W hb hR hO hD; have hS := hF W hR; obtain ⟨hb1, hb2, hb3⟩ := hb; simp only [Free.AllDeps, Free.AllOuts, Free.At, al1, al2, al3, al4, al5, and_true] at hO hD; obtain ⟨u, hu, hil⟩ := hD; go_simp; exact ⟨Free.Bel.refl _, u, rfl, hil⟩)
  simp only [an1, an2]
  refine Free.Chain.pr (fun v W => IL [5] v W) [(3, 61)] [] (by kernel_rfl) (by kernel_rfl) rfl (IL.stable _) ?_ ?_
  · (intro ev W hb hR hO hD; have hS := hF W hR; obtain ⟨hb1, hb2, hb3⟩ := hb; simp only [Free.AllDeps, Free.AllOuts, Free.At, al1, al2, al3, al4, al5, and_true] at hO hD; obtain ⟨u, hu, hil⟩ := hD; go_simp; exact ⟨Free.Bel.refl _, hil⟩)
  simp only [an1, an2]
  refine Free.Chain.pr (fun v _ => v = .int .i64 0) [(3, 61)] [] (by kernel_rfl) (by kernel_rfl) rfl (fun _ _ _ _ h => h) ?_ ?_
  · (intro ev W hb hR hO hD; have hS := hF W hR; obtain ⟨hb1, hb2, hb3⟩ := hb; simp only [Free.AllDeps, Free.AllOuts, Free.At, al1, al2, al3, al4, al5, and_true] at hO hD; obtain ⟨u, hu, hil⟩ := hD; go_simp; exact ⟨Free.Bel.refl _, rfl⟩)
  simp only [an1, an2]
  refine Free.Chain.pr (fun v W => IL [5] v W) [(4, 65), (2, 64), (0, 62), (1, 63), (2, 64), (3, 61), (4, 65)] [] (by kernel_rfl) (by kernel_rfl) rfl (IL.stable _) ?_ ?_
  · (intro ev W hb hR hO hD; have hS := hF W hR; obtain ⟨hb1, hb2, hb3⟩ := hb; simp only [Free.AllDeps, Free.AllOuts, Free.At, al1, al2, al3, al4, al5, and_true] at hO hD; have hil := hD.1; go_simp; exact ⟨Free.Bel.refl _, hil⟩)
  simp only [an1, an2]
  refine Free.Chain.ex ?_ [(5, 66), (6, 7), (0, 62), (1, 63), (2, 64), (3, 61), (4, 65), (5, 66), (6, 7)] [] (by kernel_rfl) (by kernel_rfl) rfl Free.Bel.refl ?_ ?_
  rotate_left 2
  simp only [an1, an2]
  rotate_left
  rotate_left
  · (intro ev W hb hR hO hD; have hS := hF W hR; obtain ⟨hb1, hb2, hb3⟩ := hb; simp only [Free.AllDeps, Free.AllOuts, Free.At, al1, al2, al3, al4, al5, and_true] at hO hD; go_simp; rfl)
  intro ys w8 hR hV
  simp only [Free.AllV, Free.At, List.length_cons, List.length_nil, Nat.reduceAdd, List.getElem?_cons_succ, List.getElem?_cons_zero, true_and, and_true] at hV
  obtain ⟨u6, hu6⟩ : ∃ u, ys 6 = u := ⟨_, rfl⟩
  have hil6 := hV.1.2
  rw [hu6] at hil6
  simp only [Free.putsFrom, Act.put, Nat.zero_add, Nat.reduceAdd, hV, hu6, List.setIfInBounds_toArray, List.set_cons_succ, List.set_cons_zero]
  have hN := hF w8 hR
  clear hR hF
  have HB_w8 := Lib.hid (HB_w7.out.trans ((hN).mono hz_w7))
  have hz_w8 : bb ≤ w8.heap.size := Nat.le_trans hz_w7 (hN).size
  have FN := fun (W : World) (hW : Free.Bel w8 W) => And.intro (hil6.keeps hW) (FA W (bt (hN) hW))
  clear FA HB_w7 hz_w7 KR
  have FA := FN
  clear FN
  have KR := Free.Bel.refl w8
  clear hN hV hil6
  go_wp2_with fail
  refine (bags_any 11 _).mono ?_
  rintro e w9 ⟨rfl, hB⟩
  have HB_w9 := Lib.hid (HB_w8.out.trans ((hB).mono hz_w8))
  have hz_w9 : bb ≤ w9.heap.size := Nat.le_trans hz_w8 (hB).size
  have FN := fun (W : World) (hW : Free.Bel w9 W) => FA W (bt (hB) hW)
  clear FA HB_w8 hz_w8 KR
  have FA := FN
  clear FN
  have KR := Free.Bel.refl w9
  clear hB
  go_wp2_with fail
  refine (drawn_any 3 1 _).mono ?_
  rintro e w10 ⟨rfl, hB⟩
  have HB_w10 := Lib.hid (HB_w9.out.trans ((hB).mono hz_w9))
  have hz_w10 : bb ≤ w10.heap.size := Nat.le_trans hz_w9 (hB).size
  have FN := fun (W : World) (hW : Free.Bel w10 W) => FA W (bt (hB) hW)
  clear FA HB_w9 hz_w9 KR
  have FA := FN
  clear FN
  have KR := Free.Bel.refl w10
  clear hB
  go_wp2_with fail
  refine (ex_like34 _).mono ?_
  rintro e w11 ⟨⟨u8, rfl, hil⟩, hB⟩
  have HB_w11 := Lib.hid (HB_w10.out.trans ((hB).mono hz_w10))
  have hz_w11 : bb ≤ w11.heap.size := Nat.le_trans hz_w10 (hB).size
  have FN := fun (W : World) (hW : Free.Bel w11 W) => And.intro (hil.keeps hW) (FA W (bt (hB) hW))
  clear FA HB_w10 hz_w10 KR
  have FA := FN
  clear FN
  have KR := Free.Bel.refl w11
  clear hB
  clear hil
  go_wp2_with fail
  have hF : ∀ W, Free.Bel w11.drew W → Free.Bel w11 W := fun W hW => bt (Bel.drewT (Free.Bel.refl _)) hW
  refine Free.wp_free (R := Free.Bel) (by kernel_rfl) (by kernel_rfl) Free.Bel.refl Free.Bel.trans ?_
  refine Free.Chain.ex ?_ [] [1] (by kernel_rfl) (by kernel_rfl) rfl Free.Bel.refl ?_ ?_
  rotate_left 2
  simp only [an1, an2]
  rotate_left
  rotate_left
  · (intro ev W hb hR hO hD; have hS := hF W hR; obtain ⟨hb1, hb2, hb3⟩ := hb; simp only [Free.AllDeps, Free.AllOuts, Free.At, al1, al2, al3, al4, al5, and_true] at hO hD; go_simp; rfl)
  refine Free.Chain.pr (fun v _ => v = i2 1 1) [] [] (by kernel_rfl) (by kernel_rfl) rfl (fun _ _ _ _ h => h) ?_ ?_
  · (intro ev W hb hR hO hD; have hS := hF W hR; obtain ⟨hb1, hb2, hb3⟩ := hb; simp only [Free.AllDeps, Free.AllOuts, Free.At, al1, al2, al3, al4, al5, and_true] at hO hD; go_simp; refine yields_enter ?_; (with_reducible refine (partL_any 1 1 _).mono ?_); rintro e W2 ⟨rfl, hB2⟩; exact ⟨_, rfl, hB2, rfl⟩)
  simp only [an1, an2]
  refine Free.Chain.pr (fun v _ => v = .tuple #[.int .i64 9, .int .i64 0]) [(0, 74), (1, 75), (1, 75)] [] (by kernel_rfl) (by kernel_rfl) rfl (fun _ _ _ _ h => h) ?_ ?_
  · (intro ev W hb hR hO hD; have hS := hF W hR; obtain ⟨hb1, hb2, hb3⟩ := hb; simp only [Free.AllDeps, Free.AllOuts, Free.At, al1, al2, al3, al4, al5, and_true] at hO hD; go_simp; refine yields_enter ?_; (with_reducible refine (ex_find9 _).mono ?_); rintro e W2 ⟨rfl, hB2⟩; exact ⟨_, rfl, hB2, rfl⟩)
  simp only [an1, an2]
  refine Free.Chain.ex ?_ [(2, 76)] [] (by kernel_rfl) (by kernel_rfl) rfl Free.Bel.refl ?_ ?_
  rotate_left 2
  simp only [an1, an2]
  refine Free.Chain.ex ?_ [(3, 73)] [] (by kernel_rfl) (by kernel_rfl) rfl Free.Bel.refl ?_ ?_
  rotate_left 2
  simp only [an1, an2]
  refine Free.Chain.ex ?_ [(3, 73)] [] (by kernel_rfl) (by kernel_rfl) rfl Free.Bel.refl ?_ ?_
  rotate_left 2
  simp only [an1, an2]
  refine Free.Chain.ex ?_ [(4, 77), (2, 76), (0, 74), (1, 75), (2, 76), (3, 73), (4, 77)] [] (by kernel_rfl) (by kernel_rfl) rfl Free.Bel.refl ?_ ?_
  rotate_left 2
  simp only [an1, an2]
  refine Free.Chain.ex ?_ [(5, 78), (6, 11), (0, 74), (1, 75), (2, 76), (3, 73), (4, 77), (5, 78), (6, 11)] [] (by kernel_rfl) (by kernel_rfl) rfl Free.Bel.refl ?_ ?_
  rotate_left 2
  simp only [an1, an2]
  rotate_left
  iterate 5 (rotate_left; intro ev W hb hR hO hD; have hS := hF W hR; obtain ⟨hb1, hb2, hb3⟩ := hb; simp only [Free.AllDeps, Free.AllOuts, Free.At, al1, al2, al3, al4, al5, and_true] at hO hD; go_simp; rfl)
  intro ys w12 hR hV
  simp only [Free.AllV, Free.At, List.length_cons, List.length_nil, Nat.reduceAdd, List.getElem?_cons_succ, List.getElem?_cons_zero, true_and, and_true] at hV
  simp only [Free.putsFrom, Act.put, Nat.zero_add, Nat.reduceAdd, hV, List.setIfInBounds_toArray, List.set_cons_succ, List.set_cons_zero]
  have hN := hF w12 hR
  clear hR hF
  have HB_w12 := Lib.hid (HB_w11.out.trans ((hN).mono hz_w11))
  have hz_w12 : bb ≤ w12.heap.size := Nat.le_trans hz_w11 (hN).size
  have FN := fun (W : World) (hW : Free.Bel w12 W) => FA W (bt (hN) hW)
  clear FA HB_w11 hz_w11 KR
  have FA := FN
  clear FN
  have KR := Free.Bel.refl w12
  clear hN hV
  go_wp2_with fail
  refine (ex_accept _).mono ?_
  rintro e w13 ⟨rfl, hB⟩
  have HB_w13 := Lib.hid (HB_w12.out.trans ((hB).mono hz_w12))
  have hz_w13 : bb ≤ w13.heap.size := Nat.le_trans hz_w12 (hB).size
  have FN := fun (W : World) (hW : Free.Bel w13 W) => FA W (bt (hB) hW)
  clear FA HB_w12 hz_w12 KR
  have FA := FN
  clear FN
  have KR := Free.Bel.refl w13
  clear hB
  have KA0 : Free.Bel w13 (w13.alloc (.cells #[.int .i64 7, .int .i64 15] 31)) := Bel.allocT (Free.Bel.refl _) _
  go_wp2_with fail
  clear KA0
  have hN : Free.Bel w13 (w13.alloc (.cells #[.int .i64 7, .int .i64 15] 31)) := (Bel.allocT (Free.Bel.refl w13) _)
  have n_g130_0 : (w13.alloc (.cells #[.int .i64 7, .int .i64 15] 31)).cell? ⟨w13.heap.size, 0, none⟩ = some (.int .i64 7) := by simp [go_sem]
  have n_g130_1 : (w13.alloc (.cells #[.int .i64 7, .int .i64 15] 31)).cell? ⟨w13.heap.size, 1, none⟩ = some (.int .i64 15) := by simp [go_sem]
  generalize (w13.alloc (.cells #[.int .i64 7, .int .i64 15] 31)) = w14 at *
  obtain ⟨g130, hgz⟩ : ∃ x, x = w13.heap.size := ⟨_, rfl⟩
  rw [← hgz] at n_g130_0 n_g130_1 ⊢
  clear hgz
  have HB_w14 := Lib.hid (HB_w13.out.trans ((hN).mono hz_w13))
  have hz_w14 : bb ≤ w14.heap.size := Nat.le_trans hz_w13 (hN).size
  have FN := fun (W : World) (hW : Free.Bel w14 W) => And.intro (keepsB hW n_g130_0) (And.intro (keepsB hW n_g130_1) (FA W (bt (hN) hW)))
  clear FA HB_w13 hz_w13 KR
  have FA := FN
  clear FN
  have KR := Free.Bel.refl w14
  clear hN n_g130_0 n_g130_1
  refine (ex_curve _).mono ?_
  rintro e w15 ⟨⟨u11, rfl, hpl⟩, hB⟩
  have HB_w15 := Lib.hid (HB_w14.out.trans ((hB).mono hz_w14))
  have hz_w15 : bb ≤ w15.heap.size := Nat.le_trans hz_w14 (hB).size
  have FN := fun (W : World) (hW : Free.Bel w15 W) => And.intro (hpl.keeps hW) (FA W (bt (hB) hW))
  clear FA HB_w14 hz_w14 KR
  have FA := FN
  clear FN
  have KR := Free.Bel.refl w15
  clear hB
  clear hpl
  go_wp2_with fail
  have hF : ∀ W, Free.Bel w15.drew W → Free.Bel w15 W := fun W hW => bt (Bel.drewT (Free.Bel.refl _)) hW
  refine Free.wp_free (R := Free.Bel) (by kernel_rfl) (by kernel_rfl) Free.Bel.refl Free.Bel.trans ?_
  refine Free.Chain.ex ?_ [] [1] (by kernel_rfl) (by kernel_rfl) rfl Free.Bel.refl ?_ ?_
  rotate_left 2
  simp only [an1, an2]
  refine Free.Chain.ex ?_ [] [] (by kernel_rfl) (by kernel_rfl) rfl Free.Bel.refl ?_ ?_
  rotate_left 2
  simp only [an1, an2]
  rotate_left
  iterate 2 (rotate_left; intro ev W hb hR hO hD; have hS := hF W hR; obtain ⟨hb1, hb2, hb3⟩ := hb; simp only [Free.AllDeps, Free.AllOuts, Free.At, al1, al2, al3, al4, al5, and_true] at hO hD; go_simp; rfl)
  refine Free.Chain.pr (fun v _ => v = i2 3 10) [] [] (by kernel_rfl) (by kernel_rfl) rfl (fun _ _ _ _ h => h) ?_ ?_
  · (intro ev W hb hR hO hD; have hS := hF W hR; obtain ⟨hb1, hb2, hb3⟩ := hb; simp only [Free.AllDeps, Free.AllOuts, Free.At, al1, al2, al3, al4, al5, and_true] at hO hD; go_simp; refine yields_enter ?_; (with_reducible refine (partL_any 3 10 _).mono ?_); rintro e W2 ⟨rfl, hB2⟩; exact ⟨_, rfl, hB2, rfl⟩)
  simp only [an1, an2]
  refine Free.Chain.pr (fun v _ => v = i2 1 10) [(2, 94)] [] (by kernel_rfl) (by kernel_rfl) rfl (fun _ _ _ _ h => h) ?_ ?_
  · (intro ev W hb hR hO hD; have hS := hF W hR; obtain ⟨hb1, hb2, hb3⟩ := hb; simp only [Free.AllDeps, Free.AllOuts, Free.At, al1, al2, al3, al4, al5, and_true] at hO hD; go_simp; refine yields_enter ?_; (with_reducible refine (partL_any 1 10 _).mono ?_); rintro e W2 ⟨rfl, hB2⟩; exact ⟨_, rfl, hB2, rfl⟩)
  simp only [an1, an2]
  refine Free.Chain.pr (fun v _ => v = .tuple #[.bool true, .int .i64 0]) [(0, 92), (1, 93), (2, 94), (3, 95), (3, 95)] [] (by kernel_rfl) (by kernel_rfl) rfl (fun _ _ _ _ h => h) ?_ ?_
  · (intro ev W hb hR hO hD; have hS := hF W hR; obtain ⟨hb1, hb2, hb3⟩ := hb; simp only [Free.AllDeps, Free.AllOuts, Free.At, al1, al2, al3, al4, al5, and_true] at hO hD; go_simp; refine yields_enter ?_; (with_reducible refine (ex_good _).mono ?_); rintro e W2 ⟨rfl, hB2⟩; exact ⟨_, rfl, hB2, rfl⟩)
  simp only [an1, an2]
  refine Free.Chain.ex ?_ [(4, 96)] [] (by kernel_rfl) (by kernel_rfl) rfl Free.Bel.refl ?_ ?_
  rotate_left 2
  simp only [an1, an2]
  refine Free.Chain.ex ?_ [(5, 91)] [] (by kernel_rfl) (by kernel_rfl) rfl Free.Bel.refl ?_ ?_
  rotate_left 2
  simp only [an1, an2]
  refine Free.Chain.ex ?_ [(5, 91)] [] (by kernel_rfl) (by kernel_rfl) rfl Free.Bel.refl ?_ ?_
  rotate_left 2
  simp only [an1, an2]
  refine Free.Chain.ex ?_ [(6, 97), (4, 96), (0, 92), (1, 93), (2, 94), (3, 95), (4, 96), (5, 91), (6, 97)] [] (by kernel_rfl) (by kernel_rfl) rfl Free.Bel.refl ?_ ?_
  rotate_left 2
  simp only [an1, an2]
  refine Free.Chain.ex ?_ [(7, 98), (8, 17), (0, 92), (1, 93), (2, 94), (3, 95), (4, 96), (5, 91), (6, 97), (7, 98), (8, 17)] [] (by kernel_rfl) (by kernel_rfl) rfl Free.Bel.refl ?_ ?_
  rotate_left 2
  simp only [an1, an2]
  rotate_left
  iterate 5 (rotate_left; intro ev W hb hR hO hD; have hS := hF W hR; obtain ⟨hb1, hb2, hb3⟩ := hb; simp only [Free.AllDeps, Free.AllOuts, Free.At, al1, al2, al3, al4, al5, and_true] at hO hD; go_simp; rfl)
  intro ys w16 hR hV
  simp only [Free.AllV, Free.At, List.length_cons, List.length_nil, Nat.reduceAdd, List.getElem?_cons_succ, List.getElem?_cons_zero, true_and, and_true] at hV
  simp only [Free.putsFrom, Act.put, Nat.zero_add, Nat.reduceAdd, hV, List.setIfInBounds_toArray, List.set_cons_succ, List.set_cons_zero]
  have hN := hF w16 hR
  clear hR hF
  have HB_w16 := Lib.hid (HB_w15.out.trans ((hN).mono hz_w15))
  have hz_w16 : bb ≤ w16.heap.size := Nat.le_trans hz_w15 (hN).size
  have FN := fun (W : World) (hW : Free.Bel w16 W) => FA W (bt (hN) hW)
  clear FA HB_w15 hz_w15 KR
  have FA := FN
  clear FN
  have KR := Free.Bel.refl w16
  clear hN hV
  go_wp2_with fail
  have FBW : ∀ W', RQt 31 w16.heap.size w16.drew W' → Free.Bel w16 W' := fun W' hR => bt (Bel.drewT (Free.Bel.refl _)) (show Free.Bel w16.drew W' from hR.below)
  have hF := fun (W' : World) (hR : RQt 31 w16.heap.size w16.drew W') => FA W' (FBW W' hR)
  refine Free2.wp_free (R := RQt 31 w16.heap.size) (J := JK 31 w16.heap.size 4 6 7) (by kernel_rfl) (by kernel_rfl) (RQt.refl _ _) (fun _ _ _ => RQt.trans) (JK.start (Nat.le_refl _)) ?_
  refine Free2.Chain.ex ?_ 0 rfl [] [1] (by kernel_rfl) (by kernel_rfl) rfl (RQt.refl _ _) (fun X W v h => JK.skip h 0 v (by decide) (by decide) (fun e => absurd e (by decide))) ?_ ?_
  rotate_left
  · (intro ev W hb hR hO hD; have hS := hF W hR; obtain ⟨hb1, hb2, hb3⟩ := hb; simp only [Free.AllDeps, Free.AllOuts, Free.At, al1, al2, al3, al4, al5, and_true] at hO hD; go_simp; rfl)
  simp only [an1, an2]
  refine Free2.Chain.pr (TrmV) 1 rfl [] [] (by kernel_rfl) (by kernel_rfl) rfl (TrmV.stable _) ?_ ?_
  · (intro ev W X hb hR hO hD hj hx hax; have hS := hF W hR; obtain ⟨hb1, hb2, hb3⟩ := hb; simp only [Free.AllDeps, Free.AllOuts, Free.At, al1, al2, al3, al4, al5, and_true] at hO hD; simp only [Free2.AllX, and_true] at hax; go_simp; refine yields_enter ?_; (with_reducible refine (terms_heap _).mono ?_); rintro e W2 ⟨⟨v9, rfl, ht9⟩, hB2⟩; exact ⟨_, rfl, RQt.of_bel hB2 hj.size, ht9, JK.skip (JK.bel hj hB2) 1 _ (by decide) (by decide) (fun e => absurd e (by decide))⟩)
  simp only [an1, an2]
  refine Free2.Chain.pr (fun v _ => v = .tuple #[i2 2500 3, .int .i64 0]) 2 rfl [(0, 100), (1, 101), (1, 101)] [] (by kernel_rfl) (by kernel_rfl) rfl (fun _ _ _ _ h => h) ?_ ?_
  · (intro ev W X hb hR hO hD hj hx hax; have hS := hF W hR; obtain ⟨hb1, hb2, hb3⟩ := hb; simp only [Free.AllDeps, Free.AllOuts, Free.At, al1, al2, al3, al4, al5, and_true] at hO hD; simp only [Free2.AllX, and_true] at hax; have ht9 := hD.2.1.pl; go_simp; refine yields_enter ?_; (with_reducible refine (ex_fair _ _ ht9).mono ?_); rintro e W2 ⟨rfl, hB2⟩; exact ⟨_, rfl, RQt.of_bel hB2 hj.size, rfl, JK.skip (JK.bel hj hB2) 2 _ (by decide) (by decide) (fun e => absurd e (by decide))⟩)
  simp only [an1, an2]
  refine Free2.Chain.ex ?_ 3 rfl [(2, 102)] [] (by kernel_rfl) (by kernel_rfl) rfl (RQt.refl _ _) (fun X W v h => JK.skip h 3 v (by decide) (by decide) (fun e => absurd e (by decide))) ?_ ?_
  rotate_left
  · (intro ev W hb hR hO hD; have hS := hF W hR; obtain ⟨hb1, hb2, hb3⟩ := hb; simp only [Free.AllDeps, Free.AllOuts, Free.At, al1, al2, al3, al4, al5, and_true] at hO hD; go_simp; rfl)
  simp only [an1, an2]
  refine Free2.Chain.pr (fun v _ => v = i2 2500 3) 4 rfl [(3, 99)] [] (by kernel_rfl) (by kernel_rfl) rfl (fun _ _ _ _ h => h) ?_ ?_
  · (intro ev W X hb hR hO hD hj hx hax; have hS := hF W hR; obtain ⟨hb1, hb2, hb3⟩ := hb; simp only [Free.AllDeps, Free.AllOuts, Free.At, al1, al2, al3, al4, al5, and_true] at hO hD; simp only [Free2.AllX, and_true] at hax; go_simp; exact ⟨RQt.refl _ _ _, rfl, JK.skip hj 4 _ (by decide) (by decide) (fun _ => hx)⟩)
  simp only [an1, an2]
  refine Free2.Chain.ex ?_ 5 rfl [(3, 99)] [] (by kernel_rfl) (by kernel_rfl) rfl (RQt.refl _ _) (fun X W v h => JK.skip h 5 v (by decide) (by decide) (fun e => absurd e (by decide))) ?_ ?_
  rotate_left
  · (intro ev W hb hR hO hD; have hS := hF W hR; obtain ⟨hb1, hb2, hb3⟩ := hb; simp only [Free.AllDeps, Free.AllOuts, Free.At, al1, al2, al3, al4, al5, and_true] at hO hD; go_simp; rfl)
  simp only [an1, an2]
  refine Free2.Chain.pr (fun _ _ => True) 6 rfl [] [] (by kernel_rfl) (by kernel_rfl) rfl (fun _ _ _ _ h => h) ?_ ?_
  · (intro ev W X hb hR hO hD hj hx hax; have hS := hF W hR; obtain ⟨hb1, hb2, hb3⟩ := hb; simp only [Free.AllDeps, Free.AllOuts, Free.At, al1, al2, al3, al4, al5, and_true] at hO hD; simp only [Free2.AllX, and_true] at hax; go_simp; exact ⟨RQt.of_bel (belAlloc _ _) hj.size, JK.made hj hx (belAlloc _ _) hj.size (World.alloc_heap_new _ _) (by decide)⟩)
  simp only [an1, an2]
  refine Free2.Chain.pr (fun _ _ => True) 7 rfl [(6, 19), (4, 103), (2, 102), (0, 100), (1, 101), (2, 102), (3, 99), (4, 103), (6, 19)] [] (by kernel_rfl) (by kernel_rfl) rfl (fun _ _ _ _ h => h) ?_ ?_
  · (intro ev W X hb hR hO hD hj hx hax; have hS := hF W hR; obtain ⟨hb1, hb2, hb3⟩ := hb; simp only [Free.AllDeps, Free.AllOuts, Free.At, al1, al2, al3, al4, al5, and_true] at hO hD; simp only [Free2.AllX, and_true] at hax; have hu9 := hD.2.1; have hXe := hax.2.1; rw [hu9] at hXe; obtain ⟨b9, hb9, hs9, h39, _⟩ := hj.new _ hax.1; obtain ⟨x0, y0, h59⟩ := h39 hx; have hXa := hax.1; rw [hb9] at hXa; have c0 := cell_of_heap (o := 0) h59 rfl; have c1 := cell_of_heap (o := 1) h59 rfl; have f0 := frozen_of_heap (o := 0) h59; have f1 := frozen_of_heap (o := 1) h59; go_simp; exact ⟨RQt.trans (RQt.set hs9 h59) (RQt.set hs9 (heap_setCell_same (o := 0) _ h59)), JK.put hj hx hXa hXe (by decide) (by decide)⟩)
  simp only [an1, an2]
  refine Free2.Chain.ex ?_ 8 rfl [(5, 104), (0, 100), (1, 101), (2, 102), (3, 99), (4, 103), (5, 104), (6, 19)] [] (by kernel_rfl) (by kernel_rfl) rfl (RQt.refl _ _) (fun X W v h => JK.skip h 8 v (by decide) (by decide) (fun e => absurd e (by decide))) ?_ ?_
  rotate_left
  · (intro ev W hb hR hO hD; have hS := hF W hR; obtain ⟨hb1, hb2, hb3⟩ := hb; simp only [Free.AllDeps, Free.AllOuts, Free.At, al1, al2, al3, al4, al5, and_true] at hO hD; go_simp; rfl)
  simp only [an1, an2]
  intro ys w17 hR hV hX
  obtain ⟨X, hj, hxx⟩ := hX
  simp only [Free.AllV, Free.At, List.length_cons, List.length_nil, Nat.reduceAdd, List.getElem?_cons_succ, List.getElem?_cons_zero, true_and, and_true] at hV
  obtain ⟨b13, hbB, hsB, -, h4B⟩ := hj.new _ (hxx 6 (by decide))
  obtain ⟨xB, yB, hexB, hblB⟩ := h4B (by rw [hxx 7 (by decide)]; simp)
  rw [hxx 4 (by decide)] at hexB
  have hxy : Value.agg #[xB, yB] = i2 2500 3 := by rw [← Option.some.inj hexB]; simp only [hV]
  obtain ⟨rfl, rfl⟩ : xB = .int .i64 2500 ∧ yB = .int .i64 3 := by simpa using hxy
  simp only [Free.putsFrom, Act.put, Nat.zero_add, Nat.reduceAdd, hV, hbB, List.setIfInBounds_toArray, List.set_cons_succ, List.set_cons_zero]
  have hN : Free.Bel w16 w17 := FBW w17 hR
  have HB_w17 := Lib.hid (HB_w16.out.trans ((hN).mono hz_w16))
  have hz_w17 : bb ≤ w17.heap.size := Nat.le_trans hz_w16 (hN).size
  have FN := fun (W : World) (hW : Free.Bel w17 W) => And.intro (keepsB hW (cell_of_heap (o := 0) hblB rfl)) (And.intro (keepsB hW (cell_of_heap (o := 1) hblB rfl)) (FA W (bt (hN) hW)))
  clear FA HB_w16 hz_w16 KR
  have FA := FN
  clear FN
  have KR := Free.Bel.refl w17
  clear hR hV hj hxx hF FBW hexB hblB hsB h4B hxy hbB hN
  go_wp2_with fail
  refine (ex_award1 _).mono ?_
  rintro e w18 ⟨rfl, hB⟩
  have HB_w18 := Lib.hid (HB_w17.out.trans ((hB).mono hz_w17))
  have hz_w18 : bb ≤ w18.heap.size := Nat.le_trans hz_w17 (hB).size
  have FN := fun (W : World) (hW : Free.Bel w18 W) => FA W (bt (hB) hW)
  clear FA HB_w17 hz_w17 KR
  have FA := FN
  clear FN
  have KR := Free.Bel.refl w18
  clear hB
  go_wp2_with fail
  refine (ex_award2 _).mono ?_
  rintro e w19 ⟨rfl, hB⟩
  have HB_w19 := Lib.hid (HB_w18.out.trans ((hB).mono hz_w18))
  have hz_w19 : bb ≤ w19.heap.size := Nat.le_trans hz_w18 (hB).size
  have FN := fun (W : World) (hW : Free.Bel w19 W) => FA W (bt (hB) hW)
  clear FA HB_w18 hz_w18 KR
  have FA := FN
  clear FN
  have KR := Free.Bel.refl w19
  clear hB
  go_wp2_with fail
  have hF : ∀ W, Free.Bel w19.drew W → Free.Bel w19 W := fun W hW => bt (Bel.drewT (Free.Bel.refl _)) hW
  refine Free.wp_free (R := Free.Bel) (by kernel_rfl) (by kernel_rfl) Free.Bel.refl Free.Bel.trans ?_
  refine Free.Chain.ex ?_ [] [4] (by kernel_rfl) (by kernel_rfl) rfl Free.Bel.refl ?_ ?_
  rotate_left 2
  simp only [an1, an2]
  refine Free.Chain.ex ?_ [(0, 113)] [] (by kernel_rfl) (by kernel_rfl) rfl Free.Bel.refl ?_ ?_
  rotate_left 2
  simp only [an1, an2]
  refine Free.Chain.ex ?_ [(1, 114)] [] (by kernel_rfl) (by kernel_rfl) rfl Free.Bel.refl ?_ ?_
  rotate_left 2
  simp only [an1, an2]
  rotate_left
  iterate 3 (rotate_left; intro ev W hb hR hO hD; have hS := hF W hR; obtain ⟨hb1, hb2, hb3⟩ := hb; simp only [Free.AllDeps, Free.AllOuts, Free.At, al1, al2, al3, al4, al5, and_true] at hO hD; go_simp; rfl)
  refine Free.Chain.exG ?_ [(2, 115)] [3] 2 false 115 (by kernel_rfl) (by kernel_rfl) rfl (by kernel_rfl) Free.Bel.refl ?_ ?_
  rotate_left 2
  simp only [an1, an2]
  rotate_left
  rotate_left
  · (intro ev W hb hR hO hD; have hS := hF W hR; obtain ⟨hb1, hb2, hb3⟩ := hb; simp only [Free.AllDeps, Free.AllOuts, Free.At, al1, al2, al3, al4, al5, and_true] at hO hD; refine ⟨by simp [hD], ?_⟩; go_simp; rfl)
  refine Free.Chain.prG (fun v _ => v = i2 6 5) [(2, 115), (2, 115)] [] 2 false 115 (by kernel_rfl) (by kernel_rfl) rfl (by kernel_rfl) (fun _ _ _ _ h => h) ?_ ?_
  · (intro ev W hb hR hO hD; have hS := hF W hR; obtain ⟨hb1, hb2, hb3⟩ := hb; simp only [Free.AllDeps, Free.AllOuts, Free.At, al1, al2, al3, al4, al5, and_true] at hO hD; refine ⟨by simp [hD], ?_⟩; go_simp; refine yields_enter ?_; (with_reducible refine (partL_any 6 5 _).mono ?_); rintro e W2 ⟨rfl, hB2⟩; exact ⟨_, rfl, hB2, rfl⟩)
  simp only [an1, an2]
  refine Free.Chain.exG ?_ [(3, 116), (4, 117), (2, 115)] [] 2 false 115 (by kernel_rfl) (by kernel_rfl) rfl (by kernel_rfl) Free.Bel.refl ?_ ?_
  rotate_left 2
  simp only [an1, an2]
  rotate_left
  rotate_left
  · (intro ev W hb hR hO hD; have hS := hF W hR; obtain ⟨hb1, hb2, hb3⟩ := hb; simp only [Free.AllDeps, Free.AllOuts, Free.At, al1, al2, al3, al4, al5, and_true] at hO hD; refine ⟨by simp [hD], ?_⟩; go_simp; rfl)
  refine Free.Chain.ex ?_ [(2, 115), (5, 118)] [] (by kernel_rfl) (by kernel_rfl) rfl Free.Bel.refl ?_ ?_
  rotate_left 2
  simp only [an1, an2]
  refine Free.Chain.ex ?_ [(6, 119), (4, 117)] [] (by kernel_rfl) (by kernel_rfl) rfl Free.Bel.refl ?_ ?_
  rotate_left 2
  simp only [an1, an2]
  rotate_left
  iterate 2 (rotate_left; intro ev W hb hR hO hD; have hS := hF W hR; obtain ⟨hb1, hb2, hb3⟩ := hb; simp only [Free.AllDeps, Free.AllOuts, Free.At, al1, al2, al3, al4, al5, and_true] at hO hD; go_simp; rfl)
  refine Free.Chain.exG ?_ [(7, 120)] [6] 7 false 120 (by kernel_rfl) (by kernel_rfl) rfl (by kernel_rfl) Free.Bel.refl ?_ ?_
  rotate_left 2
  simp only [an1, an2]
  refine Free.Chain.exG ?_ [(8, 121), (7, 120)] [] 7 false 120 (by kernel_rfl) (by kernel_rfl) rfl (by kernel_rfl) Free.Bel.refl ?_ ?_
  rotate_left 2
  simp only [an1, an2]
  rotate_left
  iterate 2 (rotate_left; intro ev W hb hR hO hD; have hS := hF W hR; obtain ⟨hb1, hb2, hb3⟩ := hb; simp only [Free.AllDeps, Free.AllOuts, Free.At, al1, al2, al3, al4, al5, and_true] at hO hD; refine ⟨by simp [hD], ?_⟩; go_simp; rfl)
  refine Free.Chain.ex ?_ [(7, 120), (9, 122)] [] (by kernel_rfl) (by kernel_rfl) rfl Free.Bel.refl ?_ ?_
  rotate_left 2
  simp only [an1, an2]
  refine Free.Chain.ex ?_ [(10, 123), (7, 120)] [] (by kernel_rfl) (by kernel_rfl) rfl Free.Bel.refl ?_ ?_
  rotate_left 2
  simp only [an1, an2]
  rotate_left
  iterate 2 (rotate_left; intro ev W hb hR hO hD; have hS := hF W hR; obtain ⟨hb1, hb2, hb3⟩ := hb; simp only [Free.AllDeps, Free.AllOuts, Free.At, al1, al2, al3, al4, al5, and_true] at hO hD; go_simp; rfl)
  refine Free.Chain.exG ?_ [(11, 124)] [5] 11 false 124 (by kernel_rfl) (by kernel_rfl) rfl (by kernel_rfl) Free.Bel.refl ?_ ?_
  rotate_left 2
  simp only [an1, an2]
  rotate_left
  rotate_left
  · (intro ev W hb hR hO hD; have hS := hF W hR; obtain ⟨hb1, hb2, hb3⟩ := hb; simp only [Free.AllDeps, Free.AllOuts, Free.At, al1, al2, al3, al4, al5, and_true] at hO hD; refine ⟨by simp [hD], ?_⟩; go_simp; rfl)
  refine Free.Chain.prG (fun v _ => v = i3 7 0 7) [(11, 124), (11, 124)] [] 11 false 124 (by kernel_rfl) (by kernel_rfl) rfl (by kernel_rfl) (fun _ _ _ _ h => h) ?_ ?_
  · (intro ev W hb hR hO hD; have hS := hF W hR; obtain ⟨hb1, hb2, hb3⟩ := hb; simp only [Free.AllDeps, Free.AllOuts, Free.At, al1, al2, al3, al4, al5, and_true] at hO hD; refine ⟨by simp [hD], ?_⟩; go_simp; refine yields_enter ?_; (with_reducible refine (bags_any 7 _).mono ?_); rintro e W2 ⟨rfl, hB2⟩; exact ⟨_, rfl, hB2, rfl⟩)
  simp only [an1, an2]
  refine Free.Chain.exG ?_ [(12, 125), (13, 126), (11, 124)] [] 11 false 124 (by kernel_rfl) (by kernel_rfl) rfl (by kernel_rfl) Free.Bel.refl ?_ ?_
  rotate_left 2
  simp only [an1, an2]
  rotate_left
  rotate_left
  · (intro ev W hb hR hO hD; have hS := hF W hR; obtain ⟨hb1, hb2, hb3⟩ := hb; simp only [Free.AllDeps, Free.AllOuts, Free.At, al1, al2, al3, al4, al5, and_true] at hO hD; refine ⟨by simp [hD], ?_⟩; go_simp; rfl)
  refine Free.Chain.ex ?_ [(11, 124), (14, 127)] [] (by kernel_rfl) (by kernel_rfl) rfl Free.Bel.refl ?_ ?_
  rotate_left 2
  simp only [an1, an2]
  refine Free.Chain.ex ?_ [(15, 128), (13, 126)] [] (by kernel_rfl) (by kernel_rfl) rfl Free.Bel.refl ?_ ?_
  rotate_left 2
  simp only [an1, an2]
  rotate_left
  iterate 2 (rotate_left; intro ev W hb hR hO hD; have hS := hF W hR; obtain ⟨hb1, hb2, hb3⟩ := hb; simp only [Free.AllDeps, Free.AllOuts, Free.At, al1, al2, al3, al4, al5, and_true] at hO hD; go_simp; rfl)
  refine Free.Chain.exG ?_ [(16, 129)] [8] 16 false 129 (by kernel_rfl) (by kernel_rfl) rfl (by kernel_rfl) Free.Bel.refl ?_ ?_
  rotate_left 2
  simp only [an1, an2]
  refine Free.Chain.exG ?_ [(17, 130), (16, 129)] [] 16 false 129 (by kernel_rfl) (by kernel_rfl) rfl (by kernel_rfl) Free.Bel.refl ?_ ?_
  rotate_left 2
  simp only [an1, an2]
  rotate_left
  iterate 2 (rotate_left; intro ev W hb hR hO hD; have hS := hF W hR; obtain ⟨hb1, hb2, hb3⟩ := hb; simp only [Free.AllDeps, Free.AllOuts, Free.At, al1, al2, al3, al4, al5, and_true] at hO hD; refine ⟨by simp [hD], ?_⟩; go_simp; rfl)
  refine Free.Chain.ex ?_ [(16, 129), (18, 131)] [] (by kernel_rfl) (by kernel_rfl) rfl Free.Bel.refl ?_ ?_
  rotate_left 2
  simp only [an1, an2]
  refine Free.Chain.ex ?_ [(19, 132), (16, 129)] [] (by kernel_rfl) (by kernel_rfl) rfl Free.Bel.refl ?_ ?_
  rotate_left 2
  simp only [an1, an2]
  rotate_left
  iterate 2 (rotate_left; intro ev W hb hR hO hD; have hS := hF W hR; obtain ⟨hb1, hb2, hb3⟩ := hb; simp only [Free.AllDeps, Free.AllOuts, Free.At, al1, al2, al3, al4, al5, and_true] at hO hD; go_simp; rfl)
  refine Free.Chain.exG ?_ [(20, 133)] [7] 20 false 133 (by kernel_rfl) (by kernel_rfl) rfl (by kernel_rfl) Free.Bel.refl ?_ ?_
  rotate_left 2
  simp only [an1, an2]
  rotate_left
  rotate_left
  · (intro ev W hb hR hO hD; have hS := hF W hR; obtain ⟨hb1, hb2, hb3⟩ := hb; simp only [Free.AllDeps, Free.AllOuts, Free.At, al1, al2, al3, al4, al5, and_true] at hO hD; refine ⟨by simp [hD], ?_⟩; go_simp; rfl)
  refine Free.Chain.prG (fun v W => IL [5] v W) [(20, 133)] [] 20 false 133 (by kernel_rfl) (by kernel_rfl) rfl (by kernel_rfl) (IL.stable _) ?_ ?_
  · (intro ev W hb hR hO hD; have hS := hF W hR; obtain ⟨hb1, hb2, hb3⟩ := hb; simp only [Free.AllDeps, Free.AllOuts, Free.At, al1, al2, al3, al4, al5, and_true] at hO hD; refine ⟨by simp [hD], ?_⟩; go_simp; exact ⟨belAlloc _ _, IL.of_sl (SlI.one _ _ _) (by simp [maxLen])⟩)
  simp only [an1, an2]
  refine Free.Chain.prG (fun v _ => v = .bool true) [(21, 134), (22, 135), (20, 133), (20, 133)] [] 20 false 133 (by kernel_rfl) (by kernel_rfl) rfl (by kernel_rfl) (fun _ _ _ _ h => h) ?_ ?_
  · (intro ev W hb hR hO hD; have hS := hF W hR; obtain ⟨hb1, hb2, hb3⟩ := hb; simp only [Free.AllDeps, Free.AllOuts, Free.At, al1, al2, al3, al4, al5, and_true] at hO hD; refine ⟨by simp [hD], ?_⟩; have hil2 := hD.2.1; have hil1 := (FA W hS).2.2.2.2.2.2.1; go_simp; refine yields_enter ?_; (with_reducible refine (sameI_any [5] _ _ _ hil1 hil2).mono ?_); rintro e W2 ⟨rfl, hB2⟩; exact ⟨_, rfl, hB2, rfl⟩)
  simp only [an1, an2]
  refine Free.Chain.exG ?_ [(23, 136), (20, 133)] [] 20 false 133 (by kernel_rfl) (by kernel_rfl) rfl (by kernel_rfl) Free.Bel.refl ?_ ?_
  rotate_left 2
  simp only [an1, an2]
  rotate_left
  rotate_left
  · (intro ev W hb hR hO hD; have hS := hF W hR; obtain ⟨hb1, hb2, hb3⟩ := hb; simp only [Free.AllDeps, Free.AllOuts, Free.At, al1, al2, al3, al4, al5, and_true] at hO hD; refine ⟨by simp [hD], ?_⟩; go_simp; rfl)
  refine Free.Chain.ex ?_ [(20, 133), (24, 137)] [] (by kernel_rfl) (by kernel_rfl) rfl Free.Bel.refl ?_ ?_
  rotate_left 2
  simp only [an1, an2]
  refine Free.Chain.ex ?_ [(25, 138), (23, 136)] [] (by kernel_rfl) (by kernel_rfl) rfl Free.Bel.refl ?_ ?_
  rotate_left 2
  simp only [an1, an2]
  rotate_left
  iterate 2 (rotate_left; intro ev W hb hR hO hD; have hS := hF W hR; obtain ⟨hb1, hb2, hb3⟩ := hb; simp only [Free.AllDeps, Free.AllOuts, Free.At, al1, al2, al3, al4, al5, and_true] at hO hD; go_simp; rfl)
  refine Free.Chain.exG ?_ [(26, 139)] [10] 26 false 139 (by kernel_rfl) (by kernel_rfl) rfl (by kernel_rfl) Free.Bel.refl ?_ ?_
  rotate_left 2
  simp only [an1, an2]
  refine Free.Chain.exG ?_ [(27, 140), (26, 139)] [] 26 false 139 (by kernel_rfl) (by kernel_rfl) rfl (by kernel_rfl) Free.Bel.refl ?_ ?_
  rotate_left 2
  simp only [an1, an2]
  rotate_left
  iterate 2 (rotate_left; intro ev W hb hR hO hD; have hS := hF W hR; obtain ⟨hb1, hb2, hb3⟩ := hb; simp only [Free.AllDeps, Free.AllOuts, Free.At, al1, al2, al3, al4, al5, and_true] at hO hD; refine ⟨by simp [hD], ?_⟩; go_simp; rfl)
  refine Free.Chain.ex ?_ [(26, 139), (28, 141)] [] (by kernel_rfl) (by kernel_rfl) rfl Free.Bel.refl ?_ ?_
  rotate_left 2
  simp only [an1, an2]
  refine Free.Chain.ex ?_ [(29, 142), (26, 139)] [] (by kernel_rfl) (by kernel_rfl) rfl Free.Bel.refl ?_ ?_
  rotate_left 2
  simp only [an1, an2]
  rotate_left
  iterate 2 (rotate_left; intro ev W hb hR hO hD; have hS := hF W hR; obtain ⟨hb1, hb2, hb3⟩ := hb; simp only [Free.AllDeps, Free.AllOuts, Free.At, al1, al2, al3, al4, al5, and_true] at hO hD; go_simp; rfl)
  refine Free.Chain.exG ?_ [(30, 143)] [9] 30 false 143 (by kernel_rfl) (by kernel_rfl) rfl (by kernel_rfl) Free.Bel.refl ?_ ?_
  rotate_left 2
  simp only [an1, an2]
  rotate_left
  rotate_left
  · (intro ev W hb hR hO hD; have hS := hF W hR; obtain ⟨hb1, hb2, hb3⟩ := hb; simp only [Free.AllDeps, Free.AllOuts, Free.At, al1, al2, al3, al4, al5, and_true] at hO hD; refine ⟨by simp [hD], ?_⟩; go_simp; rfl)
  refine Free.Chain.prG (fun v W => IL [3, 4] v W) [(30, 143)] [] 30 false 143 (by kernel_rfl) (by kernel_rfl) rfl (by kernel_rfl) (IL.stable _) ?_ ?_
  · (intro ev W hb hR hO hD; have hS := hF W hR; obtain ⟨hb1, hb2, hb3⟩ := hb; simp only [Free.AllDeps, Free.AllOuts, Free.At, al1, al2, al3, al4, al5, and_true] at hO hD; refine ⟨by simp [hD], ?_⟩; go_simp; exact ⟨belAlloc _ _, IL.of_sl (SlI.two _ _ _ _) (by simp [maxLen])⟩)
  simp only [an1, an2]
  refine Free.Chain.prG (fun v _ => v = .bool true) [(31, 144), (32, 145), (30, 143), (30, 143)] [] 30 false 143 (by kernel_rfl) (by kernel_rfl) rfl (by kernel_rfl) (fun _ _ _ _ h => h) ?_ ?_
  · (intro ev W hb hR hO hD; have hS := hF W hR; obtain ⟨hb1, hb2, hb3⟩ := hb; simp only [Free.AllDeps, Free.AllOuts, Free.At, al1, al2, al3, al4, al5, and_true] at hO hD; refine ⟨by simp [hD], ?_⟩; have hil2 := hD.2.1; have hil1 := (FA W hS).2.2.2.2.2.1; go_simp; refine yields_enter ?_; (with_reducible refine (sameI_any [3, 4] _ _ _ hil1 hil2).mono ?_); rintro e W2 ⟨rfl, hB2⟩; exact ⟨_, rfl, hB2, rfl⟩)
  simp only [an1, an2]
  refine Free.Chain.exG ?_ [(33, 146), (30, 143)] [] 30 false 143 (by kernel_rfl) (by kernel_rfl) rfl (by kernel_rfl) Free.Bel.refl ?_ ?_
  rotate_left 2
  simp only [an1, an2]
  rotate_left
  rotate_left
  · (intro ev W hb hR hO hD; have hS := hF W hR; obtain ⟨hb1, hb2, hb3⟩ := hb; simp only [Free.AllDeps, Free.AllOuts, Free.At, al1, al2, al3, al4, al5, and_true] at hO hD; refine ⟨by simp [hD], ?_⟩; go_simp; rfl)
  refine Free.Chain.ex ?_ [(30, 143), (34, 147)] [] (by kernel_rfl) (by kernel_rfl) rfl Free.Bel.refl ?_ ?_
  rotate_left 2
  simp only [an1, an2]
  refine Free.Chain.ex ?_ [(35, 148), (33, 146)] [] (by kernel_rfl) (by kernel_rfl) rfl Free.Bel.refl ?_ ?_
  rotate_left 2
  simp only [an1, an2]
  rotate_left
  iterate 2 (rotate_left; intro ev W hb hR hO hD; have hS := hF W hR; obtain ⟨hb1, hb2, hb3⟩ := hb; simp only [Free.AllDeps, Free.AllOuts, Free.At, al1, al2, al3, al4, al5, and_true] at hO hD; go_simp; rfl)
  refine Free.Chain.exG ?_ [(36, 149)] [12] 36 false 149 (by kernel_rfl) (by kernel_rfl) rfl (by kernel_rfl) Free.Bel.refl ?_ ?_
  rotate_left 2
  simp only [an1, an2]
  refine Free.Chain.exG ?_ [(37, 150), (36, 149)] [] 36 false 149 (by kernel_rfl) (by kernel_rfl) rfl (by kernel_rfl) Free.Bel.refl ?_ ?_
  rotate_left 2
  simp only [an1, an2]
  rotate_left
  iterate 2 (rotate_left; intro ev W hb hR hO hD; have hS := hF W hR; obtain ⟨hb1, hb2, hb3⟩ := hb; simp only [Free.AllDeps, Free.AllOuts, Free.At, al1, al2, al3, al4, al5, and_true] at hO hD; refine ⟨by simp [hD], ?_⟩; go_simp; rfl)
  refine Free.Chain.ex ?_ [(36, 149), (38, 151)] [] (by kernel_rfl) (by kernel_rfl) rfl Free.Bel.refl ?_ ?_
  rotate_left 2
  simp only [an1, an2]
  refine Free.Chain.ex ?_ [(39, 152), (36, 149)] [] (by kernel_rfl) (by kernel_rfl) rfl Free.Bel.refl ?_ ?_
  rotate_left 2
  simp only [an1, an2]
  rotate_left
  iterate 2 (rotate_left; intro ev W hb hR hO hD; have hS := hF W hR; obtain ⟨hb1, hb2, hb3⟩ := hb; simp only [Free.AllDeps, Free.AllOuts, Free.At, al1, al2, al3, al4, al5, and_true] at hO hD; go_simp; rfl)
  refine Free.Chain.exG ?_ [(40, 153)] [11] 40 false 153 (by kernel_rfl) (by kernel_rfl) rfl (by kernel_rfl) Free.Bel.refl ?_ ?_
  rotate_left 2
  simp only [an1, an2]
  refine Free.Chain.exG ?_ [(41, 154), (40, 153)] [] 40 false 153 (by kernel_rfl) (by kernel_rfl) rfl (by kernel_rfl) Free.Bel.refl ?_ ?_
  rotate_left 2
  simp only [an1, an2]
  rotate_left
  iterate 2 (rotate_left; intro ev W hb hR hO hD; have hS := hF W hR; obtain ⟨hb1, hb2, hb3⟩ := hb; simp only [Free.AllDeps, Free.AllOuts, Free.At, al1, al2, al3, al4, al5, and_true] at hO hD; refine ⟨by simp [hD], ?_⟩; go_simp; rfl)
  refine Free.Chain.ex ?_ [(40, 153), (42, 155)] [] (by kernel_rfl) (by kernel_rfl) rfl Free.Bel.refl ?_ ?_
  rotate_left 2
  simp only [an1, an2]
  refine Free.Chain.ex ?_ [(43, 156), (40, 153)] [] (by kernel_rfl) (by kernel_rfl) rfl Free.Bel.refl ?_ ?_
  rotate_left 2
  simp only [an1, an2]
  rotate_left
  iterate 2 (rotate_left; intro ev W hb hR hO hD; have hS := hF W hR; obtain ⟨hb1, hb2, hb3⟩ := hb; simp only [Free.AllDeps, Free.AllOuts, Free.At, al1, al2, al3, al4, al5, and_true] at hO hD; go_simp; rfl)
  refine Free.Chain.exG ?_ [(44, 157)] [14] 44 false 157 (by kernel_rfl) (by kernel_rfl) rfl (by kernel_rfl) Free.Bel.refl ?_ ?_
  rotate_left 2
  simp only [an1, an2]
  refine Free.Chain.exG ?_ [(45, 158), (44, 157)] [] 44 false 157 (by kernel_rfl) (by kernel_rfl) rfl (by kernel_rfl) Free.Bel.refl ?_ ?_
  rotate_left 2
  simp only [an1, an2]
  rotate_left
  iterate 2 (rotate_left; intro ev W hb hR hO hD; have hS := hF W hR; obtain ⟨hb1, hb2, hb3⟩ := hb; simp only [Free.AllDeps, Free.AllOuts, Free.At, al1, al2, al3, al4, al5, and_true] at hO hD; refine ⟨by simp [hD], ?_⟩; go_simp; rfl)
  refine Free.Chain.ex ?_ [(44, 157), (46, 159)] [] (by kernel_rfl) (by kernel_rfl) rfl Free.Bel.refl ?_ ?_
  rotate_left 2
  simp only [an1, an2]
  refine Free.Chain.ex ?_ [(47, 160), (44, 157)] [] (by kernel_rfl) (by kernel_rfl) rfl Free.Bel.refl ?_ ?_
  rotate_left 2
  simp only [an1, an2]
  rotate_left
  iterate 2 (rotate_left; intro ev W hb hR hO hD; have hS := hF W hR; obtain ⟨hb1, hb2, hb3⟩ := hb; simp only [Free.AllDeps, Free.AllOuts, Free.At, al1, al2, al3, al4, al5, and_true] at hO hD; go_simp; rfl)
  refine Free.Chain.exG ?_ [(48, 161)] [13] 48 false 161 (by kernel_rfl) (by kernel_rfl) rfl (by kernel_rfl) Free.Bel.refl ?_ ?_
  rotate_left 2
  simp only [an1, an2]
  rotate_left
  rotate_left
  · (intro ev W hb hR hO hD; have hS := hF W hR; obtain ⟨hb1, hb2, hb3⟩ := hb; simp only [Free.AllDeps, Free.AllOuts, Free.At, al1, al2, al3, al4, al5, and_true] at hO hD; refine ⟨by simp [hD], ?_⟩; go_simp; rfl)
  refine Free.Chain.prG (fun v _ => v = i2 7 15) [(48, 161), (48, 161)] [] 48 false 161 (by kernel_rfl) (by kernel_rfl) rfl (by kernel_rfl) (fun _ _ _ _ h => h) ?_ ?_
  · (intro ev W hb hR hO hD; have hS := hF W hR; obtain ⟨hb1, hb2, hb3⟩ := hb; simp only [Free.AllDeps, Free.AllOuts, Free.At, al1, al2, al3, al4, al5, and_true] at hO hD; refine ⟨by simp [hD], ?_⟩; go_simp; refine yields_enter ?_; (with_reducible refine (partL_any 7 15 _).mono ?_); rintro e W2 ⟨rfl, hB2⟩; exact ⟨_, rfl, hB2, rfl⟩)
  simp only [an1, an2]
  refine Free.Chain.exG ?_ [(49, 162), (50, 163), (48, 161)] [] 48 false 161 (by kernel_rfl) (by kernel_rfl) rfl (by kernel_rfl) Free.Bel.refl ?_ ?_
  rotate_left 2
  simp only [an1, an2]
  rotate_left
  rotate_left
  · (intro ev W hb hR hO hD; have hS := hF W hR; obtain ⟨hb1, hb2, hb3⟩ := hb; simp only [Free.AllDeps, Free.AllOuts, Free.At, al1, al2, al3, al4, al5, and_true] at hO hD; refine ⟨by simp [hD], ?_⟩; go_simp; rfl)
  refine Free.Chain.ex ?_ [(48, 161), (51, 164)] [] (by kernel_rfl) (by kernel_rfl) rfl Free.Bel.refl ?_ ?_
  rotate_left 2
  simp only [an1, an2]
  refine Free.Chain.ex ?_ [(52, 165), (50, 163)] [] (by kernel_rfl) (by kernel_rfl) rfl Free.Bel.refl ?_ ?_
  rotate_left 2
  simp only [an1, an2]
  rotate_left
  iterate 2 (rotate_left; intro ev W hb hR hO hD; have hS := hF W hR; obtain ⟨hb1, hb2, hb3⟩ := hb; simp only [Free.AllDeps, Free.AllOuts, Free.At, al1, al2, al3, al4, al5, and_true] at hO hD; go_simp; rfl)
  refine Free.Chain.exG ?_ [(53, 166)] [16] 53 false 166 (by kernel_rfl) (by kernel_rfl) rfl (by kernel_rfl) Free.Bel.refl ?_ ?_
  rotate_left 2
  simp only [an1, an2]
  refine Free.Chain.exG ?_ [(54, 167), (53, 166)] [] 53 false 166 (by kernel_rfl) (by kernel_rfl) rfl (by kernel_rfl) Free.Bel.refl ?_ ?_
  rotate_left 2
  simp only [an1, an2]
  rotate_left
  iterate 2 (rotate_left; intro ev W hb hR hO hD; have hS := hF W hR; obtain ⟨hb1, hb2, hb3⟩ := hb; simp only [Free.AllDeps, Free.AllOuts, Free.At, al1, al2, al3, al4, al5, and_true] at hO hD; refine ⟨by simp [hD], ?_⟩; go_simp; rfl)
  refine Free.Chain.ex ?_ [(53, 166), (55, 168)] [] (by kernel_rfl) (by kernel_rfl) rfl Free.Bel.refl ?_ ?_
  rotate_left 2
  simp only [an1, an2]
  refine Free.Chain.ex ?_ [(56, 169), (53, 166)] [] (by kernel_rfl) (by kernel_rfl) rfl Free.Bel.refl ?_ ?_
  rotate_left 2
  simp only [an1, an2]
  rotate_left
  iterate 2 (rotate_left; intro ev W hb hR hO hD; have hS := hF W hR; obtain ⟨hb1, hb2, hb3⟩ := hb; simp only [Free.AllDeps, Free.AllOuts, Free.At, al1, al2, al3, al4, al5, and_true] at hO hD; go_simp; rfl)
  refine Free.Chain.exG ?_ [(57, 170)] [15] 57 false 170 (by kernel_rfl) (by kernel_rfl) rfl (by kernel_rfl) Free.Bel.refl ?_ ?_
  rotate_left 2
  simp only [an1, an2]
  rotate_left
  rotate_left
  · (intro ev W hb hR hO hD; have hS := hF W hR; obtain ⟨hb1, hb2, hb3⟩ := hb; simp only [Free.AllDeps, Free.AllOuts, Free.At, al1, al2, al3, al4, al5, and_true] at hO hD; refine ⟨by simp [hD], ?_⟩; go_simp; rfl)
  refine Free.Chain.prG (fun v _ => v = i2 1 1) [(57, 170), (57, 170)] [] 57 false 170 (by kernel_rfl) (by kernel_rfl) rfl (by kernel_rfl) (fun _ _ _ _ h => h) ?_ ?_
  · (intro ev W hb hR hO hD; have hS := hF W hR; obtain ⟨hb1, hb2, hb3⟩ := hb; simp only [Free.AllDeps, Free.AllOuts, Free.At, al1, al2, al3, al4, al5, and_true] at hO hD; refine ⟨by simp [hD], ?_⟩; go_simp; refine yields_enter ?_; (with_reducible refine (partL_any 1 1 _).mono ?_); rintro e W2 ⟨rfl, hB2⟩; exact ⟨_, rfl, hB2, rfl⟩)
  simp only [an1, an2]
  refine Free.Chain.prG (fun v _ => v = i2 7 10) [(59, 172), (57, 170)] [] 57 false 170 (by kernel_rfl) (by kernel_rfl) rfl (by kernel_rfl) (fun _ _ _ _ h => h) ?_ ?_
  · (intro ev W hb hR hO hD; have hS := hF W hR; obtain ⟨hb1, hb2, hb3⟩ := hb; simp only [Free.AllDeps, Free.AllOuts, Free.At, al1, al2, al3, al4, al5, and_true] at hO hD; refine ⟨by simp [hD], ?_⟩; go_simp; refine yields_enter ?_; (with_reducible refine (partL_any 7 10 _).mono ?_); rintro e W2 ⟨rfl, hB2⟩; exact ⟨_, rfl, hB2, rfl⟩)
  simp only [an1, an2]
  refine Free.Chain.prG (fun v _ => v = i2 7 15) [(60, 173), (57, 170)] [] 57 false 170 (by kernel_rfl) (by kernel_rfl) rfl (by kernel_rfl) (fun _ _ _ _ h => h) ?_ ?_
  · (intro ev W hb hR hO hD; have hS := hF W hR; obtain ⟨hb1, hb2, hb3⟩ := hb; simp only [Free.AllDeps, Free.AllOuts, Free.At, al1, al2, al3, al4, al5, and_true] at hO hD; refine ⟨by simp [hD], ?_⟩; go_simp; refine yields_enter ?_; (with_reducible refine (partL_any 7 15 _).mono ?_); rintro e W2 ⟨rfl, hB2⟩; exact ⟨_, rfl, hB2, rfl⟩)
  simp only [an1, an2]
  refine Free.Chain.prG (fun v _ => v = i2 7 24) [(61, 174), (57, 170)] [] 57 false 170 (by kernel_rfl) (by kernel_rfl) rfl (by kernel_rfl) (fun _ _ _ _ h => h) ?_ ?_
  · (intro ev W hb hR hO hD; have hS := hF W hR; obtain ⟨hb1, hb2, hb3⟩ := hb; simp only [Free.AllDeps, Free.AllOuts, Free.At, al1, al2, al3, al4, al5, and_true] at hO hD; refine ⟨by simp [hD], ?_⟩; go_simp; refine yields_enter ?_; (with_reducible refine (partL_any 7 24 _).mono ?_); rintro e W2 ⟨rfl, hB2⟩; exact ⟨_, rfl, hB2, rfl⟩)
  simp only [an1, an2]
  refine Free.Chain.prG (fun v W => PL cur4 v W) [(59, 172), (60, 173), (61, 174), (62, 175), (57, 170)] [] 57 false 170 (by kernel_rfl) (by kernel_rfl) rfl (by kernel_rfl) (fun _ _ _ hB h => h.keeps hB) ?_ ?_
  · (intro ev W hb hR hO hD; have hS := hF W hR; obtain ⟨hb1, hb2, hb3⟩ := hb; simp only [Free.AllDeps, Free.AllOuts, Free.At, al1, al2, al3, al4, al5, and_true] at hO hD; refine ⟨by simp [hD], ?_⟩; obtain ⟨d1, d2, d3, d4, -⟩ := hD; go_simp; exact ⟨belAlloc _ _, pl4 _ _⟩)
  simp only [an1, an2]
  refine Free.Chain.prG (fun v _ => v = .bool true) [(58, 171), (63, 176), (62, 175), (57, 170)] [] 57 false 170 (by kernel_rfl) (by kernel_rfl) rfl (by kernel_rfl) (fun _ _ _ _ h => h) ?_ ?_
  · (intro ev W hb hR hO hD; have hS := hF W hR; obtain ⟨hb1, hb2, hb3⟩ := hb; simp only [Free.AllDeps, Free.AllOuts, Free.At, al1, al2, al3, al4, al5, and_true] at hO hD; refine ⟨by simp [hD], ?_⟩; have hil2 := hD.2.1; have hil1 := (FA W hS).2.2.1; go_simp; refine yields_enter ?_; (with_reducible refine (same_any cur4 _ _ _ hil1 hil2).mono ?_); rintro e W2 ⟨rfl, hB2⟩; exact ⟨_, rfl, hB2, rfl⟩)
  simp only [an1, an2]
  refine Free.Chain.exG ?_ [(64, 177), (57, 170)] [] 57 false 170 (by kernel_rfl) (by kernel_rfl) rfl (by kernel_rfl) Free.Bel.refl ?_ ?_
  rotate_left 2
  simp only [an1, an2]
  rotate_left
  rotate_left
  · (intro ev W hb hR hO hD; have hS := hF W hR; obtain ⟨hb1, hb2, hb3⟩ := hb; simp only [Free.AllDeps, Free.AllOuts, Free.At, al1, al2, al3, al4, al5, and_true] at hO hD; refine ⟨by simp [hD], ?_⟩; go_simp; rfl)
  refine Free.Chain.ex ?_ [(57, 170), (65, 178)] [] (by kernel_rfl) (by kernel_rfl) rfl Free.Bel.refl ?_ ?_
  rotate_left 2
  simp only [an1, an2]
  refine Free.Chain.ex ?_ [(66, 179), (64, 177)] [] (by kernel_rfl) (by kernel_rfl) rfl Free.Bel.refl ?_ ?_
  rotate_left 2
  simp only [an1, an2]
  rotate_left
  iterate 2 (rotate_left; intro ev W hb hR hO hD; have hS := hF W hR; obtain ⟨hb1, hb2, hb3⟩ := hb; simp only [Free.AllDeps, Free.AllOuts, Free.At, al1, al2, al3, al4, al5, and_true] at hO hD; go_simp; rfl)
  refine Free.Chain.exG ?_ [(67, 180)] [18] 67 false 180 (by kernel_rfl) (by kernel_rfl) rfl (by kernel_rfl) Free.Bel.refl ?_ ?_
  rotate_left 2
  simp only [an1, an2]
  refine Free.Chain.exG ?_ [(68, 181), (67, 180)] [] 67 false 180 (by kernel_rfl) (by kernel_rfl) rfl (by kernel_rfl) Free.Bel.refl ?_ ?_
  rotate_left 2
  simp only [an1, an2]
  rotate_left
  iterate 2 (rotate_left; intro ev W hb hR hO hD; have hS := hF W hR; obtain ⟨hb1, hb2, hb3⟩ := hb; simp only [Free.AllDeps, Free.AllOuts, Free.At, al1, al2, al3, al4, al5, and_true] at hO hD; refine ⟨by simp [hD], ?_⟩; go_simp; rfl)
  refine Free.Chain.ex ?_ [(67, 180), (69, 182)] [] (by kernel_rfl) (by kernel_rfl) rfl Free.Bel.refl ?_ ?_
  rotate_left 2
  simp only [an1, an2]
  refine Free.Chain.ex ?_ [(70, 183), (67, 180)] [] (by kernel_rfl) (by kernel_rfl) rfl Free.Bel.refl ?_ ?_
  rotate_left 2
  simp only [an1, an2]
  rotate_left
  iterate 2 (rotate_left; intro ev W hb hR hO hD; have hS := hF W hR; obtain ⟨hb1, hb2, hb3⟩ := hb; simp only [Free.AllDeps, Free.AllOuts, Free.At, al1, al2, al3, al4, al5, and_true] at hO hD; go_simp; rfl)
  refine Free.Chain.exG ?_ [(71, 184)] [17] 71 false 184 (by kernel_rfl) (by kernel_rfl) rfl (by kernel_rfl) Free.Bel.refl ?_ ?_
  rotate_left 2
  simp only [an1, an2]
  refine Free.Chain.exG ?_ [(72, 185), (71, 184)] [] 71 false 184 (by kernel_rfl) (by kernel_rfl) rfl (by kernel_rfl) Free.Bel.refl ?_ ?_
  rotate_left 2
  simp only [an1, an2]
  rotate_left
  iterate 2 (rotate_left; intro ev W hb hR hO hD; have hS := hF W hR; obtain ⟨hb1, hb2, hb3⟩ := hb; simp only [Free.AllDeps, Free.AllOuts, Free.At, al1, al2, al3, al4, al5, and_true] at hO hD; refine ⟨by simp [hD], ?_⟩; go_simp; rfl)
  refine Free.Chain.ex ?_ [(71, 184), (73, 186)] [] (by kernel_rfl) (by kernel_rfl) rfl Free.Bel.refl ?_ ?_
  rotate_left 2
  simp only [an1, an2]
  refine Free.Chain.ex ?_ [(74, 187), (71, 184)] [] (by kernel_rfl) (by kernel_rfl) rfl Free.Bel.refl ?_ ?_
  rotate_left 2
  simp only [an1, an2]
  rotate_left
  iterate 2 (rotate_left; intro ev W hb hR hO hD; have hS := hF W hR; obtain ⟨hb1, hb2, hb3⟩ := hb; simp only [Free.AllDeps, Free.AllOuts, Free.At, al1, al2, al3, al4, al5, and_true] at hO hD; go_simp; rfl)
  refine Free.Chain.exG ?_ [(75, 188)] [20] 75 false 188 (by kernel_rfl) (by kernel_rfl) rfl (by kernel_rfl) Free.Bel.refl ?_ ?_
  rotate_left 2
  simp only [an1, an2]
  refine Free.Chain.exG ?_ [(76, 189), (75, 188)] [] 75 false 188 (by kernel_rfl) (by kernel_rfl) rfl (by kernel_rfl) Free.Bel.refl ?_ ?_
  rotate_left 2
  simp only [an1, an2]
  rotate_left
  iterate 2 (rotate_left; intro ev W hb hR hO hD; have hS := hF W hR; obtain ⟨hb1, hb2, hb3⟩ := hb; simp only [Free.AllDeps, Free.AllOuts, Free.At, al1, al2, al3, al4, al5, and_true] at hO hD; refine ⟨by simp [hD], ?_⟩; go_simp; rfl)
  refine Free.Chain.ex ?_ [(75, 188), (77, 190)] [] (by kernel_rfl) (by kernel_rfl) rfl Free.Bel.refl ?_ ?_
  rotate_left 2
  simp only [an1, an2]
  refine Free.Chain.ex ?_ [(78, 191), (75, 188)] [] (by kernel_rfl) (by kernel_rfl) rfl Free.Bel.refl ?_ ?_
  rotate_left 2
  simp only [an1, an2]
  rotate_left
  iterate 2 (rotate_left; intro ev W hb hR hO hD; have hS := hF W hR; obtain ⟨hb1, hb2, hb3⟩ := hb; simp only [Free.AllDeps, Free.AllOuts, Free.At, al1, al2, al3, al4, al5, and_true] at hO hD; go_simp; rfl)
  refine Free.Chain.exG ?_ [(79, 192)] [19] 79 false 192 (by kernel_rfl) (by kernel_rfl) rfl (by kernel_rfl) Free.Bel.refl ?_ ?_
  rotate_left 2
  simp only [an1, an2]
  rotate_left
  rotate_left
  · (intro ev W hb hR hO hD; have hS := hF W hR; obtain ⟨hb1, hb2, hb3⟩ := hb; simp only [Free.AllDeps, Free.AllOuts, Free.At, al1, al2, al3, al4, al5, and_true] at hO hD; refine ⟨by simp [hD], ?_⟩; go_simp; rfl)
  refine Free.Chain.prG (fun v _ => v = i2 2500 3) [(79, 192), (79, 192)] [] 79 false 192 (by kernel_rfl) (by kernel_rfl) rfl (by kernel_rfl) (fun _ _ _ _ h => h) ?_ ?_
  · (intro ev W hb hR hO hD; have hS := hF W hR; obtain ⟨hb1, hb2, hb3⟩ := hb; simp only [Free.AllDeps, Free.AllOuts, Free.At, al1, al2, al3, al4, al5, and_true] at hO hD; refine ⟨by simp [hD], ?_⟩; go_simp; refine yields_enter ?_; (with_reducible refine (partL_any 2500 3 _).mono ?_); rintro e W2 ⟨rfl, hB2⟩; exact ⟨_, rfl, hB2, rfl⟩)
  simp only [an1, an2]
  refine Free.Chain.exG ?_ [(80, 193), (81, 194), (79, 192)] [] 79 false 192 (by kernel_rfl) (by kernel_rfl) rfl (by kernel_rfl) Free.Bel.refl ?_ ?_
  rotate_left 2
  simp only [an1, an2]
  rotate_left
  rotate_left
  · (intro ev W hb hR hO hD; have hS := hF W hR; obtain ⟨hb1, hb2, hb3⟩ := hb; simp only [Free.AllDeps, Free.AllOuts, Free.At, al1, al2, al3, al4, al5, and_true] at hO hD; refine ⟨by simp [hD], ?_⟩; go_simp; rfl)
  refine Free.Chain.ex ?_ [(79, 192), (82, 195)] [] (by kernel_rfl) (by kernel_rfl) rfl Free.Bel.refl ?_ ?_
  rotate_left 2
  simp only [an1, an2]
  refine Free.Chain.ex ?_ [(83, 196), (81, 194)] [] (by kernel_rfl) (by kernel_rfl) rfl Free.Bel.refl ?_ ?_
  rotate_left 2
  simp only [an1, an2]
  rotate_left
  iterate 2 (rotate_left; intro ev W hb hR hO hD; have hS := hF W hR; obtain ⟨hb1, hb2, hb3⟩ := hb; simp only [Free.AllDeps, Free.AllOuts, Free.At, al1, al2, al3, al4, al5, and_true] at hO hD; go_simp; rfl)
  refine Free.Chain.exG ?_ [(84, 197)] [22] 84 false 197 (by kernel_rfl) (by kernel_rfl) rfl (by kernel_rfl) Free.Bel.refl ?_ ?_
  rotate_left 2
  simp only [an1, an2]
  refine Free.Chain.exG ?_ [(85, 198), (84, 197)] [] 84 false 197 (by kernel_rfl) (by kernel_rfl) rfl (by kernel_rfl) Free.Bel.refl ?_ ?_
  rotate_left 2
  simp only [an1, an2]
  rotate_left
  iterate 2 (rotate_left; intro ev W hb hR hO hD; have hS := hF W hR; obtain ⟨hb1, hb2, hb3⟩ := hb; simp only [Free.AllDeps, Free.AllOuts, Free.At, al1, al2, al3, al4, al5, and_true] at hO hD; refine ⟨by simp [hD], ?_⟩; go_simp; rfl)
  refine Free.Chain.ex ?_ [(84, 197), (86, 199)] [] (by kernel_rfl) (by kernel_rfl) rfl Free.Bel.refl ?_ ?_
  rotate_left 2
  simp only [an1, an2]
  refine Free.Chain.ex ?_ [(87, 200), (84, 197)] [] (by kernel_rfl) (by kernel_rfl) rfl Free.Bel.refl ?_ ?_
  rotate_left 2
  simp only [an1, an2]
  rotate_left
  iterate 2 (rotate_left; intro ev W hb hR hO hD; have hS := hF W hR; obtain ⟨hb1, hb2, hb3⟩ := hb; simp only [Free.AllDeps, Free.AllOuts, Free.At, al1, al2, al3, al4, al5, and_true] at hO hD; go_simp; rfl)
  refine Free.Chain.exG ?_ [(88, 201)] [21] 88 false 201 (by kernel_rfl) (by kernel_rfl) rfl (by kernel_rfl) Free.Bel.refl ?_ ?_
  rotate_left 2
  simp only [an1, an2]
  refine Free.Chain.exG ?_ [(89, 202), (88, 201)] [] 88 false 201 (by kernel_rfl) (by kernel_rfl) rfl (by kernel_rfl) Free.Bel.refl ?_ ?_
  rotate_left 2
  simp only [an1, an2]
  rotate_left
  iterate 2 (rotate_left; intro ev W hb hR hO hD; have hS := hF W hR; obtain ⟨hb1, hb2, hb3⟩ := hb; simp only [Free.AllDeps, Free.AllOuts, Free.At, al1, al2, al3, al4, al5, and_true] at hO hD; refine ⟨by simp [hD], ?_⟩; go_simp; rfl)
  refine Free.Chain.ex ?_ [(88, 201), (90, 203)] [] (by kernel_rfl) (by kernel_rfl) rfl Free.Bel.refl ?_ ?_
  rotate_left 2
  simp only [an1, an2]
  refine Free.Chain.ex ?_ [(91, 204), (88, 201)] [] (by kernel_rfl) (by kernel_rfl) rfl Free.Bel.refl ?_ ?_
  rotate_left 2
  simp only [an1, an2]
  rotate_left
  iterate 2 (rotate_left; intro ev W hb hR hO hD; have hS := hF W hR; obtain ⟨hb1, hb2, hb3⟩ := hb; simp only [Free.AllDeps, Free.AllOuts, Free.At, al1, al2, al3, al4, al5, and_true] at hO hD; go_simp; rfl)
  refine Free.Chain.exG ?_ [(92, 205)] [24] 92 false 205 (by kernel_rfl) (by kernel_rfl) rfl (by kernel_rfl) Free.Bel.refl ?_ ?_
  rotate_left 2
  simp only [an1, an2]
  refine Free.Chain.exG ?_ [(93, 206), (92, 205)] [] 92 false 205 (by kernel_rfl) (by kernel_rfl) rfl (by kernel_rfl) Free.Bel.refl ?_ ?_
  rotate_left 2
  simp only [an1, an2]
  rotate_left
  iterate 2 (rotate_left; intro ev W hb hR hO hD; have hS := hF W hR; obtain ⟨hb1, hb2, hb3⟩ := hb; simp only [Free.AllDeps, Free.AllOuts, Free.At, al1, al2, al3, al4, al5, and_true] at hO hD; refine ⟨by simp [hD], ?_⟩; go_simp; rfl)
  refine Free.Chain.ex ?_ [(92, 205), (94, 207)] [] (by kernel_rfl) (by kernel_rfl) rfl Free.Bel.refl ?_ ?_
  rotate_left 2
  simp only [an1, an2]
  refine Free.Chain.ex ?_ [(95, 208), (92, 205)] [] (by kernel_rfl) (by kernel_rfl) rfl Free.Bel.refl ?_ ?_
  rotate_left 2
  simp only [an1, an2]
  rotate_left
  iterate 2 (rotate_left; intro ev W hb hR hO hD; have hS := hF W hR; obtain ⟨hb1, hb2, hb3⟩ := hb; simp only [Free.AllDeps, Free.AllOuts, Free.At, al1, al2, al3, al4, al5, and_true] at hO hD; go_simp; rfl)
  refine Free.Chain.exG ?_ [(96, 209)] [23] 96 false 209 (by kernel_rfl) (by kernel_rfl) rfl (by kernel_rfl) Free.Bel.refl ?_ ?_
  rotate_left 2
  simp only [an1, an2]
  refine Free.Chain.exG ?_ [(97, 210), (96, 209)] [] 96 false 209 (by kernel_rfl) (by kernel_rfl) rfl (by kernel_rfl) Free.Bel.refl ?_ ?_
  rotate_left 2
  simp only [an1, an2]
  rotate_left
  iterate 2 (rotate_left; intro ev W hb hR hO hD; have hS := hF W hR; obtain ⟨hb1, hb2, hb3⟩ := hb; simp only [Free.AllDeps, Free.AllOuts, Free.At, al1, al2, al3, al4, al5, and_true] at hO hD; refine ⟨by simp [hD], ?_⟩; go_simp; rfl)
  refine Free.Chain.ex ?_ [(96, 209), (98, 211)] [] (by kernel_rfl) (by kernel_rfl) rfl Free.Bel.refl ?_ ?_
  rotate_left 2
  simp only [an1, an2]
  rotate_left
  rotate_left
  · (intro ev W hb hR hO hD; have hS := hF W hR; obtain ⟨hb1, hb2, hb3⟩ := hb; simp only [Free.AllDeps, Free.AllOuts, Free.At, al1, al2, al3, al4, al5, and_true] at hO hD; go_simp; rfl)
  intro ys w20 hR hV
  rw [List.append_eq] at hV ⊢
  simp only [List.cons_append, List.nil_append] at hV ⊢
  simp only [Free.AllV, Free.At, List.length_cons, List.length_nil, Nat.reduceAdd, List.getElem?_cons_succ, List.getElem?_cons_zero, true_and, and_true] at hV
  simp only [Free.putsFrom, Act.put, Nat.zero_add, Nat.reduceAdd, hV, List.setIfInBounds_toArray, List.set_cons_succ, List.set_cons_zero]
  have hN := hF w20 hR
  clear hR hF
  have HB_w20 := Lib.hid (HB_w19.out.trans ((hN).mono hz_w19))
  have hz_w20 : bb ≤ w20.heap.size := Nat.le_trans hz_w19 (hN).size
  have FN := fun (W : World) (hW : Free.Bel w20 W) => FA W (bt (hN) hW)
  clear FA HB_w19 hz_w19 KR
  have FA := FN
  clear FN
  have KR := Free.Bel.refl w20
  clear hN hV
  go_wp2_with fail
  refine (drawn_any 3 1 _).mono ?_
  rintro e w21 ⟨rfl, hB⟩
  have HB_w21 := Lib.hid (HB_w20.out.trans ((hB).mono hz_w20))
  have hz_w21 : bb ≤ w21.heap.size := Nat.le_trans hz_w20 (hB).size
  have FN := fun (W : World) (hW : Free.Bel w21 W) => FA W (bt (hB) hW)
  clear FA HB_w20 hz_w20 KR
  have FA := FN
  clear FN
  have KR := Free.Bel.refl w21
  clear hB
  go_wp2_with fail
  refine (drawn_any 10 1 _).mono ?_
  rintro e w22 ⟨rfl, hB⟩
  have HB_w22 := Lib.hid (HB_w21.out.trans ((hB).mono hz_w21))
  have hz_w22 : bb ≤ w22.heap.size := Nat.le_trans hz_w21 (hB).size
  have FN := fun (W : World) (hW : Free.Bel w22 W) => FA W (bt (hB) hW)
  clear FA HB_w21 hz_w21 KR
  have FA := FN
  clear FN
  have KR := Free.Bel.refl w22
  clear hB
  go_wp2_with fail
  refine (drawn_any 20 1 _).mono ?_
  rintro e w23 ⟨rfl, hB⟩
  have HB_w23 := Lib.hid (HB_w22.out.trans ((hB).mono hz_w22))
  have hz_w23 : bb ≤ w23.heap.size := Nat.le_trans hz_w22 (hB).size
  have FN := fun (W : World) (hW : Free.Bel w23 W) => FA W (bt (hB) hW)
  clear FA HB_w22 hz_w22 KR
  have FA := FN
  clear FN
  have KR := Free.Bel.refl w23
  clear hB
  go_wp2_with fail
  refine (drawn_any 3 0 _).mono ?_
  rintro e w24 ⟨rfl, hB⟩
  have HB_w24 := Lib.hid (HB_w23.out.trans ((hB).mono hz_w23))
  have hz_w24 : bb ≤ w24.heap.size := Nat.le_trans hz_w23 (hB).size
  have FN := fun (W : World) (hW : Free.Bel w24 W) => FA W (bt (hB) hW)
  clear FA HB_w23 hz_w23 KR
  have FA := FN
  clear FN
  have KR := Free.Bel.refl w24
  clear hB
  go_wp2_with fail
  have hN : Free.Bel w24 (w24.alloc (.cells #[.int .i64 3, .int .i64 1, .int .i64 10, .int .i64 1, .int .i64 20, .int .i64 1, .int .i64 3, .int .i64 0] 37)) := (Bel.allocT (Free.Bel.refl w24) _)
  have n_g240_0 : (w24.alloc (.cells #[.int .i64 3, .int .i64 1, .int .i64 10, .int .i64 1, .int .i64 20, .int .i64 1, .int .i64 3, .int .i64 0] 37)).cell? ⟨w24.heap.size, 0, none⟩ = some (.int .i64 3) := by simp [go_sem]
  have n_g240_1 : (w24.alloc (.cells #[.int .i64 3, .int .i64 1, .int .i64 10, .int .i64 1, .int .i64 20, .int .i64 1, .int .i64 3, .int .i64 0] 37)).cell? ⟨w24.heap.size, 1, none⟩ = some (.int .i64 1) := by simp [go_sem]
  have n_g240_2 : (w24.alloc (.cells #[.int .i64 3, .int .i64 1, .int .i64 10, .int .i64 1, .int .i64 20, .int .i64 1, .int .i64 3, .int .i64 0] 37)).cell? ⟨w24.heap.size, 2, none⟩ = some (.int .i64 10) := by simp [go_sem]
  have n_g240_3 : (w24.alloc (.cells #[.int .i64 3, .int .i64 1, .int .i64 10, .int .i64 1, .int .i64 20, .int .i64 1, .int .i64 3, .int .i64 0] 37)).cell? ⟨w24.heap.size, 3, none⟩ = some (.int .i64 1) := by simp [go_sem]
  have n_g240_4 : (w24.alloc (.cells #[.int .i64 3, .int .i64 1, .int .i64 10, .int .i64 1, .int .i64 20, .int .i64 1, .int .i64 3, .int .i64 0] 37)).cell? ⟨w24.heap.size, 4, none⟩ = some (.int .i64 20) := by simp [go_sem]
  have n_g240_5 : (w24.alloc (.cells #[.int .i64 3, .int .i64 1, .int .i64 10, .int .i64 1, .int .i64 20, .int .i64 1, .int .i64 3, .int .i64 0] 37)).cell? ⟨w24.heap.size, 5, none⟩ = some (.int .i64 1) := by simp [go_sem]
  have n_g240_6 : (w24.alloc (.cells #[.int .i64 3, .int .i64 1, .int .i64 10, .int .i64 1, .int .i64 20, .int .i64 1, .int .i64 3, .int .i64 0] 37)).cell? ⟨w24.heap.size, 6, none⟩ = some (.int .i64 3) := by simp [go_sem]
  have n_g240_7 : (w24.alloc (.cells #[.int .i64 3, .int .i64 1, .int .i64 10, .int .i64 1, .int .i64 20, .int .i64 1, .int .i64 3, .int .i64 0] 37)).cell? ⟨w24.heap.size, 7, none⟩ = some (.int .i64 0) := by simp [go_sem]
  generalize (w24.alloc (.cells #[.int .i64 3, .int .i64 1, .int .i64 10, .int .i64 1, .int .i64 20, .int .i64 1, .int .i64 3, .int .i64 0] 37)) = w25 at *
  obtain ⟨g240, hgz⟩ : ∃ x, x = w24.heap.size := ⟨_, rfl⟩
  rw [← hgz] at n_g240_0 n_g240_1 n_g240_2 n_g240_3 n_g240_4 n_g240_5 n_g240_6 n_g240_7 ⊢
  clear hgz
  have HB_w25 := Lib.hid (HB_w24.out.trans ((hN).mono hz_w24))
  have hz_w25 : bb ≤ w25.heap.size := Nat.le_trans hz_w24 (hN).size
  have FN := fun (W : World) (hW : Free.Bel w25 W) => And.intro (keepsB hW n_g240_0) (And.intro (keepsB hW n_g240_1) (And.intro (keepsB hW n_g240_2) (And.intro (keepsB hW n_g240_3) (And.intro (keepsB hW n_g240_4) (And.intro (keepsB hW n_g240_5) (And.intro (keepsB hW n_g240_6) (And.intro (keepsB hW n_g240_7) (FA W (bt (hN) hW)))))))))
  clear FA HB_w24 hz_w24 KR
  have FA := FN
  clear FN
  have KR := Free.Bel.refl w25
  clear hN n_g240_0 n_g240_1 n_g240_2 n_g240_3 n_g240_4 n_g240_5 n_g240_6 n_g240_7
  go_loopw [219] (fun i wr => ∃ j : Nat, j ≤ 4 ∧ i = .int .i64 j ∧ Free.Bel w25 wr) (fun i _ => 4 - (intOf i).toNat)
  case atStart => exact ⟨0, by omega, rfl, Free.Bel.refl _⟩
  case round =>
    obtain ⟨j, hj, rfl, HKr⟩ := hrel
    have HB_wr := Lib.hid (HB_w25.out.trans ((HKr).mono hz_w25))
    have hz_wr : bb ≤ wr.heap.size := Nat.le_trans hz_w25 (HKr).size
    have FN := fun (W : World) (hW : Free.Bel wr W) => FA W (bt (HKr) hW)
    clear FA HB_w25 hz_w25 KR
    have FA := FN
    clear FN
    have KR := Free.Bel.refl wr
    have HWR : Free.Bel wr wr := Free.Bel.refl _
    have HL_wr : Free.Bel w25 wr := HKr
    clear HKr
    rcases (show j = 0 ∨ j = 1 ∨ j = 2 ∨ j = 3 ∨ j = 4 by omega) with rfl | rfl | rfl | rfl | rfl
    · skip
      go_wp2_with fail
      have hN : Free.Bel wr (wr.alloc (.cells #[.int .i64 3, .int .i64 1] 37)) := (Bel.allocT (Free.Bel.refl wr) _)
      have n_g250_0 : (wr.alloc (.cells #[.int .i64 3, .int .i64 1] 37)).cell? ⟨wr.heap.size, 0, none⟩ = some (.int .i64 3) := by simp [go_sem]
      have n_g250_1 : (wr.alloc (.cells #[.int .i64 3, .int .i64 1] 37)).cell? ⟨wr.heap.size, 1, none⟩ = some (.int .i64 1) := by simp [go_sem]
      generalize (wr.alloc (.cells #[.int .i64 3, .int .i64 1] 37)) = w26 at *
      obtain ⟨g250, hgz⟩ : ∃ x, x = wr.heap.size := ⟨_, rfl⟩
      rw [← hgz] at n_g250_0 n_g250_1 ⊢
      clear hgz
      have HB_w26 := Lib.hid (HB_wr.out.trans ((hN).mono hz_wr))
      have hz_w26 : bb ≤ w26.heap.size := Nat.le_trans hz_wr (hN).size
      have HL_w26 : Free.Bel w25 w26 := bt HL_wr (hN)
      clear HL_wr
      have FN := fun (W : World) (hW : Free.Bel w26 W) => And.intro (keepsB hW n_g250_0) (And.intro (keepsB hW n_g250_1) (FA W (bt (hN) hW)))
      clear FA HB_wr hz_wr KR
      have FA := FN
      clear FN
      have KR := Free.Bel.refl w26
      clear hN n_g250_0 n_g250_1
      have hF : ∀ W, Free.Bel w26.drew W → Free.Bel w26 W := fun W hW => bt (Bel.drewT (Free.Bel.refl _)) hW
      refine Free.wp_free (R := Free.Bel) (by kernel_rfl) (by kernel_rfl) Free.Bel.refl Free.Bel.trans ?_
      refine Free.Chain.pr (TrmV) [] [] (by kernel_rfl) (by kernel_rfl) rfl (fun _ _ _ hB h => h.bel hB) ?_ ?_
      · (intro ev W hb hR hO hD; have hS := hF W hR; obtain ⟨hb1, hb2, hb3⟩ := hb; simp only [Free.AllDeps, Free.AllOuts, Free.At, al1, al2, al3, al4, al5, and_true] at hO hD; go_simp; refine yields_enter ?_; (with_reducible refine (terms_heap _).mono ?_); rintro e W2 ⟨⟨v9, rfl, ht9⟩, hB2⟩; exact ⟨_, rfl, hB2, ht9⟩)
      simp only [an1, an2]
      refine Free.Chain.ex ?_ [] [26] (by kernel_rfl) (by kernel_rfl) rfl Free.Bel.refl ?_ ?_
      rotate_left 2
      simp only [an1, an2]
      rotate_left
      rotate_left
      · (intro ev W hb hR hO hD; have hS := hF W hR; obtain ⟨hb1, hb2, hb3⟩ := hb; simp only [Free.AllDeps, Free.AllOuts, Free.At, al1, al2, al3, al4, al5, and_true] at hO hD; go_simp; rfl)
      refine Free.Chain.pr (fun v _ => v = .tuple #[.int .i64 1000, .int .i64 0]) [(0, 225), (1, 226), (0, 225)] [] (by kernel_rfl) (by kernel_rfl) rfl (fun _ _ _ _ h => h) ?_ ?_
      · (intro ev W hb hR hO hD; have hS := hF W hR; obtain ⟨hb1, hb2, hb3⟩ := hb; simp only [Free.AllDeps, Free.AllOuts, Free.At, al1, al2, al3, al4, al5, and_true] at hO hD; have ht9 := hD.1.pl; go_simp; refine yields_enter ?_; (with_reducible refine (ex_off trm _ _ 3 1 _ ht9 off1).mono ?_); rintro e W2 ⟨rfl, hB2⟩; exact ⟨_, rfl, hB2, rfl⟩)
      simp only [an1, an2]
      refine Free.Chain.ex ?_ [(2, 227)] [] (by kernel_rfl) (by kernel_rfl) rfl Free.Bel.refl ?_ ?_
      rotate_left 2
      simp only [an1, an2]
      refine Free.Chain.ex ?_ [(3, 224)] [] (by kernel_rfl) (by kernel_rfl) rfl Free.Bel.refl ?_ ?_
      rotate_left 2
      simp only [an1, an2]
      refine Free.Chain.ex ?_ [(3, 224)] [] (by kernel_rfl) (by kernel_rfl) rfl Free.Bel.refl ?_ ?_
      rotate_left 2
      simp only [an1, an2]
      refine Free.Chain.ex ?_ [(4, 228), (2, 227), (0, 225), (1, 226), (2, 227), (3, 224), (4, 228)] [] (by kernel_rfl) (by kernel_rfl) rfl Free.Bel.refl ?_ ?_
      rotate_left 2
      simp only [an1, an2]
      refine Free.Chain.ex ?_ [(5, 229), (6, 27), (0, 225), (1, 226), (2, 227), (3, 224), (4, 228), (5, 229), (6, 27)] [] (by kernel_rfl) (by kernel_rfl) rfl Free.Bel.refl ?_ ?_
      rotate_left 2
      simp only [an1, an2]
      rotate_left
      iterate 5 (rotate_left; intro ev W hb hR hO hD; have hS := hF W hR; obtain ⟨hb1, hb2, hb3⟩ := hb; simp only [Free.AllDeps, Free.AllOuts, Free.At, al1, al2, al3, al4, al5, and_true] at hO hD; go_simp; rfl)
      intro ys w27 hR hV
      simp only [Free.AllV, Free.At, List.length_cons, List.length_nil, Nat.reduceAdd, List.getElem?_cons_succ, List.getElem?_cons_zero, true_and, and_true] at hV
      simp only [Free.putsFrom, Act.put, Nat.zero_add, Nat.reduceAdd, hV, List.setIfInBounds_toArray, List.set_cons_succ, List.set_cons_zero]
      have hN := hF w27 hR
      clear hR hF
      have HB_w27 := Lib.hid (HB_w26.out.trans ((hN).mono hz_w26))
      have hz_w27 : bb ≤ w27.heap.size := Nat.le_trans hz_w26 (hN).size
      have HL_w27 : Free.Bel w25 w27 := bt HL_w26 (hN)
      clear HL_w26
      have FN := fun (W : World) (hW : Free.Bel w27 W) => FA W (bt (hN) hW)
      clear FA HB_w26 hz_w26 KR
      have FA := FN
      clear FN
      have KR := Free.Bel.refl w27
      clear hN hV
      have KA0 : Free.Bel w27 (w27.alloc (.cells #[.int .i64 1000, .int .i64 300, .int .i64 100, .int .i64 0] 3)) := belAlloc _ _
      go_wp2_with fail
      exact ⟨⟨1, by omega, rfl, bt HL_w27 (belAlloc _ _)⟩, by simp [intOf]⟩
    · skip
      go_wp2_with fail
      have hN : Free.Bel wr (wr.alloc (.cells #[.int .i64 10, .int .i64 1] 37)) := (Bel.allocT (Free.Bel.refl wr) _)
      have n_g270_0 : (wr.alloc (.cells #[.int .i64 10, .int .i64 1] 37)).cell? ⟨wr.heap.size, 0, none⟩ = some (.int .i64 10) := by simp [go_sem]
      have n_g270_1 : (wr.alloc (.cells #[.int .i64 10, .int .i64 1] 37)).cell? ⟨wr.heap.size, 1, none⟩ = some (.int .i64 1) := by simp [go_sem]
      generalize (wr.alloc (.cells #[.int .i64 10, .int .i64 1] 37)) = w28 at *
      obtain ⟨g270, hgz⟩ : ∃ x, x = wr.heap.size := ⟨_, rfl⟩
      rw [← hgz] at n_g270_0 n_g270_1 ⊢
      clear hgz
      have HB_w28 := Lib.hid (HB_wr.out.trans ((hN).mono hz_wr))
      have hz_w28 : bb ≤ w28.heap.size := Nat.le_trans hz_wr (hN).size
      have HL_w28 : Free.Bel w25 w28 := bt HL_wr (hN)
      clear HL_wr
      have FN := fun (W : World) (hW : Free.Bel w28 W) => And.intro (keepsB hW n_g270_0) (And.intro (keepsB hW n_g270_1) (FA W (bt (hN) hW)))
      clear FA HB_wr hz_wr KR
      have FA := FN
      clear FN
      have KR := Free.Bel.refl w28
      clear hN n_g270_0 n_g270_1
      have hF : ∀ W, Free.Bel w28.drew W → Free.Bel w28 W := fun W hW => bt (Bel.drewT (Free.Bel.refl _)) hW
      refine Free.wp_free (R := Free.Bel) (by kernel_rfl) (by kernel_rfl) Free.Bel.refl Free.Bel.trans ?_
      refine Free.Chain.pr (TrmV) [] [] (by kernel_rfl) (by kernel_rfl) rfl (fun _ _ _ hB h => h.bel hB) ?_ ?_
      · (intro ev W hb hR hO hD; have hS := hF W hR; obtain ⟨hb1, hb2, hb3⟩ := hb; simp only [Free.AllDeps, Free.AllOuts, Free.At, al1, al2, al3, al4, al5, and_true] at hO hD; go_simp; refine yields_enter ?_; (with_reducible refine (terms_heap _).mono ?_); rintro e W2 ⟨⟨v9, rfl, ht9⟩, hB2⟩; exact ⟨_, rfl, hB2, ht9⟩)
      simp only [an1, an2]
      refine Free.Chain.ex ?_ [] [26] (by kernel_rfl) (by kernel_rfl) rfl Free.Bel.refl ?_ ?_
      rotate_left 2
      simp only [an1, an2]
      rotate_left
      rotate_left
      · (intro ev W hb hR hO hD; have hS := hF W hR; obtain ⟨hb1, hb2, hb3⟩ := hb; simp only [Free.AllDeps, Free.AllOuts, Free.At, al1, al2, al3, al4, al5, and_true] at hO hD; go_simp; rfl)
      refine Free.Chain.pr (fun v _ => v = .tuple #[.int .i64 300, .int .i64 0]) [(0, 225), (1, 226), (0, 225)] [] (by kernel_rfl) (by kernel_rfl) rfl (fun _ _ _ _ h => h) ?_ ?_
      · (intro ev W hb hR hO hD; have hS := hF W hR; obtain ⟨hb1, hb2, hb3⟩ := hb; simp only [Free.AllDeps, Free.AllOuts, Free.At, al1, al2, al3, al4, al5, and_true] at hO hD; have ht9 := hD.1.pl; go_simp; refine yields_enter ?_; (with_reducible refine (ex_off trm _ _ 10 1 _ ht9 off2).mono ?_); rintro e W2 ⟨rfl, hB2⟩; exact ⟨_, rfl, hB2, rfl⟩)
      simp only [an1, an2]
      refine Free.Chain.ex ?_ [(2, 227)] [] (by kernel_rfl) (by kernel_rfl) rfl Free.Bel.refl ?_ ?_
      rotate_left 2
      simp only [an1, an2]
      refine Free.Chain.ex ?_ [(3, 224)] [] (by kernel_rfl) (by kernel_rfl) rfl Free.Bel.refl ?_ ?_
      rotate_left 2
      simp only [an1, an2]
      refine Free.Chain.ex ?_ [(3, 224)] [] (by kernel_rfl) (by kernel_rfl) rfl Free.Bel.refl ?_ ?_
      rotate_left 2
      simp only [an1, an2]
      refine Free.Chain.ex ?_ [(4, 228), (2, 227), (0, 225), (1, 226), (2, 227), (3, 224), (4, 228)] [] (by kernel_rfl) (by kernel_rfl) rfl Free.Bel.refl ?_ ?_
      rotate_left 2
      simp only [an1, an2]
      refine Free.Chain.ex ?_ [(5, 229), (6, 27), (0, 225), (1, 226), (2, 227), (3, 224), (4, 228), (5, 229), (6, 27)] [] (by kernel_rfl) (by kernel_rfl) rfl Free.Bel.refl ?_ ?_
      rotate_left 2
      simp only [an1, an2]
      rotate_left
      iterate 5 (rotate_left; intro ev W hb hR hO hD; have hS := hF W hR; obtain ⟨hb1, hb2, hb3⟩ := hb; simp only [Free.AllDeps, Free.AllOuts, Free.At, al1, al2, al3, al4, al5, and_true] at hO hD; go_simp; rfl)
      intro ys w29 hR hV
      simp only [Free.AllV, Free.At, List.length_cons, List.length_nil, Nat.reduceAdd, List.getElem?_cons_succ, List.getElem?_cons_zero, true_and, and_true] at hV
      simp only [Free.putsFrom, Act.put, Nat.zero_add, Nat.reduceAdd, hV, List.setIfInBounds_toArray, List.set_cons_succ, List.set_cons_zero]
      have hN := hF w29 hR
      clear hR hF
      have HB_w29 := Lib.hid (HB_w28.out.trans ((hN).mono hz_w28))
      have hz_w29 : bb ≤ w29.heap.size := Nat.le_trans hz_w28 (hN).size
      have HL_w29 : Free.Bel w25 w29 := bt HL_w28 (hN)
      clear HL_w28
      have FN := fun (W : World) (hW : Free.Bel w29 W) => FA W (bt (hN) hW)
      clear FA HB_w28 hz_w28 KR
      have FA := FN
      clear FN
      have KR := Free.Bel.refl w29
      clear hN hV
      have KA0 : Free.Bel w29 (w29.alloc (.cells #[.int .i64 1000, .int .i64 300, .int .i64 100, .int .i64 0] 3)) := belAlloc _ _
      go_wp2_with fail
      exact ⟨⟨2, by omega, rfl, bt HL_w29 (belAlloc _ _)⟩, by simp [intOf]⟩
    · skip
      go_wp2_with fail
      have hN : Free.Bel wr (wr.alloc (.cells #[.int .i64 20, .int .i64 1] 37)) := (Bel.allocT (Free.Bel.refl wr) _)
      have n_g290_0 : (wr.alloc (.cells #[.int .i64 20, .int .i64 1] 37)).cell? ⟨wr.heap.size, 0, none⟩ = some (.int .i64 20) := by simp [go_sem]
      have n_g290_1 : (wr.alloc (.cells #[.int .i64 20, .int .i64 1] 37)).cell? ⟨wr.heap.size, 1, none⟩ = some (.int .i64 1) := by simp [go_sem]
      generalize (wr.alloc (.cells #[.int .i64 20, .int .i64 1] 37)) = w30 at *
      obtain ⟨g290, hgz⟩ : ∃ x, x = wr.heap.size := ⟨_, rfl⟩
      rw [← hgz] at n_g290_0 n_g290_1 ⊢
      clear hgz
      have HB_w30 := Lib.hid (HB_wr.out.trans ((hN).mono hz_wr))
      have hz_w30 : bb ≤ w30.heap.size := Nat.le_trans hz_wr (hN).size
      have HL_w30 : Free.Bel w25 w30 := bt HL_wr (hN)
      clear HL_wr
      have FN := fun (W : World) (hW : Free.Bel w30 W) => And.intro (keepsB hW n_g290_0) (And.intro (keepsB hW n_g290_1) (FA W (bt (hN) hW)))
      clear FA HB_wr hz_wr KR
      have FA := FN
      clear FN
      have KR := Free.Bel.refl w30
      clear hN n_g290_0 n_g290_1
      have hF : ∀ W, Free.Bel w30.drew W → Free.Bel w30 W := fun W hW => bt (Bel.drewT (Free.Bel.refl _)) hW
      refine Free.wp_free (R := Free.Bel) (by kernel_rfl) (by kernel_rfl) Free.Bel.refl Free.Bel.trans ?_
      refine Free.Chain.pr (TrmV) [] [] (by kernel_rfl) (by kernel_rfl) rfl (fun _ _ _ hB h => h.bel hB) ?_ ?_
      · (intro ev W hb hR hO hD; have hS := hF W hR; obtain ⟨hb1, hb2, hb3⟩ := hb; simp only [Free.AllDeps, Free.AllOuts, Free.At, al1, al2, al3, al4, al5, and_true] at hO hD; go_simp; refine yields_enter ?_; (with_reducible refine (terms_heap _).mono ?_); rintro e W2 ⟨⟨v9, rfl, ht9⟩, hB2⟩; exact ⟨_, rfl, hB2, ht9⟩)
      simp only [an1, an2]
      refine Free.Chain.ex ?_ [] [26] (by kernel_rfl) (by kernel_rfl) rfl Free.Bel.refl ?_ ?_
      rotate_left 2
      simp only [an1, an2]
      rotate_left
      rotate_left
      · (intro ev W hb hR hO hD; have hS := hF W hR; obtain ⟨hb1, hb2, hb3⟩ := hb; simp only [Free.AllDeps, Free.AllOuts, Free.At, al1, al2, al3, al4, al5, and_true] at hO hD; go_simp; rfl)
      refine Free.Chain.pr (fun v _ => v = .tuple #[.int .i64 100, .int .i64 0]) [(0, 225), (1, 226), (0, 225)] [] (by kernel_rfl) (by kernel_rfl) rfl (fun _ _ _ _ h => h) ?_ ?_
      · (intro ev W hb hR hO hD; have hS := hF W hR; obtain ⟨hb1, hb2, hb3⟩ := hb; simp only [Free.AllDeps, Free.AllOuts, Free.At, al1, al2, al3, al4, al5, and_true] at hO hD; have ht9 := hD.1.pl; go_simp; refine yields_enter ?_; (with_reducible refine (ex_off trm _ _ 20 1 _ ht9 off3).mono ?_); rintro e W2 ⟨rfl, hB2⟩; exact ⟨_, rfl, hB2, rfl⟩)
      simp only [an1, an2]
      refine Free.Chain.ex ?_ [(2, 227)] [] (by kernel_rfl) (by kernel_rfl) rfl Free.Bel.refl ?_ ?_
      rotate_left 2
      simp only [an1, an2]
      refine Free.Chain.ex ?_ [(3, 224)] [] (by kernel_rfl) (by kernel_rfl) rfl Free.Bel.refl ?_ ?_
      rotate_left 2
      simp only [an1, an2]
      refine Free.Chain.ex ?_ [(3, 224)] [] (by kernel_rfl) (by kernel_rfl) rfl Free.Bel.refl ?_ ?_
      rotate_left 2
      simp only [an1, an2]
      refine Free.Chain.ex ?_ [(4, 228), (2, 227), (0, 225), (1, 226), (2, 227), (3, 224), (4, 228)] [] (by kernel_rfl) (by kernel_rfl) rfl Free.Bel.refl ?_ ?_
      rotate_left 2
      simp only [an1, an2]
      refine Free.Chain.ex ?_ [(5, 229), (6, 27), (0, 225), (1, 226), (2, 227), (3, 224), (4, 228), (5, 229), (6, 27)] [] (by kernel_rfl) (by kernel_rfl) rfl Free.Bel.refl ?_ ?_
      rotate_left 2
      simp only [an1, an2]
      rotate_left
      iterate 5 (rotate_left; intro ev W hb hR hO hD; have hS := hF W hR; obtain ⟨hb1, hb2, hb3⟩ := hb; simp only [Free.AllDeps, Free.AllOuts, Free.At, al1, al2, al3, al4, al5, and_true] at hO hD; go_simp; rfl)
      intro ys w31 hR hV
      simp only [Free.AllV, Free.At, List.length_cons, List.length_nil, Nat.reduceAdd, List.getElem?_cons_succ, List.getElem?_cons_zero, true_and, and_true] at hV
      simp only [Free.putsFrom, Act.put, Nat.zero_add, Nat.reduceAdd, hV, List.setIfInBounds_toArray, List.set_cons_succ, List.set_cons_zero]
      have hN := hF w31 hR
      clear hR hF
      have HB_w31 := Lib.hid (HB_w30.out.trans ((hN).mono hz_w30))
      have hz_w31 : bb ≤ w31.heap.size := Nat.le_trans hz_w30 (hN).size
      have HL_w31 : Free.Bel w25 w31 := bt HL_w30 (hN)
      clear HL_w30
      have FN := fun (W : World) (hW : Free.Bel w31 W) => FA W (bt (hN) hW)
      clear FA HB_w30 hz_w30 KR
      have FA := FN
      clear FN
      have KR := Free.Bel.refl w31
      clear hN hV
      have KA0 : Free.Bel w31 (w31.alloc (.cells #[.int .i64 1000, .int .i64 300, .int .i64 100, .int .i64 0] 3)) := belAlloc _ _
      go_wp2_with fail
      exact ⟨⟨3, by omega, rfl, bt HL_w31 (belAlloc _ _)⟩, by simp [intOf]⟩
    · skip
      go_wp2_with fail
      have hN : Free.Bel wr (wr.alloc (.cells #[.int .i64 3, .int .i64 0] 37)) := (Bel.allocT (Free.Bel.refl wr) _)
      have n_g310_0 : (wr.alloc (.cells #[.int .i64 3, .int .i64 0] 37)).cell? ⟨wr.heap.size, 0, none⟩ = some (.int .i64 3) := by simp [go_sem]
      have n_g310_1 : (wr.alloc (.cells #[.int .i64 3, .int .i64 0] 37)).cell? ⟨wr.heap.size, 1, none⟩ = some (.int .i64 0) := by simp [go_sem]
      generalize (wr.alloc (.cells #[.int .i64 3, .int .i64 0] 37)) = w32 at *
      obtain ⟨g310, hgz⟩ : ∃ x, x = wr.heap.size := ⟨_, rfl⟩
      rw [← hgz] at n_g310_0 n_g310_1 ⊢
      clear hgz
      have HB_w32 := Lib.hid (HB_wr.out.trans ((hN).mono hz_wr))
      have hz_w32 : bb ≤ w32.heap.size := Nat.le_trans hz_wr (hN).size
      have HL_w32 : Free.Bel w25 w32 := bt HL_wr (hN)
      clear HL_wr
      have FN := fun (W : World) (hW : Free.Bel w32 W) => And.intro (keepsB hW n_g310_0) (And.intro (keepsB hW n_g310_1) (FA W (bt (hN) hW)))
      clear FA HB_wr hz_wr KR
      have FA := FN
      clear FN
      have KR := Free.Bel.refl w32
      clear hN n_g310_0 n_g310_1
      have hF : ∀ W, Free.Bel w32.drew W → Free.Bel w32 W := fun W hW => bt (Bel.drewT (Free.Bel.refl _)) hW
      refine Free.wp_free (R := Free.Bel) (by kernel_rfl) (by kernel_rfl) Free.Bel.refl Free.Bel.trans ?_
      refine Free.Chain.pr (TrmV) [] [] (by kernel_rfl) (by kernel_rfl) rfl (fun _ _ _ hB h => h.bel hB) ?_ ?_
      · (intro ev W hb hR hO hD; have hS := hF W hR; obtain ⟨hb1, hb2, hb3⟩ := hb; simp only [Free.AllDeps, Free.AllOuts, Free.At, al1, al2, al3, al4, al5, and_true] at hO hD; go_simp; refine yields_enter ?_; (with_reducible refine (terms_heap _).mono ?_); rintro e W2 ⟨⟨v9, rfl, ht9⟩, hB2⟩; exact ⟨_, rfl, hB2, ht9⟩)
      simp only [an1, an2]
      refine Free.Chain.ex ?_ [] [26] (by kernel_rfl) (by kernel_rfl) rfl Free.Bel.refl ?_ ?_
      rotate_left 2
      simp only [an1, an2]
      rotate_left
      rotate_left
      · (intro ev W hb hR hO hD; have hS := hF W hR; obtain ⟨hb1, hb2, hb3⟩ := hb; simp only [Free.AllDeps, Free.AllOuts, Free.At, al1, al2, al3, al4, al5, and_true] at hO hD; go_simp; rfl)
      refine Free.Chain.pr (fun v _ => v = .tuple #[.int .i64 0, .int .i64 0]) [(0, 225), (1, 226), (0, 225)] [] (by kernel_rfl) (by kernel_rfl) rfl (fun _ _ _ _ h => h) ?_ ?_
      · (intro ev W hb hR hO hD; have hS := hF W hR; obtain ⟨hb1, hb2, hb3⟩ := hb; simp only [Free.AllDeps, Free.AllOuts, Free.At, al1, al2, al3, al4, al5, and_true] at hO hD; have ht9 := hD.1.pl; go_simp; refine yields_enter ?_; (with_reducible refine (ex_off trm _ _ 3 0 _ ht9 off4).mono ?_); rintro e W2 ⟨rfl, hB2⟩; exact ⟨_, rfl, hB2, rfl⟩)
      simp only [an1, an2]
      refine Free.Chain.ex ?_ [(2, 227)] [] (by kernel_rfl) (by kernel_rfl) rfl Free.Bel.refl ?_ ?_
      rotate_left 2
      simp only [an1, an2]
      refine Free.Chain.ex ?_ [(3, 224)] [] (by kernel_rfl) (by kernel_rfl) rfl Free.Bel.refl ?_ ?_
      rotate_left 2
      simp only [an1, an2]
      refine Free.Chain.ex ?_ [(3, 224)] [] (by kernel_rfl) (by kernel_rfl) rfl Free.Bel.refl ?_ ?_
      rotate_left 2
      simp only [an1, an2]
      refine Free.Chain.ex ?_ [(4, 228), (2, 227), (0, 225), (1, 226), (2, 227), (3, 224), (4, 228)] [] (by kernel_rfl) (by kernel_rfl) rfl Free.Bel.refl ?_ ?_
      rotate_left 2
      simp only [an1, an2]
      refine Free.Chain.ex ?_ [(5, 229), (6, 27), (0, 225), (1, 226), (2, 227), (3, 224), (4, 228), (5, 229), (6, 27)] [] (by kernel_rfl) (by kernel_rfl) rfl Free.Bel.refl ?_ ?_
      rotate_left 2
      simp only [an1, an2]
      rotate_left
      iterate 5 (rotate_left; intro ev W hb hR hO hD; have hS := hF W hR; obtain ⟨hb1, hb2, hb3⟩ := hb; simp only [Free.AllDeps, Free.AllOuts, Free.At, al1, al2, al3, al4, al5, and_true] at hO hD; go_simp; rfl)
      intro ys w33 hR hV
      simp only [Free.AllV, Free.At, List.length_cons, List.length_nil, Nat.reduceAdd, List.getElem?_cons_succ, List.getElem?_cons_zero, true_and, and_true] at hV
      simp only [Free.putsFrom, Act.put, Nat.zero_add, Nat.reduceAdd, hV, List.setIfInBounds_toArray, List.set_cons_succ, List.set_cons_zero]
      have hN := hF w33 hR
      clear hR hF
      have HB_w33 := Lib.hid (HB_w32.out.trans ((hN).mono hz_w32))
      have hz_w33 : bb ≤ w33.heap.size := Nat.le_trans hz_w32 (hN).size
      have HL_w33 : Free.Bel w25 w33 := bt HL_w32 (hN)
      clear HL_w32
      have FN := fun (W : World) (hW : Free.Bel w33 W) => FA W (bt (hN) hW)
      clear FA HB_w32 hz_w32 KR
      have FA := FN
      clear FN
      have KR := Free.Bel.refl w33
      clear hN hV
      have KA0 : Free.Bel w33 (w33.alloc (.cells #[.int .i64 1000, .int .i64 300, .int .i64 100, .int .i64 0] 3)) := belAlloc _ _
      go_wp2_with fail
      exact ⟨⟨4, by omega, rfl, bt HL_w33 (belAlloc _ _)⟩, by simp [intOf]⟩
    · skip
      go_upto_region 27 with fail
      refine with_world ?_
      intro w34 hWE
      have hN : Free.Bel wr w34 := by
        subst hWE
        show Below wr.heap.size wr _
        repeat (first | exact Below.refl _ _ | refine Below.setCell ?_ (by simp) _ | refine Below.alloc ?_ (by simp; try omega) _)
      have hsz : wr.heap.size + 1 ≤ w34.heap.size := by subst hWE; simp
      have n_0_0 : w34.cell? ⟨wr.heap.size, 0, none⟩ = some (.int .i64 10) := by subst hWE; simp [go_sem]
      have n_0_1 : w34.cell? ⟨wr.heap.size, 1, none⟩ = some (.int .i64 4) := by subst hWE; simp [go_sem]
      have n_0_2 : w34.cell? ⟨wr.heap.size, 2, none⟩ = some (.int .i64 3) := by subst hWE; simp [go_sem]
      clear hWE
      obtain ⟨g340, hgz⟩ : ∃ x, x = wr.heap.size := ⟨_, rfl⟩
      rw [← hgz] at n_0_0 n_0_1 n_0_2 ⊢
      clear hgz hsz
      have HB_w34 := Lib.hid (HB_wr.out.trans ((hN).mono hz_wr))
      have hz_w34 : bb ≤ w34.heap.size := Nat.le_trans hz_wr (hN).size
      have HL_w34 : Free.Bel w25 w34 := bt HL_wr (hN)
      clear HL_wr
      have FN := fun (W : World) (hW : Free.Bel w34 W) => And.intro (keepsB hW n_0_0) (And.intro (keepsB hW n_0_1) (And.intro (keepsB hW n_0_2) (FA W (bt (hN) hW))))
      clear FA HB_wr hz_wr KR
      have FA := FN
      clear FN
      have KR := Free.Bel.refl w34
      clear hN n_0_0 n_0_1 n_0_2
      go_wp2_with fail
      refine (ways2_bad 37 0 _ (by decide +kernel)).mono ?_
      rintro e w35 ⟨rfl, hB⟩
      have HB_w35 := Lib.hid (HB_w34.out.trans ((hB).mono hz_w34))
      have hz_w35 : bb ≤ w35.heap.size := Nat.le_trans hz_w34 (hB).size
      have HL_w35 : Free.Bel w25 w35 := bt HL_w34 (hB)
      clear HL_w34
      have FN := fun (W : World) (hW : Free.Bel w35 W) => FA W (bt (hB) hW)
      clear FA HB_w34 hz_w34 KR
      have FA := FN
      clear FN
      have KR := Free.Bel.refl w35
      clear hB
      go_wp2_with fail
      have hF : ∀ W, Free.Bel w35.drew W → Free.Bel w35 W := fun W hW => bt (Bel.drewT (Free.Bel.refl _)) hW
      refine Free.wp_free (R := Free.Bel) (by kernel_rfl) (by kernel_rfl) Free.Bel.refl Free.Bel.trans ?_
      refine Free.Chain.ex ?_ [] [29] (by kernel_rfl) (by kernel_rfl) rfl Free.Bel.refl ?_ ?_
      rotate_left 2
      simp only [an1, an2]
      rotate_left
      rotate_left
      · (intro ev W hb hR hO hD; have hS := hF W hR; obtain ⟨hb1, hb2, hb3⟩ := hb; simp only [Free.AllDeps, Free.AllOuts, Free.At, al1, al2, al3, al4, al5, and_true] at hO hD; go_simp; rfl)
      refine Free.Chain.pr (fun v _ => v = i2 0 1) [] [] (by kernel_rfl) (by kernel_rfl) rfl (fun _ _ _ _ h => h) ?_ ?_
      · (intro ev W hb hR hO hD; have hS := hF W hR; obtain ⟨hb1, hb2, hb3⟩ := hb; simp only [Free.AllDeps, Free.AllOuts, Free.At, al1, al2, al3, al4, al5, and_true] at hO hD; go_simp; refine yields_enter ?_; (with_reducible refine (drawn_any 0 1 _).mono ?_); rintro e W2 ⟨rfl, hB2⟩; exact ⟨_, rfl, hB2, rfl⟩)
      simp only [an1, an2]
      refine Free.Chain.pr (fun v _ => v = .tuple #[i2 0 0, .int .i64 10]) [(0, 249), (1, 250), (1, 250)] [] (by kernel_rfl) (by kernel_rfl) rfl (fun _ _ _ _ h => h) ?_ ?_
      · (intro ev W hb hR hO hD; have hS := hF W hR; obtain ⟨hb1, hb2, hb3⟩ := hb; simp only [Free.AllDeps, Free.AllOuts, Free.At, al1, al2, al3, al4, al5, and_true] at hO hD; go_simp; refine yields_enter ?_; (with_reducible refine (ex_chance10 _).mono ?_); rintro e W2 ⟨rfl, hB2⟩; exact ⟨_, rfl, hB2, rfl⟩)
      simp only [an1, an2]
      refine Free.Chain.ex ?_ [(2, 251)] [] (by kernel_rfl) (by kernel_rfl) rfl Free.Bel.refl ?_ ?_
      rotate_left 2
      simp only [an1, an2]
      refine Free.Chain.ex ?_ [(3, 248)] [] (by kernel_rfl) (by kernel_rfl) rfl Free.Bel.refl ?_ ?_
      rotate_left 2
      simp only [an1, an2]
      refine Free.Chain.ex ?_ [(3, 248)] [] (by kernel_rfl) (by kernel_rfl) rfl Free.Bel.refl ?_ ?_
      rotate_left 2
      simp only [an1, an2]
      refine Free.Chain.ex ?_ [(5, 253), (2, 251), (0, 249), (1, 250), (2, 251), (3, 248), (4, 252), (5, 253)] [] (by kernel_rfl) (by kernel_rfl) rfl Free.Bel.refl ?_ ?_
      rotate_left 2
      simp only [an1, an2]
      rotate_left
      iterate 4 (rotate_left; intro ev W hb hR hO hD; have hS := hF W hR; obtain ⟨hb1, hb2, hb3⟩ := hb; simp only [Free.AllDeps, Free.AllOuts, Free.At, al1, al2, al3, al4, al5, and_true] at hO hD; go_simp; rfl)
      intro ys w36 hR hV
      simp only [Free.AllV, Free.At, List.length_cons, List.length_nil, Nat.reduceAdd, List.getElem?_cons_succ, List.getElem?_cons_zero, true_and, and_true] at hV
      simp only [Free.putsFrom, Act.put, Nat.zero_add, Nat.reduceAdd, hV, List.setIfInBounds_toArray, List.set_cons_succ, List.set_cons_zero]
      have hN := hF w36 hR
      clear hR hF
      have HB_w36 := Lib.hid (HB_w35.out.trans ((hN).mono hz_w35))
      have hz_w36 : bb ≤ w36.heap.size := Nat.le_trans hz_w35 (hN).size
      have HL_w36 : Free.Bel w25 w36 := bt HL_w35 (hN)
      clear HL_w35
      have FN := fun (W : World) (hW : Free.Bel w36 W) => FA W (bt (hN) hW)
      clear FA HB_w35 hz_w35 KR
      have FA := FN
      clear FN
      have KR := Free.Bel.refl w36
      clear hN hV
      go_wp2_with fail
      have hF : ∀ W, Free.Bel w36.drew W → Free.Bel w36 W := fun W hW => bt (Bel.drewT (Free.Bel.refl _)) hW
      refine Free.wp_free (R := Free.Bel) (by kernel_rfl) (by kernel_rfl) Free.Bel.refl Free.Bel.trans ?_
      refine Free.Chain.ex ?_ [] [1] (by kernel_rfl) (by kernel_rfl) rfl Free.Bel.refl ?_ ?_
      rotate_left 2
      simp only [an1, an2]
      rotate_left
      rotate_left
      · (intro ev W hb hR hO hD; have hS := hF W hR; obtain ⟨hb1, hb2, hb3⟩ := hb; simp only [Free.AllDeps, Free.AllOuts, Free.At, al1, al2, al3, al4, al5, and_true] at hO hD; go_simp; rfl)
      refine Free.Chain.pr (fun v _ => v = i2 0 1) [] [] (by kernel_rfl) (by kernel_rfl) rfl (fun _ _ _ _ h => h) ?_ ?_
      · (intro ev W hb hR hO hD; have hS := hF W hR; obtain ⟨hb1, hb2, hb3⟩ := hb; simp only [Free.AllDeps, Free.AllOuts, Free.At, al1, al2, al3, al4, al5, and_true] at hO hD; go_simp; refine yields_enter ?_; (with_reducible refine (drawn_any 0 1 _).mono ?_); rintro e W2 ⟨rfl, hB2⟩; exact ⟨_, rfl, hB2, rfl⟩)
      simp only [an1, an2]
      refine Free.Chain.pr (fun v _ => v = .tuple #[i2 0 0, .int .i64 11]) [(0, 255), (1, 256), (1, 256)] [] (by kernel_rfl) (by kernel_rfl) rfl (fun _ _ _ _ h => h) ?_ ?_
      · (intro ev W hb hR hO hD; have hS := hF W hR; obtain ⟨hb1, hb2, hb3⟩ := hb; simp only [Free.AllDeps, Free.AllOuts, Free.At, al1, al2, al3, al4, al5, and_true] at hO hD; go_simp; refine yields_enter ?_; (with_reducible refine (ex_chance11 _).mono ?_); rintro e W2 ⟨rfl, hB2⟩; exact ⟨_, rfl, hB2, rfl⟩)
      simp only [an1, an2]
      refine Free.Chain.ex ?_ [(2, 257)] [] (by kernel_rfl) (by kernel_rfl) rfl Free.Bel.refl ?_ ?_
      rotate_left 2
      simp only [an1, an2]
      refine Free.Chain.ex ?_ [(3, 254)] [] (by kernel_rfl) (by kernel_rfl) rfl Free.Bel.refl ?_ ?_
      rotate_left 2
      simp only [an1, an2]
      refine Free.Chain.ex ?_ [(3, 254)] [] (by kernel_rfl) (by kernel_rfl) rfl Free.Bel.refl ?_ ?_
      rotate_left 2
      simp only [an1, an2]
      refine Free.Chain.ex ?_ [(5, 259), (2, 257), (0, 255), (1, 256), (2, 257), (3, 254), (4, 258), (5, 259)] [] (by kernel_rfl) (by kernel_rfl) rfl Free.Bel.refl ?_ ?_
      rotate_left 2
      simp only [an1, an2]
      rotate_left
      iterate 4 (rotate_left; intro ev W hb hR hO hD; have hS := hF W hR; obtain ⟨hb1, hb2, hb3⟩ := hb; simp only [Free.AllDeps, Free.AllOuts, Free.At, al1, al2, al3, al4, al5, and_true] at hO hD; go_simp; rfl)
      intro ys w37 hR hV
      simp only [Free.AllV, Free.At, List.length_cons, List.length_nil, Nat.reduceAdd, List.getElem?_cons_succ, List.getElem?_cons_zero, true_and, and_true] at hV
      simp only [Free.putsFrom, Act.put, Nat.zero_add, Nat.reduceAdd, hV, List.setIfInBounds_toArray, List.set_cons_succ, List.set_cons_zero]
      have hN := hF w37 hR
      clear hR hF
      have HB_w37 := Lib.hid (HB_w36.out.trans ((hN).mono hz_w36))
      have hz_w37 : bb ≤ w37.heap.size := Nat.le_trans hz_w36 (hN).size
      have HL_w37 : Free.Bel w25 w37 := bt HL_w36 (hN)
      clear HL_w36
      have FN := fun (W : World) (hW : Free.Bel w37 W) => FA W (bt (hN) hW)
      clear FA HB_w36 hz_w36 KR
      have FA := FN
      clear FN
      have KR := Free.Bel.refl w37
      clear hN hV
      go_wp2_with fail
      have hF : ∀ W, Free.Bel w37.drew W → Free.Bel w37 W := fun W hW => bt (Bel.drewT (Free.Bel.refl _)) hW
      refine Free.wp_free (R := Free.Bel) (by kernel_rfl) (by kernel_rfl) Free.Bel.refl Free.Bel.trans ?_
      refine Free.Chain.ex ?_ [] [1] (by kernel_rfl) (by kernel_rfl) rfl Free.Bel.refl ?_ ?_
      rotate_left 2
      simp only [an1, an2]
      rotate_left
      rotate_left
      · (intro ev W hb hR hO hD; have hS := hF W hR; obtain ⟨hb1, hb2, hb3⟩ := hb; simp only [Free.AllDeps, Free.AllOuts, Free.At, al1, al2, al3, al4, al5, and_true] at hO hD; go_simp; rfl)
      refine Free.Chain.pr (fun v _ => v = i2 1 1) [] [] (by kernel_rfl) (by kernel_rfl) rfl (fun _ _ _ _ h => h) ?_ ?_
      · (intro ev W hb hR hO hD; have hS := hF W hR; obtain ⟨hb1, hb2, hb3⟩ := hb; simp only [Free.AllDeps, Free.AllOuts, Free.At, al1, al2, al3, al4, al5, and_true] at hO hD; go_simp; refine yields_enter ?_; (with_reducible refine (drawn_any 1 1 _).mono ?_); rintro e W2 ⟨rfl, hB2⟩; exact ⟨_, rfl, hB2, rfl⟩)
      simp only [an1, an2]
      refine Free.Chain.pr (fun v _ => v = .tuple #[i2 0 0, .int .i64 2]) [(0, 261), (1, 262), (1, 262)] [] (by kernel_rfl) (by kernel_rfl) rfl (fun _ _ _ _ h => h) ?_ ?_
      · (intro ev W hb hR hO hD; have hS := hF W hR; obtain ⟨hb1, hb2, hb3⟩ := hb; simp only [Free.AllDeps, Free.AllOuts, Free.At, al1, al2, al3, al4, al5, and_true] at hO hD; go_simp; refine yields_enter ?_; (with_reducible refine (ex_atmost2 _).mono ?_); rintro e W2 ⟨rfl, hB2⟩; exact ⟨_, rfl, hB2, rfl⟩)
      simp only [an1, an2]
      refine Free.Chain.ex ?_ [(2, 263)] [] (by kernel_rfl) (by kernel_rfl) rfl Free.Bel.refl ?_ ?_
      rotate_left 2
      simp only [an1, an2]
      refine Free.Chain.ex ?_ [(3, 260)] [] (by kernel_rfl) (by kernel_rfl) rfl Free.Bel.refl ?_ ?_
      rotate_left 2
      simp only [an1, an2]
      refine Free.Chain.ex ?_ [(3, 260)] [] (by kernel_rfl) (by kernel_rfl) rfl Free.Bel.refl ?_ ?_
      rotate_left 2
      simp only [an1, an2]
      refine Free.Chain.ex ?_ [(5, 265), (2, 263), (0, 261), (1, 262), (2, 263), (3, 260), (4, 264), (5, 265)] [] (by kernel_rfl) (by kernel_rfl) rfl Free.Bel.refl ?_ ?_
      rotate_left 2
      simp only [an1, an2]
      rotate_left
      iterate 4 (rotate_left; intro ev W hb hR hO hD; have hS := hF W hR; obtain ⟨hb1, hb2, hb3⟩ := hb; simp only [Free.AllDeps, Free.AllOuts, Free.At, al1, al2, al3, al4, al5, and_true] at hO hD; go_simp; rfl)
      intro ys w38 hR hV
      simp only [Free.AllV, Free.At, List.length_cons, List.length_nil, Nat.reduceAdd, List.getElem?_cons_succ, List.getElem?_cons_zero, true_and, and_true] at hV
      simp only [Free.putsFrom, Act.put, Nat.zero_add, Nat.reduceAdd, hV, List.setIfInBounds_toArray, List.set_cons_succ, List.set_cons_zero]
      have hN := hF w38 hR
      clear hR hF
      have HB_w38 := Lib.hid (HB_w37.out.trans ((hN).mono hz_w37))
      have hz_w38 : bb ≤ w38.heap.size := Nat.le_trans hz_w37 (hN).size
      have HL_w38 : Free.Bel w25 w38 := bt HL_w37 (hN)
      clear HL_w37
      have FN := fun (W : World) (hW : Free.Bel w38 W) => FA W (bt (hN) hW)
      clear FA HB_w37 hz_w37 KR
      have FA := FN
      clear FN
      have KR := Free.Bel.refl w38
      clear hN hV
      go_wp2_with fail
      have hF : ∀ W, Free.Bel w38.drew W → Free.Bel w38 W := fun W hW => bt (Bel.drewT (Free.Bel.refl _)) hW
      refine Free.wp_free (R := Free.Bel) (by kernel_rfl) (by kernel_rfl) Free.Bel.refl Free.Bel.trans ?_
      refine Free.Chain.ex ?_ [] [2] (by kernel_rfl) (by kernel_rfl) rfl Free.Bel.refl ?_ ?_
      rotate_left 2
      simp only [an1, an2]
      rotate_left
      rotate_left
      · (intro ev W hb hR hO hD; have hS := hF W hR; obtain ⟨hb1, hb2, hb3⟩ := hb; simp only [Free.AllDeps, Free.AllOuts, Free.At, al1, al2, al3, al4, al5, and_true] at hO hD; go_simp; rfl)
      refine Free.Chain.pr (fun v _ => v = i2 10 4) [] [] (by kernel_rfl) (by kernel_rfl) rfl (fun _ _ _ _ h => h) ?_ ?_
      · (intro ev W hb hR hO hD; have hS := hF W hR; obtain ⟨hb1, hb2, hb3⟩ := hb; simp only [Free.AllDeps, Free.AllOuts, Free.At, al1, al2, al3, al4, al5, and_true] at hO hD; go_simp; refine yields_enter ?_; (with_reducible refine (drawn_any 10 4 _).mono ?_); rintro e W2 ⟨rfl, hB2⟩; exact ⟨_, rfl, hB2, rfl⟩)
      simp only [an1, an2]
      refine Free.Chain.pr (fun v _ => v = .tuple #[i2 0 0, .int .i64 8]) [(0, 267), (1, 268), (1, 268)] [] (by kernel_rfl) (by kernel_rfl) rfl (fun _ _ _ _ h => h) ?_ ?_
      · (intro ev W hb hR hO hD; have hS := hF W hR; obtain ⟨hb1, hb2, hb3⟩ := hb; simp only [Free.AllDeps, Free.AllOuts, Free.At, al1, al2, al3, al4, al5, and_true] at hO hD; go_simp; refine yields_enter ?_; (with_reducible refine (ex_can8 _).mono ?_); rintro e W2 ⟨rfl, hB2⟩; exact ⟨_, rfl, hB2, rfl⟩)
      simp only [an1, an2]
      refine Free.Chain.ex ?_ [(2, 269)] [] (by kernel_rfl) (by kernel_rfl) rfl Free.Bel.refl ?_ ?_
      rotate_left 2
      simp only [an1, an2]
      refine Free.Chain.ex ?_ [(3, 266)] [] (by kernel_rfl) (by kernel_rfl) rfl Free.Bel.refl ?_ ?_
      rotate_left 2
      simp only [an1, an2]
      refine Free.Chain.ex ?_ [(3, 266)] [] (by kernel_rfl) (by kernel_rfl) rfl Free.Bel.refl ?_ ?_
      rotate_left 2
      simp only [an1, an2]
      refine Free.Chain.ex ?_ [(5, 271), (2, 269), (0, 267), (1, 268), (2, 269), (3, 266), (4, 270), (5, 271)] [] (by kernel_rfl) (by kernel_rfl) rfl Free.Bel.refl ?_ ?_
      rotate_left 2
      simp only [an1, an2]
      rotate_left
      iterate 4 (rotate_left; intro ev W hb hR hO hD; have hS := hF W hR; obtain ⟨hb1, hb2, hb3⟩ := hb; simp only [Free.AllDeps, Free.AllOuts, Free.At, al1, al2, al3, al4, al5, and_true] at hO hD; go_simp; rfl)
      intro ys w39 hR hV
      simp only [Free.AllV, Free.At, List.length_cons, List.length_nil, Nat.reduceAdd, List.getElem?_cons_succ, List.getElem?_cons_zero, true_and, and_true] at hV
      simp only [Free.putsFrom, Act.put, Nat.zero_add, Nat.reduceAdd, hV, List.setIfInBounds_toArray, List.set_cons_succ, List.set_cons_zero]
      have hN := hF w39 hR
      clear hR hF
      have HB_w39 := Lib.hid (HB_w38.out.trans ((hN).mono hz_w38))
      have hz_w39 : bb ≤ w39.heap.size := Nat.le_trans hz_w38 (hN).size
      have HL_w39 : Free.Bel w25 w39 := bt HL_w38 (hN)
      clear HL_w38
      have FN := fun (W : World) (hW : Free.Bel w39 W) => FA W (bt (hN) hW)
      clear FA HB_w38 hz_w38 KR
      have FA := FN
      clear FN
      have KR := Free.Bel.refl w39
      clear hN hV
      go_wp2_with fail
      have hF : ∀ W, Free.Bel w39.drew W → Free.Bel w39 W := fun W hW => bt (Bel.drewT (Free.Bel.refl _)) hW
      refine Free.wp_free (R := Free.Bel) (by kernel_rfl) (by kernel_rfl) Free.Bel.refl Free.Bel.trans ?_
      refine Free.Chain.ex ?_ [] [1] (by kernel_rfl) (by kernel_rfl) rfl Free.Bel.refl ?_ ?_
      rotate_left 2
      simp only [an1, an2]
      rotate_left
      rotate_left
      · (intro ev W hb hR hO hD; have hS := hF W hR; obtain ⟨hb1, hb2, hb3⟩ := hb; simp only [Free.AllDeps, Free.AllOuts, Free.At, al1, al2, al3, al4, al5, and_true] at hO hD; go_simp; rfl)
      refine Free.Chain.pr (fun v _ => v = i2 10 4) [] [] (by kernel_rfl) (by kernel_rfl) rfl (fun _ _ _ _ h => h) ?_ ?_
      · (intro ev W hb hR hO hD; have hS := hF W hR; obtain ⟨hb1, hb2, hb3⟩ := hb; simp only [Free.AllDeps, Free.AllOuts, Free.At, al1, al2, al3, al4, al5, and_true] at hO hD; go_simp; refine yields_enter ?_; (with_reducible refine (drawn_any 10 4 _).mono ?_); rintro e W2 ⟨rfl, hB2⟩; exact ⟨_, rfl, hB2, rfl⟩)
      simp only [an1, an2]
      refine Free.Chain.pr (fun v _ => v = .tuple #[i3 0 0 0, .int .i64 6]) [(0, 273), (1, 274), (1, 274)] [] (by kernel_rfl) (by kernel_rfl) rfl (fun _ _ _ _ h => h) ?_ ?_
      · (intro ev W hb hR hO hD; have hS := hF W hR; obtain ⟨hb1, hb2, hb3⟩ := hb; simp only [Free.AllDeps, Free.AllOuts, Free.At, al1, al2, al3, al4, al5, and_true] at hO hD; go_simp; refine yields_enter ?_; (with_reducible refine (ex_rest6 _).mono ?_); rintro e W2 ⟨rfl, hB2⟩; exact ⟨_, rfl, hB2, rfl⟩)
      simp only [an1, an2]
      refine Free.Chain.ex ?_ [(2, 275)] [] (by kernel_rfl) (by kernel_rfl) rfl Free.Bel.refl ?_ ?_
      rotate_left 2
      simp only [an1, an2]
      refine Free.Chain.ex ?_ [(3, 272)] [] (by kernel_rfl) (by kernel_rfl) rfl Free.Bel.refl ?_ ?_
      rotate_left 2
      simp only [an1, an2]
      refine Free.Chain.ex ?_ [(3, 272)] [] (by kernel_rfl) (by kernel_rfl) rfl Free.Bel.refl ?_ ?_
      rotate_left 2
      simp only [an1, an2]
      refine Free.Chain.ex ?_ [(5, 277), (2, 275), (0, 273), (1, 274), (2, 275), (3, 272), (4, 276), (5, 277)] [] (by kernel_rfl) (by kernel_rfl) rfl Free.Bel.refl ?_ ?_
      rotate_left 2
      simp only [an1, an2]
      rotate_left
      iterate 4 (rotate_left; intro ev W hb hR hO hD; have hS := hF W hR; obtain ⟨hb1, hb2, hb3⟩ := hb; simp only [Free.AllDeps, Free.AllOuts, Free.At, al1, al2, al3, al4, al5, and_true] at hO hD; go_simp; rfl)
      intro ys w40 hR hV
      simp only [Free.AllV, Free.At, List.length_cons, List.length_nil, Nat.reduceAdd, List.getElem?_cons_succ, List.getElem?_cons_zero, true_and, and_true] at hV
      simp only [Free.putsFrom, Act.put, Nat.zero_add, Nat.reduceAdd, hV, List.setIfInBounds_toArray, List.set_cons_succ, List.set_cons_zero]
      have hN := hF w40 hR
      clear hR hF
      have HB_w40 := Lib.hid (HB_w39.out.trans ((hN).mono hz_w39))
      have hz_w40 : bb ≤ w40.heap.size := Nat.le_trans hz_w39 (hN).size
      have HL_w40 : Free.Bel w25 w40 := bt HL_w39 (hN)
      clear HL_w39
      have FN := fun (W : World) (hW : Free.Bel w40 W) => FA W (bt (hN) hW)
      clear FA HB_w39 hz_w39 KR
      have FA := FN
      clear FN
      have KR := Free.Bel.refl w40
      clear hN hV
      go_wp2_with fail
      have hF : ∀ W, Free.Bel w40.drew W → Free.Bel w40 W := fun W hW => bt (Bel.drewT (Free.Bel.refl _)) hW
      refine Free.wp_free (R := Free.Bel) (by kernel_rfl) (by kernel_rfl) Free.Bel.refl Free.Bel.trans ?_
      refine Free.Chain.ex ?_ [] [1] (by kernel_rfl) (by kernel_rfl) rfl Free.Bel.refl ?_ ?_
      rotate_left 2
      simp only [an1, an2]
      rotate_left
      rotate_left
      · (intro ev W hb hR hO hD; have hS := hF W hR; obtain ⟨hb1, hb2, hb3⟩ := hb; simp only [Free.AllDeps, Free.AllOuts, Free.At, al1, al2, al3, al4, al5, and_true] at hO hD; go_simp; rfl)
      refine Free.Chain.pr (fun v _ => v = i2 1 1) [] [] (by kernel_rfl) (by kernel_rfl) rfl (fun _ _ _ _ h => h) ?_ ?_
      · (intro ev W hb hR hO hD; have hS := hF W hR; obtain ⟨hb1, hb2, hb3⟩ := hb; simp only [Free.AllDeps, Free.AllOuts, Free.At, al1, al2, al3, al4, al5, and_true] at hO hD; go_simp; refine yields_enter ?_; (with_reducible refine (drawn_any 1 1 _).mono ?_); rintro e W2 ⟨rfl, hB2⟩; exact ⟨_, rfl, hB2, rfl⟩)
      simp only [an1, an2]
      refine Free.Chain.pr (fun v _ => v = i2 1 0) [(1, 280)] [] (by kernel_rfl) (by kernel_rfl) rfl (fun _ _ _ _ h => h) ?_ ?_
      · (intro ev W hb hR hO hD; have hS := hF W hR; obtain ⟨hb1, hb2, hb3⟩ := hb; simp only [Free.AllDeps, Free.AllOuts, Free.At, al1, al2, al3, al4, al5, and_true] at hO hD; go_simp; refine yields_enter ?_; (with_reducible refine (partL_any 1 0 _).mono ?_); rintro e W2 ⟨rfl, hB2⟩; exact ⟨_, rfl, hB2, rfl⟩)
      simp only [an1, an2]
      refine Free.Chain.pr (fun v _ => v = .tuple #[.int .i64 0, .int .i64 12]) [(0, 279), (1, 280), (2, 281), (2, 281)] [] (by kernel_rfl) (by kernel_rfl) rfl (fun _ _ _ _ h => h) ?_ ?_
      · (intro ev W hb hR hO hD; have hS := hF W hR; obtain ⟨hb1, hb2, hb3⟩ := hb; simp only [Free.AllDeps, Free.AllOuts, Free.At, al1, al2, al3, al4, al5, and_true] at hO hD; go_simp; refine yields_enter ?_; (with_reducible refine (ex_bound12 _).mono ?_); rintro e W2 ⟨rfl, hB2⟩; exact ⟨_, rfl, hB2, rfl⟩)
      simp only [an1, an2]
      refine Free.Chain.ex ?_ [(3, 282)] [] (by kernel_rfl) (by kernel_rfl) rfl Free.Bel.refl ?_ ?_
      rotate_left 2
      simp only [an1, an2]
      refine Free.Chain.ex ?_ [(4, 278)] [] (by kernel_rfl) (by kernel_rfl) rfl Free.Bel.refl ?_ ?_
      rotate_left 2
      simp only [an1, an2]
      refine Free.Chain.ex ?_ [(4, 278)] [] (by kernel_rfl) (by kernel_rfl) rfl Free.Bel.refl ?_ ?_
      rotate_left 2
      simp only [an1, an2]
      refine Free.Chain.ex ?_ [(6, 284), (3, 282), (0, 279), (1, 280), (2, 281), (3, 282), (4, 278), (5, 283), (6, 284)] [] (by kernel_rfl) (by kernel_rfl) rfl Free.Bel.refl ?_ ?_
      rotate_left 2
      simp only [an1, an2]
      rotate_left
      iterate 4 (rotate_left; intro ev W hb hR hO hD; have hS := hF W hR; obtain ⟨hb1, hb2, hb3⟩ := hb; simp only [Free.AllDeps, Free.AllOuts, Free.At, al1, al2, al3, al4, al5, and_true] at hO hD; go_simp; rfl)
      intro ys w41 hR hV
      simp only [Free.AllV, Free.At, List.length_cons, List.length_nil, Nat.reduceAdd, List.getElem?_cons_succ, List.getElem?_cons_zero, true_and, and_true] at hV
      simp only [Free.putsFrom, Act.put, Nat.zero_add, Nat.reduceAdd, hV, List.setIfInBounds_toArray, List.set_cons_succ, List.set_cons_zero]
      have hN := hF w41 hR
      clear hR hF
      have HB_w41 := Lib.hid (HB_w40.out.trans ((hN).mono hz_w40))
      have hz_w41 : bb ≤ w41.heap.size := Nat.le_trans hz_w40 (hN).size
      have HL_w41 : Free.Bel w25 w41 := bt HL_w40 (hN)
      clear HL_w40
      have FN := fun (W : World) (hW : Free.Bel w41 W) => FA W (bt (hN) hW)
      clear FA HB_w40 hz_w40 KR
      have FA := FN
      clear FN
      have KR := Free.Bel.refl w41
      clear hN hV
      go_wp2_with fail
      have hF : ∀ W, Free.Bel w41.drew W → Free.Bel w41 W := fun W hW => bt (Bel.drewT (Free.Bel.refl _)) hW
      refine Free.wp_free (R := Free.Bel) (by kernel_rfl) (by kernel_rfl) Free.Bel.refl Free.Bel.trans ?_
      refine Free.Chain.ex ?_ [] [1] (by kernel_rfl) (by kernel_rfl) rfl Free.Bel.refl ?_ ?_
      rotate_left 2
      simp only [an1, an2]
      rotate_left
      rotate_left
      · (intro ev W hb hR hO hD; have hS := hF W hR; obtain ⟨hb1, hb2, hb3⟩ := hb; simp only [Free.AllDeps, Free.AllOuts, Free.At, al1, al2, al3, al4, al5, and_true] at hO hD; go_simp; rfl)
      refine Free.Chain.pr (fun v _ => v = i2 1 1000) [] [] (by kernel_rfl) (by kernel_rfl) rfl (fun _ _ _ _ h => h) ?_ ?_
      · (intro ev W hb hR hO hD; have hS := hF W hR; obtain ⟨hb1, hb2, hb3⟩ := hb; simp only [Free.AllDeps, Free.AllOuts, Free.At, al1, al2, al3, al4, al5, and_true] at hO hD; go_simp; refine yields_enter ?_; (with_reducible refine (partL_any 1 1000 _).mono ?_); rintro e W2 ⟨rfl, hB2⟩; exact ⟨_, rfl, hB2, rfl⟩)
      simp only [an1, an2]
      refine Free.Chain.pr (fun v _ => v = .tuple #[.int .i64 0, .int .i64 6]) [(0, 286), (1, 287), (1, 287)] [] (by kernel_rfl) (by kernel_rfl) rfl (fun _ _ _ _ h => h) ?_ ?_
      · (intro ev W hb hR hO hD; have hS := hF W hR; obtain ⟨hb1, hb2, hb3⟩ := hb; simp only [Free.AllDeps, Free.AllOuts, Free.At, al1, al2, al3, al4, al5, and_true] at hO hD; go_simp; refine yields_enter ?_; (with_reducible refine (ex_find6 _).mono ?_); rintro e W2 ⟨rfl, hB2⟩; exact ⟨_, rfl, hB2, rfl⟩)
      simp only [an1, an2]
      refine Free.Chain.ex ?_ [(2, 288)] [] (by kernel_rfl) (by kernel_rfl) rfl Free.Bel.refl ?_ ?_
      rotate_left 2
      simp only [an1, an2]
      refine Free.Chain.ex ?_ [(3, 285)] [] (by kernel_rfl) (by kernel_rfl) rfl Free.Bel.refl ?_ ?_
      rotate_left 2
      simp only [an1, an2]
      refine Free.Chain.ex ?_ [(3, 285)] [] (by kernel_rfl) (by kernel_rfl) rfl Free.Bel.refl ?_ ?_
      rotate_left 2
      simp only [an1, an2]
      refine Free.Chain.ex ?_ [(5, 290), (2, 288), (0, 286), (1, 287), (2, 288), (3, 285), (4, 289), (5, 290)] [] (by kernel_rfl) (by kernel_rfl) rfl Free.Bel.refl ?_ ?_
      rotate_left 2
      simp only [an1, an2]
      rotate_left
      iterate 4 (rotate_left; intro ev W hb hR hO hD; have hS := hF W hR; obtain ⟨hb1, hb2, hb3⟩ := hb; simp only [Free.AllDeps, Free.AllOuts, Free.At, al1, al2, al3, al4, al5, and_true] at hO hD; go_simp; rfl)
      intro ys w42 hR hV
      simp only [Free.AllV, Free.At, List.length_cons, List.length_nil, Nat.reduceAdd, List.getElem?_cons_succ, List.getElem?_cons_zero, true_and, and_true] at hV
      simp only [Free.putsFrom, Act.put, Nat.zero_add, Nat.reduceAdd, hV, List.setIfInBounds_toArray, List.set_cons_succ, List.set_cons_zero]
      have hN := hF w42 hR
      clear hR hF
      have HB_w42 := Lib.hid (HB_w41.out.trans ((hN).mono hz_w41))
      have hz_w42 : bb ≤ w42.heap.size := Nat.le_trans hz_w41 (hN).size
      have HL_w42 : Free.Bel w25 w42 := bt HL_w41 (hN)
      clear HL_w41
      have FN := fun (W : World) (hW : Free.Bel w42 W) => FA W (bt (hN) hW)
      clear FA HB_w41 hz_w41 KR
      have FA := FN
      clear FN
      have KR := Free.Bel.refl w42
      clear hN hV
      go_wp2_with fail
      refine (ex_accept13 _).mono ?_
      rintro e w43 ⟨rfl, hB⟩
      have HB_w43 := Lib.hid (HB_w42.out.trans ((hB).mono hz_w42))
      have hz_w43 : bb ≤ w43.heap.size := Nat.le_trans hz_w42 (hB).size
      have HL_w43 : Free.Bel w25 w43 := bt HL_w42 (hB)
      clear HL_w42
      have FN := fun (W : World) (hW : Free.Bel w43 W) => FA W (bt (hB) hW)
      clear FA HB_w42 hz_w42 KR
      have FA := FN
      clear FN
      have KR := Free.Bel.refl w43
      clear hB
      go_wp2_with fail
      have hF : ∀ W, Free.Bel w43.drew W → Free.Bel w43 W := fun W hW => bt (Bel.drewT (Free.Bel.refl _)) hW
      refine Free.wp_free (R := Free.Bel) (by kernel_rfl) (by kernel_rfl) Free.Bel.refl Free.Bel.trans ?_
      refine Free.Chain.ex ?_ [] [1] (by kernel_rfl) (by kernel_rfl) rfl Free.Bel.refl ?_ ?_
      rotate_left 2
      simp only [an1, an2]
      rotate_left
      rotate_left
      · (intro ev W hb hR hO hD; have hS := hF W hR; obtain ⟨hb1, hb2, hb3⟩ := hb; simp only [Free.AllDeps, Free.AllOuts, Free.At, al1, al2, al3, al4, al5, and_true] at hO hD; go_simp; rfl)
      refine Free.Chain.pr (fun v _ => v = i2 1 1) [] [] (by kernel_rfl) (by kernel_rfl) rfl (fun _ _ _ _ h => h) ?_ ?_
      · (intro ev W hb hR hO hD; have hS := hF W hR; obtain ⟨hb1, hb2, hb3⟩ := hb; simp only [Free.AllDeps, Free.AllOuts, Free.At, al1, al2, al3, al4, al5, and_true] at hO hD; go_simp; refine yields_enter ?_; (with_reducible refine (partL_any 1 1 _).mono ?_); rintro e W2 ⟨rfl, hB2⟩; exact ⟨_, rfl, hB2, rfl⟩)
      simp only [an1, an2]
      refine Free.Chain.pr (fun v _ => v = i2 1 1) [(1, 299)] [] (by kernel_rfl) (by kernel_rfl) rfl (fun _ _ _ _ h => h) ?_ ?_
      · (intro ev W hb hR hO hD; have hS := hF W hR; obtain ⟨hb1, hb2, hb3⟩ := hb; simp only [Free.AllDeps, Free.AllOuts, Free.At, al1, al2, al3, al4, al5, and_true] at hO hD; go_simp; refine yields_enter ?_; (with_reducible refine (partL_any 1 1 _).mono ?_); rintro e W2 ⟨rfl, hB2⟩; exact ⟨_, rfl, hB2, rfl⟩)
      simp only [an1, an2]
      refine Free.Chain.pr (fun v _ => v = .tuple #[i2 0 0, .int .i64 2]) [(0, 298), (1, 299), (2, 300), (2, 300)] [] (by kernel_rfl) (by kernel_rfl) rfl (fun _ _ _ _ h => h) ?_ ?_
      · (intro ev W hb hR hO hD; have hS := hF W hR; obtain ⟨hb1, hb2, hb3⟩ := hb; simp only [Free.AllDeps, Free.AllOuts, Free.At, al1, al2, al3, al4, al5, and_true] at hO hD; go_simp; refine yields_enter ?_; (with_reducible refine (ex_least2 _).mono ?_); rintro e W2 ⟨rfl, hB2⟩; exact ⟨_, rfl, hB2, rfl⟩)
      simp only [an1, an2]
      refine Free.Chain.ex ?_ [(3, 301)] [] (by kernel_rfl) (by kernel_rfl) rfl Free.Bel.refl ?_ ?_
      rotate_left 2
      simp only [an1, an2]
      refine Free.Chain.ex ?_ [(4, 297)] [] (by kernel_rfl) (by kernel_rfl) rfl Free.Bel.refl ?_ ?_
      rotate_left 2
      simp only [an1, an2]
      refine Free.Chain.ex ?_ [(4, 297)] [] (by kernel_rfl) (by kernel_rfl) rfl Free.Bel.refl ?_ ?_
      rotate_left 2
      simp only [an1, an2]
      refine Free.Chain.ex ?_ [(6, 303), (3, 301), (0, 298), (1, 299), (2, 300), (3, 301), (4, 297), (5, 302), (6, 303)] [] (by kernel_rfl) (by kernel_rfl) rfl Free.Bel.refl ?_ ?_
      rotate_left 2
      simp only [an1, an2]
      rotate_left
      iterate 4 (rotate_left; intro ev W hb hR hO hD; have hS := hF W hR; obtain ⟨hb1, hb2, hb3⟩ := hb; simp only [Free.AllDeps, Free.AllOuts, Free.At, al1, al2, al3, al4, al5, and_true] at hO hD; go_simp; rfl)
      intro ys w44 hR hV
      simp only [Free.AllV, Free.At, List.length_cons, List.length_nil, Nat.reduceAdd, List.getElem?_cons_succ, List.getElem?_cons_zero, true_and, and_true] at hV
      simp only [Free.putsFrom, Act.put, Nat.zero_add, Nat.reduceAdd, hV, List.setIfInBounds_toArray, List.set_cons_succ, List.set_cons_zero]
      have hN := hF w44 hR
      clear hR hF
      have HB_w44 := Lib.hid (HB_w43.out.trans ((hN).mono hz_w43))
      have hz_w44 : bb ≤ w44.heap.size := Nat.le_trans hz_w43 (hN).size
      have HL_w44 : Free.Bel w25 w44 := bt HL_w43 (hN)
      clear HL_w43
      have FN := fun (W : World) (hW : Free.Bel w44 W) => FA W (bt (hN) hW)
      clear FA HB_w43 hz_w43 KR
      have FA := FN
      clear FN
      have KR := Free.Bel.refl w44
      clear hN hV
      go_wp2_with fail
      refine (ex_twice13 _ ⟨(FA w44 (Free.Bel.refl _)).2.2.2.2.2.2.2.2.2.2.2.2.2.2.2.2.2.2.2.2.2.2.2.2.2.2.2.2.2.1, (FA w44 (Free.Bel.refl _)).2.2.2.2.2.2.2.2.2.2.2.2.2.2.2.2.2.2.2.2.2.2.2.2.2.2.2.2.2.2.1, (FA w44 (Free.Bel.refl _)).2.2.2.2.2.2.2.2.2.2.2.2.2.2.2.2.2.2.2.2.2.2.2.2.2.2.2.2.2.2.2.1⟩).mono ?_
      rintro e w45 ⟨rfl, hB⟩
      have HB_w45 := Lib.hid (HB_w44.out.trans ((hB).mono hz_w44))
      have hz_w45 : bb ≤ w45.heap.size := Nat.le_trans hz_w44 (hB).size
      have HL_w45 : Free.Bel w25 w45 := bt HL_w44 (hB)
      clear HL_w44
      have FN := fun (W : World) (hW : Free.Bel w45 W) => FA W (bt (hB) hW)
      clear FA HB_w44 hz_w44 KR
      have FA := FN
      clear FN
      have KR := Free.Bel.refl w45
      clear hB
      go_wp2_with fail
      have hN : Free.Bel w45 (w45.alloc (.cells #[.int .i64 5, .int .i64 3, .int .i64 6, .int .i64 2] 73)) := (Bel.allocT (Free.Bel.refl w45) _)
      have n_g450_0 : (w45.alloc (.cells #[.int .i64 5, .int .i64 3, .int .i64 6, .int .i64 2] 73)).cell? ⟨w45.heap.size, 0, none⟩ = some (.int .i64 5) := by simp [go_sem]
      have n_g450_1 : (w45.alloc (.cells #[.int .i64 5, .int .i64 3, .int .i64 6, .int .i64 2] 73)).cell? ⟨w45.heap.size, 1, none⟩ = some (.int .i64 3) := by simp [go_sem]
      have n_g450_2 : (w45.alloc (.cells #[.int .i64 5, .int .i64 3, .int .i64 6, .int .i64 2] 73)).cell? ⟨w45.heap.size, 2, none⟩ = some (.int .i64 6) := by simp [go_sem]
      have n_g450_3 : (w45.alloc (.cells #[.int .i64 5, .int .i64 3, .int .i64 6, .int .i64 2] 73)).cell? ⟨w45.heap.size, 3, none⟩ = some (.int .i64 2) := by simp [go_sem]
      generalize (w45.alloc (.cells #[.int .i64 5, .int .i64 3, .int .i64 6, .int .i64 2] 73)) = w46 at *
      obtain ⟨g450, hgz⟩ : ∃ x, x = w45.heap.size := ⟨_, rfl⟩
      rw [← hgz] at n_g450_0 n_g450_1 n_g450_2 n_g450_3 ⊢
      clear hgz
      have HB_w46 := Lib.hid (HB_w45.out.trans ((hN).mono hz_w45))
      have hz_w46 : bb ≤ w46.heap.size := Nat.le_trans hz_w45 (hN).size
      have HL_w46 : Free.Bel w25 w46 := bt HL_w45 (hN)
      clear HL_w45
      have FN := fun (W : World) (hW : Free.Bel w46 W) => And.intro (keepsB hW n_g450_0) (And.intro (keepsB hW n_g450_1) (And.intro (keepsB hW n_g450_2) (And.intro (keepsB hW n_g450_3) (FA W (bt (hN) hW)))))
      clear FA HB_w45 hz_w45 KR
      have FA := FN
      clear FN
      have KR := Free.Bel.refl w46
      clear hN n_g450_0 n_g450_1 n_g450_2 n_g450_3
      refine (drawn_any 9 10 _).mono ?_
      rintro e w47 ⟨rfl, hB⟩
      have HB_w47 := Lib.hid (HB_w46.out.trans ((hB).mono hz_w46))
      have hz_w47 : bb ≤ w47.heap.size := Nat.le_trans hz_w46 (hB).size
      have HL_w47 : Free.Bel w25 w47 := bt HL_w46 (hB)
      clear HL_w46
      have FN := fun (W : World) (hW : Free.Bel w47 W) => FA W (bt (hB) hW)
      clear FA HB_w46 hz_w46 KR
      have FA := FN
      clear FN
      have KR := Free.Bel.refl w47
      clear hB
      go_wp2_with fail
      refine (ex_off [(5, 3), (6, 2)] _ _ 9 10 _ (show PL [(5, 3), (6, 2)] (.slice (some ⟨g450, 0, none⟩) 2 2) w47 from ⟨_, _, rfl, by simp [maxLen], fun _ => ⟨_, 0, rfl, fun k hk => match k, hk with | 0, _ => ⟨(FA w47 (Free.Bel.refl _)).1, (FA w47 (Free.Bel.refl _)).2.1⟩ | 1, _ => ⟨(FA w47 (Free.Bel.refl _)).2.2.1, (FA w47 (Free.Bel.refl _)).2.2.2.1⟩⟩⟩) off5).mono ?_
      rintro e w48 ⟨rfl, hB⟩
      have HB_w48 := Lib.hid (HB_w47.out.trans ((hB).mono hz_w47))
      have hz_w48 : bb ≤ w48.heap.size := Nat.le_trans hz_w47 (hB).size
      have HL_w48 : Free.Bel w25 w48 := bt HL_w47 (hB)
      clear HL_w47
      have FN := fun (W : World) (hW : Free.Bel w48 W) => FA W (bt (hB) hW)
      clear FA HB_w47 hz_w47 KR
      have FA := FN
      clear FN
      have KR := Free.Bel.refl w48
      clear hB
      go_wp2_with fail
      refine (drawn_any 9 10 _).mono ?_
      rintro e w49 ⟨rfl, hB⟩
      have HB_w49 := Lib.hid (HB_w48.out.trans ((hB).mono hz_w48))
      have hz_w49 : bb ≤ w49.heap.size := Nat.le_trans hz_w48 (hB).size
      have HL_w49 : Free.Bel w25 w49 := bt HL_w48 (hB)
      clear HL_w48
      have FN := fun (W : World) (hW : Free.Bel w49 W) => FA W (bt (hB) hW)
      clear FA HB_w48 hz_w48 KR
      have FA := FN
      clear FN
      have KR := Free.Bel.refl w49
      clear hB
      go_wp2_with fail
      refine (ex_off [] _ _ 9 10 _ (PL.nil _) off6).mono ?_
      rintro e w50 ⟨rfl, hB⟩
      have HB_w50 := Lib.hid (HB_w49.out.trans ((hB).mono hz_w49))
      have hz_w50 : bb ≤ w50.heap.size := Nat.le_trans hz_w49 (hB).size
      have HL_w50 : Free.Bel w25 w50 := bt HL_w49 (hB)
      clear HL_w49
      have FN := fun (W : World) (hW : Free.Bel w50 W) => FA W (bt (hB) hW)
      clear FA HB_w49 hz_w49 KR
      have FA := FN
      clear FN
      have KR := Free.Bel.refl w50
      clear hB
      go_wp2_with fail
      refine (ex_fair2 _).mono ?_
      rintro e w51 ⟨rfl, hB⟩
      have HB_w51 := Lib.hid (HB_w50.out.trans ((hB).mono hz_w50))
      have hz_w51 : bb ≤ w51.heap.size := Nat.le_trans hz_w50 (hB).size
      have HL_w51 : Free.Bel w25 w51 := bt HL_w50 (hB)
      clear HL_w50
      have FN := fun (W : World) (hW : Free.Bel w51 W) => FA W (bt (hB) hW)
      clear FA HB_w50 hz_w50 KR
      have FA := FN
      clear FN
      have KR := Free.Bel.refl w51
      clear hB
      have KA0 : Free.Bel w51 (w51.alloc (.cells #[.int .i64 0, .int .i64 0] 31)) := Bel.allocT (Free.Bel.refl _) _
      go_wp2_with fail
      clear KA0
      have hN : Free.Bel w51 (w51.alloc (.cells #[.int .i64 0, .int .i64 0] 31)) := (Bel.allocT (Free.Bel.refl w51) _)
      have n_g510_0 : (w51.alloc (.cells #[.int .i64 0, .int .i64 0] 31)).cell? ⟨w51.heap.size, 0, none⟩ = some (.int .i64 0) := by simp [go_sem]
      have n_g510_1 : (w51.alloc (.cells #[.int .i64 0, .int .i64 0] 31)).cell? ⟨w51.heap.size, 1, none⟩ = some (.int .i64 0) := by simp [go_sem]
      generalize (w51.alloc (.cells #[.int .i64 0, .int .i64 0] 31)) = w52 at *
      obtain ⟨g510, hgz⟩ : ∃ x, x = w51.heap.size := ⟨_, rfl⟩
      rw [← hgz] at n_g510_0 n_g510_1 ⊢
      clear hgz
      have HB_w52 := Lib.hid (HB_w51.out.trans ((hN).mono hz_w51))
      have hz_w52 : bb ≤ w52.heap.size := Nat.le_trans hz_w51 (hN).size
      have HL_w52 : Free.Bel w25 w52 := bt HL_w51 (hN)
      clear HL_w51
      have FN := fun (W : World) (hW : Free.Bel w52 W) => And.intro (keepsB hW n_g510_0) (And.intro (keepsB hW n_g510_1) (FA W (bt (hN) hW)))
      clear FA HB_w51 hz_w51 KR
      have FA := FN
      clear FN
      have KR := Free.Bel.refl w52
      clear hN n_g510_0 n_g510_1
      refine (ex_award3 _).mono ?_
      rintro e w53 ⟨rfl, hB⟩
      have HB_w53 := Lib.hid (HB_w52.out.trans ((hB).mono hz_w52))
      have hz_w53 : bb ≤ w53.heap.size := Nat.le_trans hz_w52 (hB).size
      have HL_w53 : Free.Bel w25 w53 := bt HL_w52 (hB)
      clear HL_w52
      have FN := fun (W : World) (hW : Free.Bel w53 W) => FA W (bt (hB) hW)
      clear FA HB_w52 hz_w52 KR
      have FA := FN
      clear FN
      have KR := Free.Bel.refl w53
      clear hB
      go_wp2_with fail
      refine (ex_check10 _).mono ?_
      rintro e w54 ⟨rfl, hB⟩
      have HB_w54 := Lib.hid (HB_w53.out.trans ((hB).mono hz_w53))
      have hz_w54 : bb ≤ w54.heap.size := Nat.le_trans hz_w53 (hB).size
      have HL_w54 : Free.Bel w25 w54 := bt HL_w53 (hB)
      clear HL_w53
      have FN := fun (W : World) (hW : Free.Bel w54 W) => FA W (bt (hB) hW)
      clear FA HB_w53 hz_w53 KR
      have FA := FN
      clear FN
      have KR := Free.Bel.refl w54
      clear hB
      go_wp2_with fail
      refine (ex_check0 _).mono ?_
      rintro e w55 ⟨rfl, hB⟩
      have HB_w55 := Lib.hid (HB_w54.out.trans ((hB).mono hz_w54))
      have hz_w55 : bb ≤ w55.heap.size := Nat.le_trans hz_w54 (hB).size
      have HL_w55 : Free.Bel w25 w55 := bt HL_w54 (hB)
      clear HL_w54
      have FN := fun (W : World) (hW : Free.Bel w55 W) => FA W (bt (hB) hW)
      clear FA HB_w54 hz_w54 KR
      have FA := FN
      clear FN
      have KR := Free.Bel.refl w55
      clear hB
      go_wp2_with fail
      go_ret
      have hbb := HBB.out
      subst hbb
      exact ⟨rfl, HB_w55.out⟩
end Go.Proofs.YtigdpohdihopjaaGreatDoor

