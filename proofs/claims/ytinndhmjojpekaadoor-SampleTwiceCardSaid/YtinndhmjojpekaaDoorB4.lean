/- The fewest bags that find a dirty one: Find. -/
import Derived.Test.YtinndhmjojpekaaDoorB3
import Derived.IntWalk
import Derived.Outline
import Derived.Shelf.RegionOpen
namespace Go.Proofs.YtinndhmjojpekaaDoor
set_option linter.unusedSimpArgs false
set_option linter.unusedVariables false
open Go.RowKit Go.Proofs.YtinndhmjojpekaaDoor.ML Go.Proofs.YtinndhmjojpekaaDoor.Samp

set_option maxRecDepth 100000 in
set_option maxHeartbeats 1000000 in
theorem atleast_any (a b n d : Int) (r : Bool) (w : World) (h1 : -9000000000000000000 ≤ a * d ∧ a * d ≤ 9000000000000000000) (h2 : -9000000000000000000 ≤ n * b ∧ n * b ≤ 9000000000000000000) (hr : Hid (decide (n * b ≤ a * d) = r)) :
    Calls Tryd.prog 48 #[.agg #[.int .i64 a, .int .i64 b], .agg #[.int .i64 n, .int .i64 d]] w fun e w' => e = .returned (.bool r) ∧ Below w.heap.size w w' := by
  have hB : Below w.heap.size w ((w.alloc (.cells #[.int .i64 a, .int .i64 b] 32)).alloc (.cells #[.int .i64 n, .int .i64 d] 32)) := ((Below.refl _ w).alloc (Nat.le_refl _) _).alloc (by simp) _
  go_enter Tryd.func48, Tryd.ntmps48
  go_wp2_with fail
  go_ret
  exact ⟨by rw [← hr.out]; rfl, hB⟩

/-- Whether n bags find a dirty one with the chance. -/
def findB (N D n d : Int) (k : Nat) : Bool := decide (n * chI N k ≤ (chI N k - mostI N D k 0) * d)
theorem find_eq (c p q n d : Int) (hc : 0 < c) : decide (n * (c * q) ≤ (c * q - c * p) * d) = decide (n * q ≤ (q - p) * d) := by
  have e1 : n * (c * q) = c * (n * q) := by rw [← Int.mul_assoc, Int.mul_comm n c, Int.mul_assoc]
  have e2 : (c * q - c * p) * d = c * ((q - p) * d) := by rw [← Int.mul_sub, Int.mul_assoc]
  rw [e1, e2]
  simp only [decide_eq_decide]
  exact ⟨fun h => Int.le_of_mul_le_mul_left h hc, fun h => Int.mul_le_mul_of_nonneg_left h (by omega)⟩
/-- What is found. -/
def FindIs (P : Nat → Bool) (N k e : Int) : Prop :=
  (e = 0 ∧ ∃ m : Nat, k = m ∧ k ≤ N ∧ P m = true ∧ ∀ j, j < m → P j = false) ∨ (e = 6 ∧ k = 0 ∧ ∀ j : Nat, (j : Int) ≤ N → P j = false)
theorem FindIs.unique {P : Nat → Bool} {N k e k' e' : Int} (h : FindIs P N k e) (h' : FindIs P N k' e') : k = k' ∧ e = e' := by
  rcases h with ⟨rfl, m, rfl, h1, h2, h3⟩ | ⟨rfl, rfl, h1⟩
  · rcases h' with ⟨rfl, m', rfl, k1, k2, k3⟩ | ⟨rfl, rfl, k1⟩
    · refine ⟨?_, rfl⟩
      rcases Nat.lt_trichotomy m m' with h | h | h
      · have := k3 m h; rw [h2] at this; cases this
      · rw [h]
      · have := h3 m' h; rw [k2] at this; cases this
    · have := k1 m h1; rw [h2] at this; cases this
  · rcases h' with ⟨rfl, m', rfl, k1, k2, k3⟩ | ⟨rfl, rfl, k1⟩
    · have := h1 m' k1; rw [k2] at this; cases this
    · exact ⟨rfl, rfl⟩
def findE (lo hi D n d : Int) : Int := firstE [unlessV (inB lo hi [D]) 2, unlessV ([(n, d)].all fun x => givenB x.1 x.2) 12]
theorem findE_zero {lo hi D n d : Int} (h : findE lo hi D n d = 0) : (lo ≤ D ∧ D ≤ hi) ∧ givenB n d = true := by
  unfold findE at h
  have h2 : inB lo hi [D] = true := by
    cases hm : inB lo hi [D]
    · rw [hm] at h; simp [firstE, unlessV] at h
    · rfl
  have h3 : givenB n d = true := by
    cases hm : givenB n d
    · rw [h2] at h; simp [firstE, unlessV, hm] at h
    · rfl
  exact ⟨by simpa [inB] using h2, h3⟩

set_option maxRecDepth 100000 in
set_option maxHeartbeats 4000000 in
theorem find_a (N lo hi D n d : Int) (w : World) (hc : cargoB N lo hi = false) :
    Calls Tryd.prog 19 #[.agg #[.int .i64 N, .int .i64 lo, .int .i64 hi], .int .i64 D, .agg #[.int .i64 n, .int .i64 d]] w fun e w' => e = .returned (.tuple #[.int .i64 0, .int .i64 10]) ∧ Below w.heap.size w w' := by
  have hB0 : Below w.heap.size w ((w.alloc (.cells #[.int .i64 N, .int .i64 lo, .int .i64 hi] 25)).alloc (.cells #[.int .i64 n, .int .i64 d] 32)) := ((Below.refl _ w).alloc (Nat.le_refl _) _).alloc (by simp) _
  have c0_0 : ((w.alloc (.cells #[.int .i64 N, .int .i64 lo, .int .i64 hi] 25)).alloc (.cells #[.int .i64 n, .int .i64 d] 32)).cell? ⟨w.heap.size, 0, none⟩ = some (.int .i64 N) := by simp [go_sem]
  have c0_1 : ((w.alloc (.cells #[.int .i64 N, .int .i64 lo, .int .i64 hi] 25)).alloc (.cells #[.int .i64 n, .int .i64 d] 32)).cell? ⟨w.heap.size, 1, none⟩ = some (.int .i64 lo) := by simp [go_sem]
  have c0_2 : ((w.alloc (.cells #[.int .i64 N, .int .i64 lo, .int .i64 hi] 25)).alloc (.cells #[.int .i64 n, .int .i64 d] 32)).cell? ⟨w.heap.size, 2, none⟩ = some (.int .i64 hi) := by simp [go_sem]
  have c1_0 : ((w.alloc (.cells #[.int .i64 N, .int .i64 lo, .int .i64 hi] 25)).alloc (.cells #[.int .i64 n, .int .i64 d] 32)).cell? ⟨w.heap.size + 1, 0, none⟩ = some (.int .i64 n) := by simp [go_sem]
  have c1_1 : ((w.alloc (.cells #[.int .i64 N, .int .i64 lo, .int .i64 hi] 25)).alloc (.cells #[.int .i64 n, .int .i64 d] 32)).cell? ⟨w.heap.size + 1, 1, none⟩ = some (.int .i64 d) := by simp [go_sem]
  go_enter Tryd.func19, Tryd.ntmps19
  go_wp2_with fail
  refine (begun_bad N lo hi _ hc).mono ?_
  rintro e w1 ⟨rfl, hB1⟩
  have K_w1 : Free.Bel ((w.alloc (.cells #[.int .i64 N, .int .i64 lo, .int .i64 hi] 25)).alloc (.cells #[.int .i64 n, .int .i64 d] 32)) w1 := hB1
  clear hB1
  have hq : w.heap.size + 2 = ((w.alloc (.cells #[.int .i64 N, .int .i64 lo, .int .i64 hi] 25)).alloc (.cells #[.int .i64 n, .int .i64 d] 32)).heap.size := by simp
  generalize ((w.alloc (.cells #[.int .i64 N, .int .i64 lo, .int .i64 hi] 25)).alloc (.cells #[.int .i64 n, .int .i64 d] 32)) = W0 at *
  generalize hbb : w.heap.size = bb at *
  have HBB := Lib.hid hbb
  clear hbb
  have HB0 := Lib.hid hB0
  have hq0 : bb + 2 ≤ W0.heap.size := by omega
  clear hB0 hq
  have FA : ∀ W, Free.Bel W0 W → W.cell? ⟨bb, 0, none⟩ = some (.int .i64 N) ∧ W.cell? ⟨bb, 1, none⟩ = some (.int .i64 lo) ∧ W.cell? ⟨bb, 2, none⟩ = some (.int .i64 hi) ∧ W.cell? ⟨bb + 1, 0, none⟩ = some (.int .i64 n) ∧ W.cell? ⟨bb + 1, 1, none⟩ = some (.int .i64 d) ∧ bb + 2 ≤ W.heap.size := fun W hW => ⟨keepsB hW c0_0, keepsB hW c0_1, keepsB hW c0_2, keepsB hW c1_0, keepsB hW c1_1, Nat.le_trans hq0 hW.size⟩
  clear c0_0 c0_1 c0_2 c1_0 c1_1
  go_wp2_with fail
  go_ret2
  have hbb := HBB.out
  subst hbb
  exact ⟨rfl, HB0.out.trans (K_w1.mono (by omega))⟩

set_option maxRecDepth 100000 in
set_option maxHeartbeats 4000000 in
theorem find_b (N lo hi D n d : Int) (w : World) (hc : cargoB N lo hi = true) (x y z : Int) (hx : Hid (unlessV (inB lo hi [D]) 2 = x)) (hy : Hid (unlessV ([(n, d)].all fun x => givenB x.1 x.2) 12 = y)) (hz : Hid (firstE [x, y] = z)) (hz0 : (z != 0) = true) :
    Calls Tryd.prog 19 #[.agg #[.int .i64 N, .int .i64 lo, .int .i64 hi], .int .i64 D, .agg #[.int .i64 n, .int .i64 d]] w fun e w' => e = .returned (.tuple #[.int .i64 0, .int .i64 z]) ∧ Below w.heap.size w w' := by
  have hB0 : Below w.heap.size w ((w.alloc (.cells #[.int .i64 N, .int .i64 lo, .int .i64 hi] 25)).alloc (.cells #[.int .i64 n, .int .i64 d] 32)) := ((Below.refl _ w).alloc (Nat.le_refl _) _).alloc (by simp) _
  have c0_0 : ((w.alloc (.cells #[.int .i64 N, .int .i64 lo, .int .i64 hi] 25)).alloc (.cells #[.int .i64 n, .int .i64 d] 32)).cell? ⟨w.heap.size, 0, none⟩ = some (.int .i64 N) := by simp [go_sem]
  have c0_1 : ((w.alloc (.cells #[.int .i64 N, .int .i64 lo, .int .i64 hi] 25)).alloc (.cells #[.int .i64 n, .int .i64 d] 32)).cell? ⟨w.heap.size, 1, none⟩ = some (.int .i64 lo) := by simp [go_sem]
  have c0_2 : ((w.alloc (.cells #[.int .i64 N, .int .i64 lo, .int .i64 hi] 25)).alloc (.cells #[.int .i64 n, .int .i64 d] 32)).cell? ⟨w.heap.size, 2, none⟩ = some (.int .i64 hi) := by simp [go_sem]
  have c1_0 : ((w.alloc (.cells #[.int .i64 N, .int .i64 lo, .int .i64 hi] 25)).alloc (.cells #[.int .i64 n, .int .i64 d] 32)).cell? ⟨w.heap.size + 1, 0, none⟩ = some (.int .i64 n) := by simp [go_sem]
  have c1_1 : ((w.alloc (.cells #[.int .i64 N, .int .i64 lo, .int .i64 hi] 25)).alloc (.cells #[.int .i64 n, .int .i64 d] 32)).cell? ⟨w.heap.size + 1, 1, none⟩ = some (.int .i64 d) := by simp [go_sem]
  go_enter Tryd.func19, Tryd.ntmps19
  go_wp2_with fail
  refine (begun_ok N lo hi _ hc).mono ?_
  rintro e w1 ⟨hb, mb, kb, cb, rfl, hH, hmb, hhb, hB1⟩
  have K_w1 : Free.Bel ((w.alloc (.cells #[.int .i64 N, .int .i64 lo, .int .i64 hi] 25)).alloc (.cells #[.int .i64 n, .int .i64 d] 32)) w1 := hB1
  have HHB := Lib.hid hhb
  clear hB1 hhb
  have hq : w.heap.size + 2 = ((w.alloc (.cells #[.int .i64 N, .int .i64 lo, .int .i64 hi] 25)).alloc (.cells #[.int .i64 n, .int .i64 d] 32)).heap.size := by simp
  generalize ((w.alloc (.cells #[.int .i64 N, .int .i64 lo, .int .i64 hi] 25)).alloc (.cells #[.int .i64 n, .int .i64 d] 32)) = W0 at *
  generalize hbb : w.heap.size = bb at *
  have HBB := Lib.hid hbb
  clear hbb
  have HB0 := Lib.hid hB0
  have hq0 : bb + 2 ≤ W0.heap.size := by omega
  clear hB0 hq
  have FA : ∀ W, Free.Bel W0 W → W.cell? ⟨bb, 0, none⟩ = some (.int .i64 N) ∧ W.cell? ⟨bb, 1, none⟩ = some (.int .i64 lo) ∧ W.cell? ⟨bb, 2, none⟩ = some (.int .i64 hi) ∧ W.cell? ⟨bb + 1, 0, none⟩ = some (.int .i64 n) ∧ W.cell? ⟨bb + 1, 1, none⟩ = some (.int .i64 d) ∧ bb + 2 ≤ W.heap.size := fun W hW => ⟨keepsB hW c0_0, keepsB hW c0_1, keepsB hW c0_2, keepsB hW c1_0, keepsB hW c1_1, Nat.le_trans hq0 hW.size⟩
  clear c0_0 c0_1 c0_2 c1_0 c1_1
  obtain ⟨a0_0, a0_1, a0_2, a1_0, a1_1, aq⟩ := FA w1 K_w1
  have hm0 : W0.heap.size ≤ mb := hmb
  have HH1 := Lib.hid hH
  have HHo : ∀ W, Kept mb w1 W → Hold hb N lo hi mb kb cb W := fun W hW => HH1.out.kept hW
  have HC : ∀ W, Kept mb w1 W → W.cell? ⟨hb, 0, none⟩ = some (.int .i64 N) ∧ W.cell? ⟨hb, 1, none⟩ = some (.int .i64 lo) ∧ W.cell? ⟨hb, 2, none⟩ = some (.int .i64 hi) ∧ W.cell? ⟨hb, 3, none⟩ = some (setsV kb cb) ∧ mb < W.heap.size ∧ hb < W.heap.size := fun W hW => ⟨(HHo W hW).bags, (HHo W hW).lo, (HHo W hW).hi, (HHo W hW).sets, (by obtain ⟨l, hl, _⟩ := (HHo W hW).ctr.memo; exact hl.lt), lt_of_cell (HHo W hW).bags⟩
  have FB : ∀ W, Kept mb w1 W → W.cell? ⟨bb, 0, none⟩ = some (.int .i64 N) ∧ W.cell? ⟨bb, 1, none⟩ = some (.int .i64 lo) ∧ W.cell? ⟨bb, 2, none⟩ = some (.int .i64 hi) ∧ W.cell? ⟨bb + 1, 0, none⟩ = some (.int .i64 n) ∧ W.cell? ⟨bb + 1, 1, none⟩ = some (.int .i64 d) ∧ bb + 2 ≤ W.heap.size := fun W hW => ⟨hW.cell a0_0 (by show _ ≠ mb; simp; omega), hW.cell a0_1 (by show _ ≠ mb; simp; omega), hW.cell a0_2 (by show _ ≠ mb; simp; omega), hW.cell a1_0 (by show _ ≠ mb; simp; omega), hW.cell a1_1 (by show _ ≠ mb; simp; omega), Nat.le_trans aq hW.size⟩
  have HBE := Lib.hid (fun (W : World) (hW : Kept mb w1 W) => HB0.out.trans ((hW.below K_w1 hm0).mono (by omega)))
  have HK : Kept mb w1 w1 := Kept.refl _ _
  have HM := Lib.hid hm0
  clear a0_0 a0_1 a0_2 a1_0 a1_1 aq FA hH hmb K_w1
  go_wp2_with fail
  have hF : ∀ W, Free.Bel w1.drew W → Kept mb w1 W := fun W hW => (HK.drew).trans (.of_below hW)
  refine Free.wp_free (R := Free.Bel) (by kernel_rfl) (by kernel_rfl) Free.Bel.refl Free.Bel.trans ?_
  refine Free.Chain.ex ?_ [] [8] (by kernel_rfl) (by kernel_rfl) rfl Free.Bel.refl ?_ ?_
  rotate_left
  · (intro ev W hb hR hO hD; have hS := hF W hR; obtain ⟨hb1, hb2, hb3⟩ := hb; simp only [Free.AllDeps, Free.AllOuts, Free.At, List.getElem?_cons_succ, List.getElem?_cons_zero, Array.getD_eq_getD_getElem?, List.getElem?_toArray, Option.getD_some, and_true] at hO hD; go_simp; rfl)
  simp only [List.nil_append, List.cons_append]
  refine Free.Chain.ex ?_ [] [1] (by kernel_rfl) (by kernel_rfl) rfl Free.Bel.refl ?_ ?_
  rotate_left
  · (intro ev W hb hR hO hD; have hS := hF W hR; obtain ⟨hb1, hb2, hb3⟩ := hb; simp only [Free.AllDeps, Free.AllOuts, Free.At, List.getElem?_cons_succ, List.getElem?_cons_zero, Array.getD_eq_getD_getElem?, List.getElem?_toArray, Option.getD_some, and_true] at hO hD; go_simp; rfl)
  simp only [List.nil_append, List.cons_append]
  refine Free.Chain.pr (SlI [D]) [(1, 22)] [] (by kernel_rfl) (by kernel_rfl) rfl (SlI.stable _) ?_ ?_
  · (intro ev W hb hR hO hD; have hS := hF W hR; obtain ⟨hb1, hb2, hb3⟩ := hb; simp only [Free.AllDeps, Free.AllOuts, Free.At, List.getElem?_cons_succ, List.getElem?_cons_zero, Array.getD_eq_getD_getElem?, List.getElem?_toArray, Option.getD_some, and_true] at hO hD; go_simp; exact ⟨belAlloc _ _, SlI.one _ _ _⟩)
  simp only [List.nil_append, List.cons_append]
  refine Free.Chain.pr (fun v _ => v = .int .i64 x) [(0, 21), (2, 23)] [] (by kernel_rfl) (by kernel_rfl) rfl (fun _ _ _ _ h => h) ?_ ?_
  · (intro ev W hb hR hO hD; have hS := hF W hR; obtain ⟨hb1, hb2, hb3⟩ := hb; simp only [Free.AllDeps, Free.AllOuts, Free.At, List.getElem?_cons_succ, List.getElem?_cons_zero, Array.getD_eq_getD_getElem?, List.getElem?_toArray, Option.getD_some, and_true] at hO hD; go_simp; refine yields_enter ?_; (with_reducible refine (may_any hb lo hi [D] _ x _ (by simp [maxLen]) (HHo _ hS).lo (HHo _ hS).hi hD.2 hx.out).mono ?_); rintro e W2 ⟨rfl, hB2⟩; exact ⟨_, rfl, hB2, rfl⟩)
  simp only [List.nil_append, List.cons_append]
  refine Free.Chain.ex ?_ [] [5] (by kernel_rfl) (by kernel_rfl) rfl Free.Bel.refl ?_ ?_
  rotate_left
  · (intro ev W hb hR hO hD; have hS := hF W hR; obtain ⟨hb1, hb2, hb3⟩ := hb; simp only [Free.AllDeps, Free.AllOuts, Free.At, List.getElem?_cons_succ, List.getElem?_cons_zero, Array.getD_eq_getD_getElem?, List.getElem?_toArray, Option.getD_some, and_true] at hO hD; go_simp; rfl)
  simp only [List.nil_append, List.cons_append]
  refine Free.Chain.pr (SlP [(n, d)]) [(4, 25)] [] (by kernel_rfl) (by kernel_rfl) rfl (SlP.stable _) ?_ ?_
  · (intro ev W hb hR hO hD; have hS := hF W hR; obtain ⟨hb1, hb2, hb3⟩ := hb; simp only [Free.AllDeps, Free.AllOuts, Free.At, List.getElem?_cons_succ, List.getElem?_cons_zero, Array.getD_eq_getD_getElem?, List.getElem?_toArray, Option.getD_some, and_true] at hO hD; go_simp; exact ⟨belAlloc _ _, SlP.one _ _ _ _⟩)
  simp only [List.nil_append, List.cons_append]
  refine Free.Chain.pr (fun v _ => v = .int .i64 y) [(5, 26), (3, 24)] [] (by kernel_rfl) (by kernel_rfl) rfl (fun _ _ _ _ h => h) ?_ ?_
  · (intro ev W hb hR hO hD; have hS := hF W hR; obtain ⟨hb1, hb2, hb3⟩ := hb; simp only [Free.AllDeps, Free.AllOuts, Free.At, List.getElem?_cons_succ, List.getElem?_cons_zero, Array.getD_eq_getD_getElem?, List.getElem?_toArray, Option.getD_some, and_true] at hO hD; go_simp; refine yields_enter ?_; (with_reducible refine (given_sl [(n, d)] y _ _ (by simp [maxLen]) hy.out hD.1).mono ?_); rintro e W2 ⟨rfl, hB2⟩; exact ⟨_, rfl, hB2, rfl⟩)
  simp only [List.nil_append, List.cons_append]
  refine Free.Chain.pr (SlI [x, y]) [(3, 24), (6, 27)] [] (by kernel_rfl) (by kernel_rfl) rfl (SlI.stable _) ?_ ?_
  · (intro ev W hb hR hO hD; have hS := hF W hR; obtain ⟨hb1, hb2, hb3⟩ := hb; simp only [Free.AllDeps, Free.AllOuts, Free.At, List.getElem?_cons_succ, List.getElem?_cons_zero, Array.getD_eq_getD_getElem?, List.getElem?_toArray, Option.getD_some, and_true] at hO hD; go_simp; exact ⟨belAlloc _ _, SlI.two _ _ _ _⟩)
  simp only [List.nil_append, List.cons_append]
  refine Free.Chain.pr (fun v _ => v = .int .i64 z) [(7, 28), (6, 27)] [] (by kernel_rfl) (by kernel_rfl) rfl (fun _ _ _ _ h => h) ?_ ?_
  · (intro ev W hb hR hO hD; have hS := hF W hR; obtain ⟨hb1, hb2, hb3⟩ := hb; simp only [Free.AllDeps, Free.AllOuts, Free.At, List.getElem?_cons_succ, List.getElem?_cons_zero, Array.getD_eq_getD_getElem?, List.getElem?_toArray, Option.getD_some, and_true] at hO hD; go_simp; refine yields_enter ?_; (with_reducible refine (first_sl [x, y] z _ _ (by simp [maxLen]) hz.out hD.1).mono ?_); rintro e W2 ⟨rfl, rfl⟩; exact ⟨_, rfl, Free.Bel.refl _, rfl⟩)
  simp only [List.nil_append, List.cons_append]
  refine Free.Chain.ex ?_ [(8, 29), (8, 29), (0, 21), (1, 22), (2, 23), (3, 24), (4, 25), (5, 26), (6, 27), (7, 28), (8, 29)] [] (by kernel_rfl) (by kernel_rfl) rfl Free.Bel.refl ?_ ?_
  rotate_left
  · (intro ev W hb hR hO hD; have hS := hF W hR; obtain ⟨hb1, hb2, hb3⟩ := hb; simp only [Free.AllDeps, Free.AllOuts, Free.At, List.getElem?_cons_succ, List.getElem?_cons_zero, Array.getD_eq_getD_getElem?, List.getElem?_toArray, Option.getD_some, and_true] at hO hD; go_simp; rfl)
  simp only [List.nil_append, List.cons_append]
  intro xs w2 hR hV
  simp only [Free.AllV, Free.At, List.length_cons, List.length_nil, Nat.reduceAdd, List.getElem?_cons_succ, List.getElem?_cons_zero, true_and] at hV
  simp only [Free.putsFrom, Act.put, Nat.zero_add, Nat.reduceAdd, hV, List.setIfInBounds_toArray, List.set_cons_succ, List.set_cons_zero]
  have HK2 := hF w2 hR
  clear hR hV hF HK
  go_wp2_with fail
  go_ret2
  have hbb := HBB.out
  subst hbb
  exact ⟨rfl, HBE.out _ HK2⟩

set_option maxRecDepth 100000 in
set_option maxHeartbeats 4000000 in
theorem find_c (N lo hi D n d : Int) (w : World) (hc : cargoB N lo hi = true) (x y : Int) (hx : Hid (unlessV (inB lo hi [D]) 2 = x)) (hy : Hid (unlessV ([(n, d)].all fun x => givenB x.1 x.2) 12 = y)) (hz : Hid (firstE [x, y] = 0)) (hm : lo ≤ D ∧ D ≤ hi) (hg : givenB n d = true) :
    Calls Tryd.prog 19 #[.agg #[.int .i64 N, .int .i64 lo, .int .i64 hi], .int .i64 D, .agg #[.int .i64 n, .int .i64 d]] w fun e w' => (∃ k q : Int, e = .returned (.tuple #[.int .i64 k, .int .i64 q]) ∧ FindIs (findB N D n d) N k q) ∧ Below w.heap.size w w' := by
  have hN := (cargoB_iff N lo hi).1 hc
  have hG := (givenB_iff n d).1 hg
  clear hg
  have hB0 : Below w.heap.size w ((w.alloc (.cells #[.int .i64 N, .int .i64 lo, .int .i64 hi] 25)).alloc (.cells #[.int .i64 n, .int .i64 d] 32)) := ((Below.refl _ w).alloc (Nat.le_refl _) _).alloc (by simp) _
  have c0_0 : ((w.alloc (.cells #[.int .i64 N, .int .i64 lo, .int .i64 hi] 25)).alloc (.cells #[.int .i64 n, .int .i64 d] 32)).cell? ⟨w.heap.size, 0, none⟩ = some (.int .i64 N) := by simp [go_sem]
  have c0_1 : ((w.alloc (.cells #[.int .i64 N, .int .i64 lo, .int .i64 hi] 25)).alloc (.cells #[.int .i64 n, .int .i64 d] 32)).cell? ⟨w.heap.size, 1, none⟩ = some (.int .i64 lo) := by simp [go_sem]
  have c0_2 : ((w.alloc (.cells #[.int .i64 N, .int .i64 lo, .int .i64 hi] 25)).alloc (.cells #[.int .i64 n, .int .i64 d] 32)).cell? ⟨w.heap.size, 2, none⟩ = some (.int .i64 hi) := by simp [go_sem]
  have c1_0 : ((w.alloc (.cells #[.int .i64 N, .int .i64 lo, .int .i64 hi] 25)).alloc (.cells #[.int .i64 n, .int .i64 d] 32)).cell? ⟨w.heap.size + 1, 0, none⟩ = some (.int .i64 n) := by simp [go_sem]
  have c1_1 : ((w.alloc (.cells #[.int .i64 N, .int .i64 lo, .int .i64 hi] 25)).alloc (.cells #[.int .i64 n, .int .i64 d] 32)).cell? ⟨w.heap.size + 1, 1, none⟩ = some (.int .i64 d) := by simp [go_sem]
  go_enter Tryd.func19, Tryd.ntmps19
  go_wp2_with fail
  refine (begun_ok N lo hi _ hc).mono ?_
  rintro e w1 ⟨hb, mb, kb, cb, rfl, hH, hmb, hhb, hB1⟩
  have K_w1 : Free.Bel ((w.alloc (.cells #[.int .i64 N, .int .i64 lo, .int .i64 hi] 25)).alloc (.cells #[.int .i64 n, .int .i64 d] 32)) w1 := hB1
  have HHB := Lib.hid hhb
  clear hB1 hhb
  have hq : w.heap.size + 2 = ((w.alloc (.cells #[.int .i64 N, .int .i64 lo, .int .i64 hi] 25)).alloc (.cells #[.int .i64 n, .int .i64 d] 32)).heap.size := by simp
  generalize ((w.alloc (.cells #[.int .i64 N, .int .i64 lo, .int .i64 hi] 25)).alloc (.cells #[.int .i64 n, .int .i64 d] 32)) = W0 at *
  generalize hbb : w.heap.size = bb at *
  have HBB := Lib.hid hbb
  clear hbb
  have HB0 := Lib.hid hB0
  have hq0 : bb + 2 ≤ W0.heap.size := by omega
  clear hB0 hq
  have FA : ∀ W, Free.Bel W0 W → W.cell? ⟨bb, 0, none⟩ = some (.int .i64 N) ∧ W.cell? ⟨bb, 1, none⟩ = some (.int .i64 lo) ∧ W.cell? ⟨bb, 2, none⟩ = some (.int .i64 hi) ∧ W.cell? ⟨bb + 1, 0, none⟩ = some (.int .i64 n) ∧ W.cell? ⟨bb + 1, 1, none⟩ = some (.int .i64 d) ∧ bb + 2 ≤ W.heap.size := fun W hW => ⟨keepsB hW c0_0, keepsB hW c0_1, keepsB hW c0_2, keepsB hW c1_0, keepsB hW c1_1, Nat.le_trans hq0 hW.size⟩
  clear c0_0 c0_1 c0_2 c1_0 c1_1
  obtain ⟨a0_0, a0_1, a0_2, a1_0, a1_1, aq⟩ := FA w1 K_w1
  have hm0 : W0.heap.size ≤ mb := hmb
  have HH1 := Lib.hid hH
  have HHo : ∀ W, Kept mb w1 W → Hold hb N lo hi mb kb cb W := fun W hW => HH1.out.kept hW
  have HC : ∀ W, Kept mb w1 W → W.cell? ⟨hb, 0, none⟩ = some (.int .i64 N) ∧ W.cell? ⟨hb, 1, none⟩ = some (.int .i64 lo) ∧ W.cell? ⟨hb, 2, none⟩ = some (.int .i64 hi) ∧ W.cell? ⟨hb, 3, none⟩ = some (setsV kb cb) ∧ mb < W.heap.size ∧ hb < W.heap.size := fun W hW => ⟨(HHo W hW).bags, (HHo W hW).lo, (HHo W hW).hi, (HHo W hW).sets, (by obtain ⟨l, hl, _⟩ := (HHo W hW).ctr.memo; exact hl.lt), lt_of_cell (HHo W hW).bags⟩
  have FB : ∀ W, Kept mb w1 W → W.cell? ⟨bb, 0, none⟩ = some (.int .i64 N) ∧ W.cell? ⟨bb, 1, none⟩ = some (.int .i64 lo) ∧ W.cell? ⟨bb, 2, none⟩ = some (.int .i64 hi) ∧ W.cell? ⟨bb + 1, 0, none⟩ = some (.int .i64 n) ∧ W.cell? ⟨bb + 1, 1, none⟩ = some (.int .i64 d) ∧ bb + 2 ≤ W.heap.size := fun W hW => ⟨hW.cell a0_0 (by show _ ≠ mb; simp; omega), hW.cell a0_1 (by show _ ≠ mb; simp; omega), hW.cell a0_2 (by show _ ≠ mb; simp; omega), hW.cell a1_0 (by show _ ≠ mb; simp; omega), hW.cell a1_1 (by show _ ≠ mb; simp; omega), Nat.le_trans aq hW.size⟩
  have HBE := Lib.hid (fun (W : World) (hW : Kept mb w1 W) => HB0.out.trans ((hW.below K_w1 hm0).mono (by omega)))
  have HK : Kept mb w1 w1 := Kept.refl _ _
  have HM := Lib.hid hm0
  clear a0_0 a0_1 a0_2 a1_0 a1_1 aq FA hH hmb K_w1
  go_wp2_with fail
  have hF : ∀ W, Free.Bel w1.drew W → Kept mb w1 W := fun W hW => (HK.drew).trans (.of_below hW)
  refine Free.wp_free (R := Free.Bel) (by kernel_rfl) (by kernel_rfl) Free.Bel.refl Free.Bel.trans ?_
  refine Free.Chain.ex ?_ [] [8] (by kernel_rfl) (by kernel_rfl) rfl Free.Bel.refl ?_ ?_
  rotate_left
  · (intro ev W hb hR hO hD; have hS := hF W hR; obtain ⟨hb1, hb2, hb3⟩ := hb; simp only [Free.AllDeps, Free.AllOuts, Free.At, List.getElem?_cons_succ, List.getElem?_cons_zero, Array.getD_eq_getD_getElem?, List.getElem?_toArray, Option.getD_some, and_true] at hO hD; go_simp; rfl)
  simp only [List.nil_append, List.cons_append]
  refine Free.Chain.ex ?_ [] [1] (by kernel_rfl) (by kernel_rfl) rfl Free.Bel.refl ?_ ?_
  rotate_left
  · (intro ev W hb hR hO hD; have hS := hF W hR; obtain ⟨hb1, hb2, hb3⟩ := hb; simp only [Free.AllDeps, Free.AllOuts, Free.At, List.getElem?_cons_succ, List.getElem?_cons_zero, Array.getD_eq_getD_getElem?, List.getElem?_toArray, Option.getD_some, and_true] at hO hD; go_simp; rfl)
  simp only [List.nil_append, List.cons_append]
  refine Free.Chain.pr (SlI [D]) [(1, 22)] [] (by kernel_rfl) (by kernel_rfl) rfl (SlI.stable _) ?_ ?_
  · (intro ev W hb hR hO hD; have hS := hF W hR; obtain ⟨hb1, hb2, hb3⟩ := hb; simp only [Free.AllDeps, Free.AllOuts, Free.At, List.getElem?_cons_succ, List.getElem?_cons_zero, Array.getD_eq_getD_getElem?, List.getElem?_toArray, Option.getD_some, and_true] at hO hD; go_simp; exact ⟨belAlloc _ _, SlI.one _ _ _⟩)
  simp only [List.nil_append, List.cons_append]
  refine Free.Chain.pr (fun v _ => v = .int .i64 x) [(0, 21), (2, 23)] [] (by kernel_rfl) (by kernel_rfl) rfl (fun _ _ _ _ h => h) ?_ ?_
  · (intro ev W hb hR hO hD; have hS := hF W hR; obtain ⟨hb1, hb2, hb3⟩ := hb; simp only [Free.AllDeps, Free.AllOuts, Free.At, List.getElem?_cons_succ, List.getElem?_cons_zero, Array.getD_eq_getD_getElem?, List.getElem?_toArray, Option.getD_some, and_true] at hO hD; go_simp; refine yields_enter ?_; (with_reducible refine (may_any hb lo hi [D] _ x _ (by simp [maxLen]) (HHo _ hS).lo (HHo _ hS).hi hD.2 hx.out).mono ?_); rintro e W2 ⟨rfl, hB2⟩; exact ⟨_, rfl, hB2, rfl⟩)
  simp only [List.nil_append, List.cons_append]
  refine Free.Chain.ex ?_ [] [5] (by kernel_rfl) (by kernel_rfl) rfl Free.Bel.refl ?_ ?_
  rotate_left
  · (intro ev W hb hR hO hD; have hS := hF W hR; obtain ⟨hb1, hb2, hb3⟩ := hb; simp only [Free.AllDeps, Free.AllOuts, Free.At, List.getElem?_cons_succ, List.getElem?_cons_zero, Array.getD_eq_getD_getElem?, List.getElem?_toArray, Option.getD_some, and_true] at hO hD; go_simp; rfl)
  simp only [List.nil_append, List.cons_append]
  refine Free.Chain.pr (SlP [(n, d)]) [(4, 25)] [] (by kernel_rfl) (by kernel_rfl) rfl (SlP.stable _) ?_ ?_
  · (intro ev W hb hR hO hD; have hS := hF W hR; obtain ⟨hb1, hb2, hb3⟩ := hb; simp only [Free.AllDeps, Free.AllOuts, Free.At, List.getElem?_cons_succ, List.getElem?_cons_zero, Array.getD_eq_getD_getElem?, List.getElem?_toArray, Option.getD_some, and_true] at hO hD; go_simp; exact ⟨belAlloc _ _, SlP.one _ _ _ _⟩)
  simp only [List.nil_append, List.cons_append]
  refine Free.Chain.pr (fun v _ => v = .int .i64 y) [(5, 26), (3, 24)] [] (by kernel_rfl) (by kernel_rfl) rfl (fun _ _ _ _ h => h) ?_ ?_
  · (intro ev W hb hR hO hD; have hS := hF W hR; obtain ⟨hb1, hb2, hb3⟩ := hb; simp only [Free.AllDeps, Free.AllOuts, Free.At, List.getElem?_cons_succ, List.getElem?_cons_zero, Array.getD_eq_getD_getElem?, List.getElem?_toArray, Option.getD_some, and_true] at hO hD; go_simp; refine yields_enter ?_; (with_reducible refine (given_sl [(n, d)] y _ _ (by simp [maxLen]) hy.out hD.1).mono ?_); rintro e W2 ⟨rfl, hB2⟩; exact ⟨_, rfl, hB2, rfl⟩)
  simp only [List.nil_append, List.cons_append]
  refine Free.Chain.pr (SlI [x, y]) [(3, 24), (6, 27)] [] (by kernel_rfl) (by kernel_rfl) rfl (SlI.stable _) ?_ ?_
  · (intro ev W hb hR hO hD; have hS := hF W hR; obtain ⟨hb1, hb2, hb3⟩ := hb; simp only [Free.AllDeps, Free.AllOuts, Free.At, List.getElem?_cons_succ, List.getElem?_cons_zero, Array.getD_eq_getD_getElem?, List.getElem?_toArray, Option.getD_some, and_true] at hO hD; go_simp; exact ⟨belAlloc _ _, SlI.two _ _ _ _⟩)
  simp only [List.nil_append, List.cons_append]
  refine Free.Chain.pr (fun v _ => v = .int .i64 0) [(7, 28), (6, 27)] [] (by kernel_rfl) (by kernel_rfl) rfl (fun _ _ _ _ h => h) ?_ ?_
  · (intro ev W hb hR hO hD; have hS := hF W hR; obtain ⟨hb1, hb2, hb3⟩ := hb; simp only [Free.AllDeps, Free.AllOuts, Free.At, List.getElem?_cons_succ, List.getElem?_cons_zero, Array.getD_eq_getD_getElem?, List.getElem?_toArray, Option.getD_some, and_true] at hO hD; go_simp; refine yields_enter ?_; (with_reducible refine (first_sl [x, y] 0 _ _ (by simp [maxLen]) hz.out hD.1).mono ?_); rintro e W2 ⟨rfl, rfl⟩; exact ⟨_, rfl, Free.Bel.refl _, rfl⟩)
  simp only [List.nil_append, List.cons_append]
  refine Free.Chain.ex ?_ [(8, 29), (8, 29), (0, 21), (1, 22), (2, 23), (3, 24), (4, 25), (5, 26), (6, 27), (7, 28), (8, 29)] [] (by kernel_rfl) (by kernel_rfl) rfl Free.Bel.refl ?_ ?_
  rotate_left
  · (intro ev W hb hR hO hD; have hS := hF W hR; obtain ⟨hb1, hb2, hb3⟩ := hb; simp only [Free.AllDeps, Free.AllOuts, Free.At, List.getElem?_cons_succ, List.getElem?_cons_zero, Array.getD_eq_getD_getElem?, List.getElem?_toArray, Option.getD_some, and_true] at hO hD; go_simp; rfl)
  simp only [List.nil_append, List.cons_append]
  intro xs w2 hR hV
  simp only [Free.AllV, Free.At, List.length_cons, List.length_nil, Nat.reduceAdd, List.getElem?_cons_succ, List.getElem?_cons_zero, true_and] at hV
  simp only [Free.putsFrom, Act.put, Nat.zero_add, Nat.reduceAdd, hV, List.setIfInBounds_toArray, List.set_cons_succ, List.set_cons_zero]
  have HK2 := hF w2 hR
  clear hR hV hF HK
  go_wp2_with fail
  go_loopw [39] (fun i wr => ∃ k : Nat, (k : Int) ≤ N + 1 ∧ i = .int .i64 k ∧ Hid (∀ j, j < k → findB N D n d j = false) ∧ Kept mb w1 wr) (fun i _ => (N + 1 - intOf i).toNat)
  case atStart => exact ⟨0, by omega, rfl, fun j h => by omega, HK2⟩
  case round =>
    obtain ⟨k, hk, rfl, hno, HK⟩ := hrel
    clear HK2
    by_cases hlt : (k : Int) < N + 1
    · obtain ⟨c, p, q, hv, hc0, e1, e2, b1, b2, b3, b4⟩ := mostV_spec N D k 0 (by omega) (by omega) (by omega) (by omega)
      obtain ⟨r, hr⟩ : ∃ r, findB N D n d k = r := ⟨_, rfl⟩
      have HR := Lib.hid hr
      have hr2 : Hid (decide (n * q ≤ (q - p) * d) = r) := by
        show _ = _
        rw [← hr, findB, e1, e2, find_eq c p q n d hc0]
      have HV := Lib.hid hv
      have m1 := bigI (q - p) d 3000000000000 (by omega) (by omega) (by omega)
      have m2 : -3000000000000000 ≤ n * q ∧ n * q ≤ 3000000000000000 := by rw [Int.mul_comm]; exact bigI q n 3000000000000 (by omega) (by omega) (by omega)
      clear hr hv e1 e2
      go_wp2_with fail
      refine (most_any hb N lo hi D k 0 mb kb cb _ (HHo _ HK) (by omega) (by omega) (by omega) (by omega)).mono ?_
      rintro e w3 ⟨rfl, hK3⟩
      have K_w3 : Kept mb w1 w3 := by
        refine Kept.trans ?_ hK3
        repeat (first | exact HK | exact Kept.refl _ _ | refine Kept.alloc ?_ _ | refine Kept.drew ?_)
      rw [HV.out]
      clear hK3 HK
      have KA : Kept mb w1 (w3.alloc (.cells #[.int .i64 p, .int .i64 q] 32)) := K_w3.alloc _
      go_wp2_with fail
      refine (atleast_any (q - p) q n d r _ (by omega) (by omega) hr2).mono ?_
      rintro e w4 ⟨rfl, hB4⟩
      have K_w4 : Kept mb w1 w4 := by
        refine Kept.trans ?_ (.of_below hB4)
        repeat (first | exact KA | exact Kept.refl _ _ | refine Kept.alloc ?_ _ | refine Kept.drew ?_)
      clear hB4 KA
      cases r
      · go_wp2_with fail
        go_roundw
        case rel => exact ⟨k + 1, by omega, by go_num, fun j hj => (by
          by_cases h : j = k
          · subst h; exact HR.out
          · exact hno.out j (by omega)), K_w4⟩
        case measure => simp [intOf]; omega
      · go_wp2_with fail
        go_ret2
        have hbb := HBB.out
        subst hbb
        exact ⟨⟨k, 0, rfl, .inl ⟨rfl, k, rfl, by omega, HR.out, hno.out⟩⟩, HBE.out _ K_w4⟩
    · go_wp2_with fail
      go_ret2
      have hbb := HBB.out
      subst hbb
      exact ⟨⟨0, 6, rfl, .inr ⟨rfl, rfl, fun j hj => hno.out j (by omega)⟩⟩, HBE.out _ HK⟩
/-- What Find returns. -/
def FindAll (N lo hi D n d k q : Int) : Prop :=
  if cargoB N lo hi = false then k = 0 ∧ q = 10 else if findE lo hi D n d ≠ 0 then k = 0 ∧ q = findE lo hi D n d else FindIs (findB N D n d) N k q
theorem find_any (N lo hi D n d : Int) (w : World) :
    Calls Tryd.prog 19 #[.agg #[.int .i64 N, .int .i64 lo, .int .i64 hi], .int .i64 D, .agg #[.int .i64 n, .int .i64 d]] w fun e w' => (∃ k q : Int, e = .returned (.tuple #[.int .i64 k, .int .i64 q]) ∧ FindAll N lo hi D n d k q) ∧ Below w.heap.size w w' := by
  cases hc : cargoB N lo hi
  · exact (find_a N lo hi D n d w hc).mono fun e w' ⟨h1, h2⟩ => ⟨⟨0, 10, h1, by rw [FindAll, if_pos hc]; exact ⟨rfl, rfl⟩⟩, h2⟩
  · by_cases hz : findE lo hi D n d = 0
    · have h0 := findE_zero hz
      exact (find_c N lo hi D n d w hc _ _ rfl rfl hz h0.1 h0.2).mono fun e w' ⟨⟨k, q, h1, h3⟩, h2⟩ => ⟨⟨k, q, h1, by rw [FindAll, if_neg (by simp [hc]), if_neg (by simp [hz])]; exact h3⟩, h2⟩
    · exact (find_b N lo hi D n d w hc _ _ _ rfl rfl rfl (by simpa [findE] using hz)).mono fun e w' ⟨h1, h2⟩ => ⟨⟨0, _, h1, by rw [FindAll, if_neg (by simp [hc]), if_pos hz]; exact ⟨rfl, rfl⟩⟩, h2⟩
end Go.Proofs.YtinndhmjojpekaaDoor

/- What terms take off for a draw. -/
namespace Go.Proofs.YtinndhmjojpekaaDoor
set_option linter.unusedSimpArgs false
set_option linter.unusedVariables false
open Go.RowKit Go.Shelf RR
attribute [local go_sem] Oper.semAt_some

def offB (o f : Int) (x : Int × Int) : Bool := decide (0 < o) && decide (x.1 * o ≤ 100 * f)
def offR (o f : Int) (l : List (Int × Int × Int)) : Int := match l.find? (fun x => offB o f x.2) with | some x => x.2.2 | none => 0
/-- What terms take off. -/
def offV (xs : List (Int × Int)) (o f : Int) : Int := offR o f (revT xs xs.length)
theorem offR_skip {o f : Int} {pre : List (Int × Int × Int)} {x : Int × Int × Int} (h : ∀ rest, offR o f (pre ++ rest) = offR o f rest) (hx : offB o f x.2 = false) : ∀ rest, offR o f (pre ++ [x] ++ rest) = offR o f rest := fun rest => by
  rw [List.append_assoc, h]; simp [offR, hx]
theorem offR_hit {o f : Int} {pre : List (Int × Int × Int)} {x : Int × Int × Int} (h : ∀ rest, offR o f (pre ++ rest) = offR o f rest) (hx : offB o f x.2 = true) : ∀ rest, offR o f (pre ++ [x] ++ rest) = x.2.2 := fun rest => by
  rw [List.append_assoc, h]; simp [offR, hx]
theorem revT_mem (xs : List (Int × Int)) : ∀ k, k ≤ xs.length → ∀ x ∈ revT xs k, x.2 ∈ xs
  | 0, _, x, h => by simp [revT] at h
  | k + 1, hk, x, h => by
    rcases List.mem_append.1 h with h | h
    · exact revT_mem xs k (by omega) x h
    · simp at h
      subst h
      have : xs.length - (k + 1) < xs.length := by omega
      simp only [List.getD_eq_getElem?_getD, List.getElem?_eq_getElem this, Option.getD_some]
      exact List.getElem_mem this

set_option maxRecDepth 100000 in
set_option maxHeartbeats 1000000 in
theorem backT_any (p : Option Addr) (n cap : Nat) (w : World) :
    Calls Tryd.prog 67 #[.slice p n cap] w fun e w' => e = .returned (.func (.func 73) #[] #[.pointer (some ⟨w.heap.size, 0, none⟩)]) ∧ w.alloc (.cells #[.slice p n cap] 62) = w' := by
  go_enter Tryd.func67, Tryd.ntmps67
  go_wp2_with fail
  go_ret
  exact ⟨rfl, rfl⟩
section
variable {w W W' : World}
theorem heap_bel {b : Nat} {o : Obj} (h : W.heap[b]? = some o) (hB : Free.Bel W W') : W'.heap[b]? = some o := (hB.block b (lt_of_heap h)).trans h
theorem heap_grown {b : Nat} {o : Obj} {row : Option Nat} (h : W.heap[b]? = some o) (hg : W.grownBy W' row) (hne : some b ≠ row) : W'.heap[b]? = some o := (hg.block b (lt_of_heap h) hne).trans h
theorem heap_set {b b' k : Nat} {o : Obj} {v : Value} (h : W.heap[b]? = some o) (hne : b ≠ b') : (W.setCell ⟨b', k, none⟩ v).heap[b]? = some o := (Below.heap_setCell _ _ _ _ hne).trans h
end

set_option maxRecDepth 100000 in
set_option maxHeartbeats 4000000 in
theorem off_any (xs : List (Int × Int)) (v : Value) (o f : Int) (w : World) (hv : PL xs v w) (hxs : ∀ t ∈ xs, 0 ≤ t.1 ∧ t.1 ≤ 100) (ho : 0 ≤ o ∧ o ≤ 36) (hf : 0 ≤ f ∧ f ≤ 36) :
    Calls Tryd.prog 53 #[v, .agg #[.int .i64 o, .int .i64 f]] w fun e w' => e = .returned (.int .i64 (offV xs o f)) ∧ Below w.heap.size w w' := by
  have hv' := hv
  obtain ⟨p, cap, rfl, _, _⟩ := hv'
  obtain ⟨s, hs⟩ : ∃ s, w.heap.size = s := ⟨_, rfl⟩
  have bR0 := World.alloc_heap_new (w.alloc (.cells #[.int .i64 o, .int .i64 f] 49)) (.cells #[.int .i64 0] 3)
  have bD0 := World.alloc_heap_new w (.cells #[.int .i64 o, .int .i64 f] 49)
  obtain ⟨W2, hW2⟩ : ∃ W2, (w.alloc (.cells #[.int .i64 o, .int .i64 f] 49)).alloc (.cells #[.int .i64 0] 3) = W2 := ⟨_, rfl⟩
  have bD1 := heap_bel bD0 (belAlloc (w.alloc (.cells #[.int .i64 o, .int .i64 f] 49)) (.cells #[.int .i64 0] 3))
  have hB2 : Below w.heap.size w W2 := by rw [← hW2]; exact ((Below.refl _ w).alloc (Nat.le_refl _) _).alloc (by simp) _
  have hs2 : W2.heap.size = s + 2 := by rw [← hW2, ← hs]; simp
  rw [hW2] at bR0 bD1
  simp only [World.size_alloc, hs] at bR0 bD1
  have bR := heap_bel bR0 (belAlloc W2 (.cells #[.slice p xs.length cap] 62))
  have bD := heap_bel bD1 (belAlloc W2 (.cells #[.slice p xs.length cap] 62))
  have bS := World.alloc_heap_new W2 (.cells #[.slice p xs.length cap] 62)
  rw [hs2] at bS
  have hB3 : Below s w (W2.alloc (.cells #[.slice p xs.length cap] 62)) := by rw [← hs]; exact hB2.alloc hB2.size _
  have hseq : SeqL Fence.wide (5 - 1) Tryd.prog 73 #[.pointer (some ⟨s + 2, 0, none⟩)] encT Free.Bel (Below (s + 3)) (revT xs xs.length) (W2.alloc (.cells #[.slice p xs.length cap] 62)) := fun l J Jx W hW hJ hJx hY h0 =>
    backT1_in (5 - 1) l (s + 2) (s + 3) _ xs (by omega) w W hv (by omega) (by rw [hs]; exact hB3.trans (hW.mono (by simp [hs2]; omega))) (cell_of_heap (heap_bel bS hW) rfl) (by omega) J Jx hY h0
  have HSEQ := Lib.hid hseq
  have HBS := Lib.hid (And.intro bR (And.intro bD (And.intro hB3 hs2)))
  have HXS := Lib.hid (fun (x : Int × Int × Int) (pre : List (Int × Int × Int)) (h : pre ++ [x] <+: revT xs xs.length) => hxs _ (revT_mem xs xs.length (Nat.le_refl _) x (h.subset (by simp))))
  have HS := Lib.hid hs
  clear hseq bR bD bS hB3 bR0 bD0 bD1 hB2 hxs hv
  refine (callsIn_wide (n := 5)).1 ?_
  refine callsIn_of_wp_marks Tryd.func53 rfl trivial ?_ rfl
  simp only [Tryd.ntmps53, List.size_toArray, List.length_cons, List.length_nil, Nat.reduceAdd, Nat.reduceSub, Array.replicate_succ, Array.replicate_zero, List.push_toArray, List.append_toArray, List.nil_append, List.cons_append]
  gi_wp2
  refine ⟨trivial, ?_⟩
  gi_at_call 67
  refine (callsIn_wide.2 (backT_any p xs.length cap W2)).mono ?_
  rintro e w1 ⟨rfl, hw1⟩
  subst hw1
  rw [hs2]
  gi_wp2
  refine wpIn_rangeFunc_RH (F := Fence.wide) (n := 5) rfl (by omega) (gf := 73) (lb := #[.pointer (some ⟨s + 2, 0, none⟩)]) rfl trivial (enters_of Tryd.func73 (by kernel_rfl) rfl)
    HSEQ.out (fun A b _ h => Free.Bel.trans _ _ _ h (belAlloc A b)) (Free.Bel.refl _) (fun A B k b h _ hA => heap_bel hA h)
    Below.trans (fun W l b b' hl h _ _ => Below.putNew b' (by simp [hs2] at hl; omega)) (fun _ => rfl)
    (fun pre W => (∀ rest, offR o f (pre ++ rest) = offR o f rest) ∧ W.heap[s + 1]? = some (.cells #[.int .i64 0] 3) ∧ W.heap[s]? = some (.cells #[.int .i64 o, .int .i64 f] 49) ∧ Below s w W ∧ s + 3 ≤ W.heap.size)
    (fun c pre W => c = .ret ∧ (∃ q, W.cell? ⟨s + 1, 0, none⟩ = some (.int .i64 q) ∧ ∀ rest, offR o f (pre ++ rest) = q) ∧ Below s w W)
    ?own ?ownx ?abide ?abidex ⟨fun _ => rfl, HBS.out.1, HBS.out.2.1, HBS.out.2.2.1, by simp [HBS.out.2.2.2]⟩
    (fun x a' W => ∃ B, s + 3 ≤ B ∧ Two B (.int .i64 x.2.1) (.int .i64 x.2.2) W ∧ a' = { tmps := #[.slice p xs.length cap, .agg #[.int .i64 o, .int .i64 f], undef, .pointer (some ⟨s, 0, none⟩), .pointer (some ⟨s + 1, 0, none⟩), undef, .pointer (some ⟨B, 0, none⟩), .slice p xs.length cap, .func (.func 73) #[] #[.pointer (some ⟨s + 2, 0, none⟩)], .int .i64 x.1, .agg #[.int .i64 x.2.1, .int .i64 x.2.2], undef, undef, undef, undef, undef, undef, undef, undef, undef, undef, undef, undef, undef, undef, undef, undef], defers := [] })
    ?hAx ?assign ?body ?done ?stop
  case own =>
    rintro pre A B row ⟨hp, hr, hd, hB, hsz⟩ hg hrow
    have hne : ∀ b, b < s + 3 → some b ≠ row := fun b hb e => by have := (hrow _ e.symm).1; simp [hs2] at this; omega
    exact ⟨hp, heap_grown hr hg (hne _ (by omega)), heap_grown hd hg (hne _ (by omega)), hB.trans (Below.of_grown hg (by rw [← HS.out]; exact hB.size) (fun r e => by have := (hrow r e).1; simp [hs2] at this; omega)), Nat.le_trans hsz hg.size⟩
  case ownx =>
    rintro c pre A B row ⟨rfl, ⟨q, hq, hp⟩, hB⟩ hg hrow
    exact ⟨rfl, ⟨q, cell_kept hq hg (fun r e => (hrow r e).2), hp⟩, hB.trans (Below.of_grown hg (by rw [← HS.out]; exact hB.size) (fun r e => by have := (hrow r e).1; simp [hs2] at this; omega))⟩
  case abide =>
    rintro pre A B ⟨hp, hr, hd, hB, hsz⟩ hR
    exact ⟨hp, heap_bel hr hR, heap_bel hd hR, hB.trans (hR.mono (by omega)), Nat.le_trans hsz hR.size⟩
  case abidex =>
    rintro c pre A B ⟨rfl, ⟨q, hq, hp⟩, hB⟩ hR
    exact ⟨rfl, ⟨q, (World.cell?_of_block (w := A) (a := ⟨s + 1, 0, none⟩) (hR.block _ (lt_of_cell hq))).trans hq, hp⟩, hB.trans (hR.mono (by rw [← HS.out]; exact hB.size))⟩
  case hAx =>
    rintro x a' _ A B row ⟨b, hb, hT, rfl⟩ hg hrow
    have hr' := fun r e => (hrow r e).2
    exact ⟨b, hb, ⟨cell_kept hT.c0 hg hr', cell_kept hT.c1 hg hr', (frozen_kept hT.c0 hg hr').trans hT.f0, (frozen_kept hT.c1 hg hr').trans hT.f1⟩, rfl⟩
  case assign =>
    intro l pre x W K hI hpre hK
    obtain ⟨hp, hr, hd, hB, hsz⟩ := hI
    have c0 : (W.alloc (.cells #[.int .i64 x.2.1, .int .i64 x.2.2] 102)).heap[W.heap.size]? = _ := World.alloc_heap_new W _
    gi_wp2
    exact hK _ _ ((KeepsOthers.alloc W _).from _) ((Below.refl _ W).alloc hsz _) ⟨hp, heap_bel hr (belAlloc W _), heap_bel hd (belAlloc W _), hB.alloc (by omega) _, by simp; omega⟩ ⟨W.heap.size, hsz, ⟨cell_of_heap c0 rfl, cell_of_heap c0 rfl, frozen_of_heap c0, frozen_of_heap c0⟩, rfl⟩
  case body =>
    rintro l pre x a' W ⟨hp, hr, hd, hB, hsz⟩ ⟨b, hb, hT, rfl⟩ hpre
    have hx := HXS.out x pre hpre
    have hm1 : 0 ≤ x.2.1 * o := Int.mul_nonneg hx.1 ho.1
    have hm2 : x.2.1 * o ≤ 100 * 36 := Int.mul_le_mul hx.2 ho.2 ho.1 (by omega)
    have hrc := Boxed.cell hr
    have hrf := Boxed.frozen hr
    have hd0 : W.cell? ⟨s, 0, none⟩ = some (.int .i64 o) := cell_of_heap hd rfl
    have hd1 : W.cell? ⟨s, 1, none⟩ = some (.int .i64 f) := cell_of_heap hd rfl
    have hc0 := hT.c0
    have hc1 := hT.c1
    rw [show (W2.alloc (.cells #[.slice p xs.length cap] 62)).heap.size = s + 3 by simp [hs2]]
    gi_wp2
    · exact ⟨(KeepsOthers.setCell _ _ _).from _, rfl, ⟨x.2.2, World.cell?_setCell_same' _ _ _ (by rw [hrc]; rfl), offR_hit hp (by simp [offB]; omega)⟩, hB.setCell (p := ⟨s + 1, 0, none⟩) (by simp) _⟩
    · exact ⟨KeepsFrom.refl _ _, Below.refl _ _, offR_skip hp (by simp [offB]; omega), hr, hd, hB, hsz⟩
    · exact ⟨KeepsFrom.refl _ _, Below.refl _ _, offR_skip hp (by simp [offB]; omega), hr, hd, hB, hsz⟩
  case done =>
    rintro D W hD ⟨hp, hr, hd, hB, hsz⟩ hKD
    have hrc := Boxed.cell hr
    have hrf := Boxed.frozen hr
    gi_wp2
    have hK' := (KeepsOthers.setCell W ⟨s + 1, 0, none⟩ (.int .i64 0)).same D _ hKD rfl
    refine ⟨by simp, .inl ⟨_, _, rfl, run_takeDeferred hK', ?_⟩⟩
    have hc5 := cell_kept (World.cell?_setCell_same' W ⟨s + 1, 0, none⟩ (.int .i64 0) (by rw [hrc]; rfl)) (grownBy_putObj' _ D (.deferred none)) (fun r e => by cases e; exact ⟨_, hK', rfl⟩)
    have ho0 : offV xs o f = 0 := by have := hp []; rwa [List.append_nil] at this
    refine ⟨.int .i64 0, ?_, by rw [ho0], ?_⟩
    · simp [results, Tryd.f53, go_sem, hc5]
    · rw [HS.out]
      exact (hB.setCell (p := ⟨s + 1, 0, none⟩) (by simp) _).trans (Below.putNew _ (by simp [hs2] at hD; omega))
  case stop =>
    rintro D c pre W hD ⟨t, ht⟩ ⟨rfl, ⟨q, hq, hp⟩, hB⟩ hKD
    gi_wp2
    refine ⟨by simp, .inl ⟨_, _, rfl, run_takeDeferred hKD, ?_⟩⟩
    have hc5 := cell_kept hq (grownBy_putObj' _ D (.deferred none)) (fun r e => by cases e; exact ⟨_, hKD, rfl⟩)
    have hq := hp t
    rw [ht] at hq
    refine ⟨.int .i64 q, ?_, by rw [offV, hq], ?_⟩
    · simp [results, Tryd.f53, go_sem, hc5]
    · rw [HS.out]
      exact hB.trans (Below.putNew _ (by simp [hs2] at hD; omega))
end Go.Proofs.YtinndhmjojpekaaDoor

/- Blocks of one content may turn, all others stay; a box that a region makes and stores once. -/
namespace Go.Proofs.YtinndhmjojpekaaDoor
set_option linter.unusedSimpArgs false
set_option linter.unusedVariables false
open Go.RowKit Go.Proofs.YtinndhmjojpekaaDoor.Free2

/-- Blocks below s0 stay, and of the later ones all that are not the object o0. -/
structure KO (s0 : Nat) (o0 : Obj) (w w' : World) : Prop where
  below : Below s0 w w'
  keep : ∀ (k : Nat) (o : Obj), w.heap[k]? = some o → o ≠ o0 → w'.heap[k]? = some o
section
variable {s0 : Nat} {o0 : Obj} {a w w' W : World}
theorem KO.refl (w : World) : KO s0 o0 w w := ⟨Below.refl _ _, fun _ _ h _ => h⟩
theorem KO.trans (h : KO s0 o0 a w) (k : KO s0 o0 w w') : KO s0 o0 a w' := ⟨h.below.trans k.below, fun i o ho hne => k.keep i o (h.keep i o ho hne) hne⟩
theorem KO.of_bel (h : Free.Bel w w') (hs : s0 ≤ w.heap.size) : KO s0 o0 w w' := ⟨h.mono hs, fun k o ho _ => (h.block k (lt_of_heap ho)).trans ho⟩
theorem KO.store {b o : Nat} {v : Value} (hs : s0 ≤ b) (hb : w.heap[b]? = some o0) : KO s0 o0 w (w.setCell ⟨b, o, none⟩ v) :=
  ⟨(Below.refl s0 w).setCell (p := ⟨b, o, none⟩) hs v, fun k o' ho hne => (Below.heap_setCell _ _ _ _ (by
    rintro rfl
    try simp only at ho
    rw [hb] at ho; cases ho; exact hne rfl)).trans ho⟩
/-- What a cell holds tells its block from the one that may turn. -/
theorem KO.cell {t : TypeId} {p : Addr} {v : Value} (h : KO s0 (.cells #[.pointer none] t) w w') (hv : w.cell? p = some v) (hne : v ≠ .pointer none) : w'.cell? p = some v := by
  have hlt := lt_of_cell hv
  have ho : w.heap[p.block]? = some w.heap[p.block] := by simp [hlt]
  refine (World.cell?_of_block (w := w) ?_).trans hv
  rw [ho]
  refine h.keep _ _ ho fun e => hne ?_
  rw [e] at ho
  obtain ⟨b, o, pth⟩ := p
  try simp only at ho
  simp [World.cell?, ho] at hv
  cases pth <;> rcases o with _ | o <;> simp_all
theorem KO.memo {mb : Nat} {t : TypeId} (h : KO s0 (.cells #[.pointer none] t) w w') (hm : Memo mb w) : Memo mb w' := by
  obtain ⟨l, ⟨es, c, hb, hr⟩, hv⟩ := hm
  exact ⟨l, ⟨es, c, h.keep _ _ hb (by simp), hr⟩, hv⟩
theorem KO.hold {hb : Nat} {N lo hi : Int} {mb kb cb : Nat} {t : TypeId} (h : KO s0 (.cells #[.pointer none] t) w w') (hH : Hold hb N lo hi mb kb cb w) : Hold hb N lo hi mb kb cb w' :=
  ⟨⟨h.memo hH.ctr.memo, h.cell hH.ctr.known (by simp), h.cell hH.ctr.count (by simp)⟩, h.cell hH.bags (by simp), h.cell hH.lo (by simp), h.cell hH.hi (by simp), h.cell hH.sets (by simp)⟩
theorem KO.slp {t : TypeId} {xs : List (Int × Int)} {v : Value} (h : KO s0 (.cells #[.pointer none] t) w w') (hs : SlP xs v w) : SlP xs v w' :=
  let ⟨b, h1, h2⟩ := hs
  ⟨b, h1, fun k hk => ⟨h.cell (h2 k hk).1 (by simp), h.cell (h2 k hk).2 (by simp)⟩⟩

/-- A pointer to a cargo at work. -/
def HoldV (N lo hi : Int) (s0 : Nat) (v : Value) (w : World) : Prop := ∃ hb mb kb cb, v = .pointer (some ⟨hb, 0, none⟩) ∧ Hold hb N lo hi mb kb cb w ∧ s0 ≤ mb ∧ s0 ≤ hb
/-- A row of numbers. -/
def RowV (L : List Int) (s0 : Nat) (v : Value) (w : World) : Prop := ∃ p cap, v = .slice p L.length cap ∧ (L ≠ [] → ∃ g, p = some ⟨g, 0, none⟩ ∧ s0 ≤ g ∧ ∀ j, j < L.length → w.cell? ⟨g, 0 + j, none⟩ = some (.int .i64 (L.getD j 0)))
theorem RowV.of {base : Nat} {t : TypeId} {v : Value} {L : List Int} (h : w.ownsRow base t 1 v L.length (L.map (Value.int .i64))) (hb : s0 ≤ base) : RowV L s0 v w := by
  by_cases hL : L = []
  · rcases h.2 with ⟨rfl, h0⟩ | ⟨g, cap, cur, rfl, _⟩
    · exact ⟨none, 0, by rw [h0], fun h => absurd hL h⟩
    · exact ⟨_, _, rfl, fun h => absurd hL h⟩
  · obtain ⟨g, cap, rfl, h1, h2, _⟩ := row_ints h hL
    exact ⟨_, _, rfl, fun _ => ⟨g, rfl, by omega, h2⟩⟩
theorem HoldV.ko {t : TypeId} {N lo hi : Int} {s1 : Nat} {v : Value} (h : HoldV N lo hi s1 v w) (k : KO s0 (.cells #[.pointer none] t) w w') : HoldV N lo hi s1 v w' :=
  let ⟨hb, mb, kb, cb, h1, h2, h3, h4⟩ := h
  ⟨hb, mb, kb, cb, h1, k.hold h2, h3, h4⟩
theorem RowV.ko {t : TypeId} {L : List Int} {s1 : Nat} {v : Value} (h : RowV L s1 v w) (k : KO s0 (.cells #[.pointer none] t) w w') : RowV L s1 v w' :=
  let ⟨p, cap, h1, h2⟩ := h
  ⟨p, cap, h1, fun hL => let ⟨g, h3, h4, h5⟩ := h2 hL; ⟨g, h3, h4, fun j hj => k.cell (h5 j hj) (by simp)⟩⟩
/-- What known returns. -/
def KnV (N lo hi : Int) (L : List Int) (s0 : Nat) (v : Value) (w : World) : Prop := ∃ x y, v = .tuple #[x, y, .int .i64 (unlessV (decide (0 < (L.length : Int))) 8)] ∧ HoldV N lo hi s0 x w ∧ RowV L s0 y w
theorem KnV.ko {t : TypeId} {N lo hi : Int} {L : List Int} {s1 : Nat} {v : Value} (h : KnV N lo hi L s1 v w) (k : KO s0 (.cells #[.pointer none] t) w w') : KnV N lo hi L s1 v w' :=
  let ⟨x, y, h1, h2, h3⟩ := h
  ⟨x, y, h1, h2.ko k, h3.ko k⟩
theorem KnV.of {N lo hi o f : Int} {e : Ending} (h : KnownIs N lo hi o f w e w') (hs : s0 ≤ w.heap.size) : ∃ v, e = .returned v ∧ KnV N lo hi (ableL N lo hi o f) s0 v w' ∧ Below w.heap.size w w' := by
  obtain ⟨hb, mb, kb, cb, base, v, rfl, hH, hr, h1, h2, h3, h4, h5, h6⟩ := h
  exact ⟨_, rfl, ⟨_, _, rfl, ⟨hb, mb, kb, cb, rfl, hH, by omega, by omega⟩, RowV.of hr (by omega)⟩, h6⟩

/-- Operation i makes a box, operation j stores the value of operation k there. -/
structure LQ (s0 i j k : Nat) (t : TypeId) (X : XT) (w : World) : Prop where
  first : X i = none → X j = none
  from_ : X k = none → X j = none
  size : s0 ≤ w.heap.size
  blk : ∀ v, X i = some v → ∃ b, v = ptr b ∧ s0 ≤ b ∧ (X j = none → w.heap[b]? = some (.cells #[.pointer none] t)) ∧ (X j ≠ none → ∃ p, X k = some p ∧ w.heap[b]? = some (.cells #[p] t))
variable {i j k : Nat} {t : TypeId} {X : XT}
theorem LQ.start (h : s0 ≤ w.heap.size) : LQ s0 i j k t (fun _ => none) w := ⟨fun _ => rfl, fun _ => rfl, h, fun v h => (by cases h)⟩
theorem LQ.skip (h : LQ s0 i j k t X w) (n : Nat) (v : Value) (h1 : n ≠ i) (h2 : n ≠ j) (h3 : n ≠ k) : LQ s0 i j k t (upd X n v) w := by
  refine ⟨?_, ?_, h.size, ?_⟩
  · rw [upd_other _ _ h1.symm, upd_other _ _ h2.symm]; exact h.first
  · rw [upd_other _ _ h3.symm, upd_other _ _ h2.symm]; exact h.from_
  · rw [upd_other _ _ h1.symm, upd_other _ _ h2.symm, upd_other _ _ h3.symm]; exact h.blk
theorem LQ.took (h : LQ s0 i j k t X w) (v : Value) (hk : X k = none) (h1 : k ≠ i) (h2 : k ≠ j) : LQ s0 i j k t (upd X k v) w := by
  have hj := h.from_ hk
  refine ⟨?_, ?_, h.size, ?_⟩
  · rw [upd_other _ _ h1.symm, upd_other _ _ h2.symm]; exact h.first
  · rw [upd_same]; exact fun h => (by cases h)
  · rw [upd_other _ _ h1.symm, upd_other _ _ h2.symm]
    intro u hu
    obtain ⟨b, r1, r2, r3, r4⟩ := h.blk u hu
    exact ⟨b, r1, r2, r3, fun hh => absurd hj hh⟩
theorem LQ.bel (h : LQ s0 i j k t X w) (hB : Free.Bel w w') : LQ s0 i j k t X w' :=
  ⟨h.first, h.from_, Nat.le_trans h.size hB.size, fun v hv => by
    obtain ⟨b, r1, r2, r3, r4⟩ := h.blk v hv
    exact ⟨b, r1, r2, fun hj => (hB.block b (lt_of_heap (r3 hj))).trans (r3 hj), fun hj => let ⟨p, q1, q2⟩ := r4 hj; ⟨p, q1, (hB.block b (lt_of_heap q2)).trans q2⟩⟩⟩
theorem LQ.new (h : LQ s0 i j k t X w) (hij : i ≠ j) (hik : i ≠ k) (hi : X i = none) : LQ s0 i j k t (upd X i (ptr w.heap.size)) (w.alloc (.cells #[.pointer none] t)) := by
  refine ⟨fun h0 => (by rw [upd_same] at h0; cases h0), ?_, by simp; have := h.size; omega, fun v hv => ?_⟩
  · rw [upd_other _ _ hik.symm, upd_other _ _ hij.symm]; exact h.from_
  · rw [upd_same] at hv
    cases hv
    rw [upd_other _ _ hij.symm]
    exact ⟨_, rfl, h.size, fun _ => World.alloc_heap_new w _, fun hj => absurd (h.first hi) hj⟩
theorem LQ.at_ (h : LQ s0 i j k t X w) {v : Value} (hv : X i = some v) (hj : X j = none) : ∃ b, v = ptr b ∧ s0 ≤ b ∧ w.heap[b]? = some (.cells #[.pointer none] t) := by
  obtain ⟨b, r1, r2, r3, r4⟩ := h.blk v hv
  exact ⟨b, r1, r2, r3 hj⟩
theorem LQ.stored (h : LQ s0 i j k t X w) (hij : i ≠ j) (hkj : k ≠ j) {b : Nat} {p : Value} (hv : X i = some (ptr b)) (hp : X k = some p) (hs : s0 ≤ b) (hb : w.heap[b]? = some (.cells #[.pointer none] t)) (u : Value) : LQ s0 i j k t (upd X j u) (w.setCell ⟨b, 0, none⟩ p) := by
  refine ⟨fun h0 => (by rw [upd_other _ _ hij] at h0; rw [hv] at h0; cases h0), fun h0 => (by rw [upd_other _ _ hkj] at h0; rw [hp] at h0; cases h0), by simpa using h.size, fun v hv' => ?_⟩
  rw [upd_other _ _ hij, hv] at hv'
  cases hv'
  rw [upd_same, upd_other _ _ hkj]
  refine ⟨b, rfl, hs, (by intro h; cases h), fun _ => ⟨p, hp, ?_⟩⟩
  have := heap_setCell_same (o := 0) p hb
  simpa using this
theorem LQ.done (h : LQ s0 i j k t X w) {v u : Value} (hv : X i = some v) (hu : X j = some u) : ∃ b p, v = ptr b ∧ s0 ≤ b ∧ X k = some p ∧ w.heap[b]? = some (.cells #[p] t) := by
  obtain ⟨b, r1, r2, r3, r4⟩ := h.blk v hv
  obtain ⟨p, q1, q2⟩ := r4 (by simp [hu])
  exact ⟨b, p, r1, r2, q1, q2⟩
end
end Go.Proofs.YtinndhmjojpekaaDoor

/- The reference's comparison of lists of numbers. -/
namespace Go.Proofs.YtinndhmjojpekaaDoor
set_option linter.unusedSimpArgs false
set_option linter.unusedVariables false
open Go.RowKit Go.Proofs.YtinndhmjojpekaaDoor.ML Go.Proofs.YtinndhmjojpekaaDoor.Samp

/-- A slice that holds this list of numbers. -/
def IL (xs : List Int) (v : Value) (w : World) : Prop := ∃ p cap, v = .slice p xs.length cap ∧ xs.length ≤ maxLen ∧ (xs ≠ [] → ∃ b off, p = some ⟨b, off, none⟩ ∧ ∀ k, (h : k < xs.length) → w.cell? ⟨b, off + k, none⟩ = some (.int .i64 xs[k]))
theorem IL.nil (w : World) : IL [] (.slice none 0 0) w := ⟨none, 0, rfl, by simp, fun h => absurd rfl h⟩
theorem IL.keeps {xs : List Int} {v : Value} {w w' : World} (h : IL xs v w) (hB : Below w.heap.size w w') : IL xs v w' :=
  let ⟨p, cap, h1, h2, h3⟩ := h
  ⟨p, cap, h1, h2, fun hx => let ⟨b, off, h4, h5⟩ := h3 hx; ⟨b, off, h4, fun k hk => keepsB hB (h5 k hk)⟩⟩
theorem IL.of_row {L : List Int} {s0 : Nat} {v : Value} {w : World} (h : RowV L s0 v w) (hm : L.length ≤ maxLen) : IL L v w :=
  let ⟨p, cap, h1, h2⟩ := h
  ⟨p, cap, h1, hm, fun hL => let ⟨g, h3, h4, h5⟩ := h2 hL; ⟨g, 0, h3, fun k hk => by simpa [hk] using h5 k hk⟩⟩

set_option maxRecDepth 100000 in
set_option maxHeartbeats 2000000 in
theorem sameI_any (xs : List Int) (u v : Value) (w : World) (hu : IL xs u w) (hv : IL xs v w) :
    Calls Tryd.prog 25 #[u, v] w fun e w' => e = .returned (.bool true) ∧ Below w.heap.size w w' := by
  obtain ⟨p, cp, rfl, hm, hp⟩ := hu
  obtain ⟨q, cq, rfl, _, hq⟩ := hv
  unfold maxLen at hm
  have HP := Lib.hid hp
  have HQ := Lib.hid hq
  clear hp hq
  go_enter Tryd.func25, Tryd.ntmps25
  go_wp2_with fail
  go_loopw [5] (fun i wr => ∃ k : Nat, k ≤ xs.length ∧ i = .int .i64 k ∧ Below w.heap.size w wr) (fun i _ => xs.length - (intOf i).toNat)
  case atStart => exact ⟨0, Nat.zero_le _, rfl, Below.refl _ _⟩
  case round =>
    obtain ⟨k, hk, rfl, hB⟩ := hrel
    by_cases hlt : k < xs.length
    · have hx : xs ≠ [] := by intro e; simp [e] at hlt
      obtain ⟨b, off, rfl, hcp⟩ := HP.out hx
      obtain ⟨b2, off2, rfl, hcq⟩ := HQ.out hx
      have e1 := keepsB hB (hcp k hlt)
      have e2 := keepsB hB (hcq k hlt)
      have HC := Lib.hid (And.intro e1 e2)
      have hklt : (k : Int) < xs.length := by omega
      generalize xs[k] = x at *
      clear hcp hcq
      go_wp2_with fail
      have hF : ∀ W, Free.Bel wr.drew W → W.cell? ⟨b, off + k, none⟩ = some (.int .i64 x) ∧ W.cell? ⟨b2, off2 + k, none⟩ = some (.int .i64 x) :=
        fun W hW => ⟨keepsB (Free.Bel.first hW) HC.out.1, keepsB (Free.Bel.first hW) HC.out.2⟩
      refine Free.wp_free (R := Free.Bel) (by kernel_rfl) (by kernel_rfl) Free.Bel.refl Free.Bel.trans ?_
      refine Free.Chain.ex ?_ [] [0] (by kernel_rfl) (by kernel_rfl) rfl Free.Bel.refl ?_ ?_
      rotate_left
      · (intro ev W hb hR hO hD; have hS := hF W hR; obtain ⟨hb1, hb2, hb3⟩ := hb; simp only [Free.AllDeps, Free.AllOuts, Free.At, List.getElem?_cons_succ, List.getElem?_cons_zero, Array.getD_eq_getD_getElem?, List.getElem?_toArray, Option.getD_some, and_true] at hO hD; go_simp; rfl)
      simp only [List.nil_append, List.cons_append]
      refine Free.Chain.ex ?_ [] [5] (by kernel_rfl) (by kernel_rfl) rfl Free.Bel.refl ?_ ?_
      rotate_left
      · (intro ev W hb hR hO hD; have hS := hF W hR; obtain ⟨hb1, hb2, hb3⟩ := hb; simp only [Free.AllDeps, Free.AllOuts, Free.At, List.getElem?_cons_succ, List.getElem?_cons_zero, Array.getD_eq_getD_getElem?, List.getElem?_toArray, Option.getD_some, and_true] at hO hD; go_simp; rfl)
      simp only [List.nil_append, List.cons_append]
      refine Free.Chain.ex ?_ [(0, 17), (1, 18)] [] (by kernel_rfl) (by kernel_rfl) rfl Free.Bel.refl ?_ ?_
      rotate_left
      · (intro ev W hb hR hO hD; have hS := hF W hR; obtain ⟨hb1, hb2, hb3⟩ := hb; simp only [Free.AllDeps, Free.AllOuts, Free.At, List.getElem?_cons_succ, List.getElem?_cons_zero, Array.getD_eq_getD_getElem?, List.getElem?_toArray, Option.getD_some, and_true] at hO hD; go_simp; rfl)
      simp only [List.nil_append, List.cons_append]
      refine Free.Chain.ex ?_ [(2, 19)] [] (by kernel_rfl) (by kernel_rfl) rfl Free.Bel.refl ?_ ?_
      rotate_left
      · (intro ev W hb hR hO hD; have hS := hF W hR; obtain ⟨hb1, hb2, hb3⟩ := hb; simp only [Free.AllDeps, Free.AllOuts, Free.At, List.getElem?_cons_succ, List.getElem?_cons_zero, Array.getD_eq_getD_getElem?, List.getElem?_toArray, Option.getD_some, and_true] at hO hD; go_simp; rfl)
      simp only [List.nil_append, List.cons_append]
      refine Free.Chain.ex ?_ [] [1] (by kernel_rfl) (by kernel_rfl) rfl Free.Bel.refl ?_ ?_
      rotate_left
      · (intro ev W hb hR hO hD; have hS := hF W hR; obtain ⟨hb1, hb2, hb3⟩ := hb; simp only [Free.AllDeps, Free.AllOuts, Free.At, List.getElem?_cons_succ, List.getElem?_cons_zero, Array.getD_eq_getD_getElem?, List.getElem?_toArray, Option.getD_some, and_true] at hO hD; go_simp; rfl)
      simp only [List.nil_append, List.cons_append]
      refine Free.Chain.ex ?_ [] [5] (by kernel_rfl) (by kernel_rfl) rfl Free.Bel.refl ?_ ?_
      rotate_left
      · (intro ev W hb hR hO hD; have hS := hF W hR; obtain ⟨hb1, hb2, hb3⟩ := hb; simp only [Free.AllDeps, Free.AllOuts, Free.At, List.getElem?_cons_succ, List.getElem?_cons_zero, Array.getD_eq_getD_getElem?, List.getElem?_toArray, Option.getD_some, and_true] at hO hD; go_simp; rfl)
      simp only [List.nil_append, List.cons_append]
      refine Free.Chain.ex ?_ [(4, 21), (5, 22)] [] (by kernel_rfl) (by kernel_rfl) rfl Free.Bel.refl ?_ ?_
      rotate_left
      · (intro ev W hb hR hO hD; have hS := hF W hR; obtain ⟨hb1, hb2, hb3⟩ := hb; simp only [Free.AllDeps, Free.AllOuts, Free.At, List.getElem?_cons_succ, List.getElem?_cons_zero, Array.getD_eq_getD_getElem?, List.getElem?_toArray, Option.getD_some, and_true] at hO hD; go_simp; rfl)
      simp only [List.nil_append, List.cons_append]
      refine Free.Chain.ex ?_ [(6, 23)] [] (by kernel_rfl) (by kernel_rfl) rfl Free.Bel.refl ?_ ?_
      rotate_left
      · (intro ev W hb hR hO hD; have hS := hF W hR; obtain ⟨hb1, hb2, hb3⟩ := hb; simp only [Free.AllDeps, Free.AllOuts, Free.At, List.getElem?_cons_succ, List.getElem?_cons_zero, Array.getD_eq_getD_getElem?, List.getElem?_toArray, Option.getD_some, and_true] at hO hD; go_simp; rfl)
      simp only [List.nil_append, List.cons_append]
      refine Free.Chain.ex ?_ [(3, 20), (7, 24)] [] (by kernel_rfl) (by kernel_rfl) rfl Free.Bel.refl ?_ ?_
      rotate_left
      · (intro ev W hb hR hO hD; have hS := hF W hR; obtain ⟨hb1, hb2, hb3⟩ := hb; simp only [Free.AllDeps, Free.AllOuts, Free.At, List.getElem?_cons_succ, List.getElem?_cons_zero, Array.getD_eq_getD_getElem?, List.getElem?_toArray, Option.getD_some, and_true] at hO hD; go_simp; rfl)
      simp only [List.nil_append, List.cons_append]
      intro xs w' hR hV
      simp only [Free.AllV, Free.At, List.length_cons, List.length_nil, Nat.reduceAdd, List.getElem?_cons_succ, List.getElem?_cons_zero, true_and] at hV
      simp only [Free.putsFrom, Act.put, hV, List.setIfInBounds_toArray, List.set_cons_succ, List.set_cons_zero]
      have HB2 := Lib.hid (hB.trans ((Free.Bel.first hR).mono hB.size))
      clear hR hV hF
      go_wp2_with fail
      go_roundw
      case rel => exact ⟨k + 1, by omega, by go_num, HB2.out⟩
      case measure => simp [intOf]; omega
    · obtain rfl : k = xs.length := by omega
      go_wp2_with fail
      go_ret
      exact ⟨rfl, hB⟩
end Go.Proofs.YtinndhmjojpekaaDoor

/- The most dirty bags where so much is clean: Bound. -/
namespace Go.Proofs.YtinndhmjojpekaaDoor
set_option linter.unusedSimpArgs false
set_option linter.unusedVariables false
open Go.RowKit Go.Proofs.YtinndhmjojpekaaDoor.ML Go.Proofs.YtinndhmjojpekaaDoor.Samp
open RR
attribute [local go_sem] Oper.semAt_some
theorem two_boxes {w : World} {a b : Nat} {x y : Value} (u v : Value) (h0 : w.cell? ⟨a, 0, none⟩ = some x) (h1 : w.cell? ⟨b, 0, none⟩ = some y) (hne : a ≠ b) :
    ((w.setCell ⟨a, 0, none⟩ u).setCell ⟨b, 0, none⟩ v).cell? ⟨a, 0, none⟩ = some u ∧ ((w.setCell ⟨a, 0, none⟩ u).setCell ⟨b, 0, none⟩ v).cell? ⟨b, 0, none⟩ = some v := by
  refine ⟨?_, ?_⟩
  · rw [World.cell?_setCell_other _ _ _ _ (by simp [hne])]
    exact World.cell?_setCell_same' _ _ _ (by rw [h0]; rfl)
  · exact World.cell?_setCell_same' _ _ _ (by rw [World.cell?_setCell_other _ _ _ _ (by simp [hne.symm]), h1]; rfl)

set_option maxRecDepth 100000 in
set_option maxHeartbeats 4000000 in
theorem bound_a (N lo hi o f n d : Int) (w : World) (hc : cargoB N lo hi = false) (m : Int) (hm : Hid (unlessV ([(n, d)].all fun x => givenB x.1 x.2) 12 = m)) :
    Calls Tryd.prog 18 #[.agg #[.int .i64 N, .int .i64 lo, .int .i64 hi], .agg #[.int .i64 o, .int .i64 f], .agg #[.int .i64 n, .int .i64 d]] w fun e w' => e = .returned (.tuple #[.int .i64 0, .int .i64 10]) ∧ Below w.heap.size w w' := by
  have hB0 : Below w.heap.size w (((((w.alloc (.cells #[.int .i64 N, .int .i64 lo, .int .i64 hi] 25)).alloc (.cells #[.int .i64 o, .int .i64 f] 49)).alloc (.cells #[.int .i64 n, .int .i64 d] 32)).alloc (.cells #[.int .i64 0] 3)).alloc (.cells #[.int .i64 0] 33)) := (((((Below.refl _ w).alloc (Nat.le_refl _) _).alloc (by simp) _).alloc (by simp; omega) _).alloc (by simp; omega) _).alloc (by simp; omega) _
  have c0_0 : (((((w.alloc (.cells #[.int .i64 N, .int .i64 lo, .int .i64 hi] 25)).alloc (.cells #[.int .i64 o, .int .i64 f] 49)).alloc (.cells #[.int .i64 n, .int .i64 d] 32)).alloc (.cells #[.int .i64 0] 3)).alloc (.cells #[.int .i64 0] 33)).cell? ⟨w.heap.size, 0, none⟩ = some (.int .i64 N) := by simp [go_sem]
  have c0_1 : (((((w.alloc (.cells #[.int .i64 N, .int .i64 lo, .int .i64 hi] 25)).alloc (.cells #[.int .i64 o, .int .i64 f] 49)).alloc (.cells #[.int .i64 n, .int .i64 d] 32)).alloc (.cells #[.int .i64 0] 3)).alloc (.cells #[.int .i64 0] 33)).cell? ⟨w.heap.size, 1, none⟩ = some (.int .i64 lo) := by simp [go_sem]
  have c0_2 : (((((w.alloc (.cells #[.int .i64 N, .int .i64 lo, .int .i64 hi] 25)).alloc (.cells #[.int .i64 o, .int .i64 f] 49)).alloc (.cells #[.int .i64 n, .int .i64 d] 32)).alloc (.cells #[.int .i64 0] 3)).alloc (.cells #[.int .i64 0] 33)).cell? ⟨w.heap.size, 2, none⟩ = some (.int .i64 hi) := by simp [go_sem]
  have c1_0 : (((((w.alloc (.cells #[.int .i64 N, .int .i64 lo, .int .i64 hi] 25)).alloc (.cells #[.int .i64 o, .int .i64 f] 49)).alloc (.cells #[.int .i64 n, .int .i64 d] 32)).alloc (.cells #[.int .i64 0] 3)).alloc (.cells #[.int .i64 0] 33)).cell? ⟨w.heap.size + 1, 0, none⟩ = some (.int .i64 o) := by simp [go_sem]
  have c1_1 : (((((w.alloc (.cells #[.int .i64 N, .int .i64 lo, .int .i64 hi] 25)).alloc (.cells #[.int .i64 o, .int .i64 f] 49)).alloc (.cells #[.int .i64 n, .int .i64 d] 32)).alloc (.cells #[.int .i64 0] 3)).alloc (.cells #[.int .i64 0] 33)).cell? ⟨w.heap.size + 1, 1, none⟩ = some (.int .i64 f) := by simp [go_sem]
  have c2_0 : (((((w.alloc (.cells #[.int .i64 N, .int .i64 lo, .int .i64 hi] 25)).alloc (.cells #[.int .i64 o, .int .i64 f] 49)).alloc (.cells #[.int .i64 n, .int .i64 d] 32)).alloc (.cells #[.int .i64 0] 3)).alloc (.cells #[.int .i64 0] 33)).cell? ⟨w.heap.size + 1 + 1, 0, none⟩ = some (.int .i64 n) := by simp [go_sem]
  have c2_1 : (((((w.alloc (.cells #[.int .i64 N, .int .i64 lo, .int .i64 hi] 25)).alloc (.cells #[.int .i64 o, .int .i64 f] 49)).alloc (.cells #[.int .i64 n, .int .i64 d] 32)).alloc (.cells #[.int .i64 0] 3)).alloc (.cells #[.int .i64 0] 33)).cell? ⟨w.heap.size + 1 + 1, 1, none⟩ = some (.int .i64 d) := by simp [go_sem]
  have c3_0 : (((((w.alloc (.cells #[.int .i64 N, .int .i64 lo, .int .i64 hi] 25)).alloc (.cells #[.int .i64 o, .int .i64 f] 49)).alloc (.cells #[.int .i64 n, .int .i64 d] 32)).alloc (.cells #[.int .i64 0] 3)).alloc (.cells #[.int .i64 0] 33)).cell? ⟨w.heap.size + 1 + 1 + 1, 0, none⟩ = some (.int .i64 0) := by simp [go_sem]
  have c4_0 : (((((w.alloc (.cells #[.int .i64 N, .int .i64 lo, .int .i64 hi] 25)).alloc (.cells #[.int .i64 o, .int .i64 f] 49)).alloc (.cells #[.int .i64 n, .int .i64 d] 32)).alloc (.cells #[.int .i64 0] 3)).alloc (.cells #[.int .i64 0] 33)).cell? ⟨w.heap.size + 1 + 1 + 1 + 1, 0, none⟩ = some (.int .i64 0) := by simp [go_sem]
  have f3_0 : (((((w.alloc (.cells #[.int .i64 N, .int .i64 lo, .int .i64 hi] 25)).alloc (.cells #[.int .i64 o, .int .i64 f] 49)).alloc (.cells #[.int .i64 n, .int .i64 d] 32)).alloc (.cells #[.int .i64 0] 3)).alloc (.cells #[.int .i64 0] 33)).frozen? ⟨w.heap.size + 1 + 1 + 1, 0, none⟩ = false := by simp [go_sem]
  have f4_0 : (((((w.alloc (.cells #[.int .i64 N, .int .i64 lo, .int .i64 hi] 25)).alloc (.cells #[.int .i64 o, .int .i64 f] 49)).alloc (.cells #[.int .i64 n, .int .i64 d] 32)).alloc (.cells #[.int .i64 0] 3)).alloc (.cells #[.int .i64 0] 33)).frozen? ⟨w.heap.size + 1 + 1 + 1 + 1, 0, none⟩ = false := by simp [go_sem]
  go_enter Tryd.func18, Tryd.ntmps18
  go_wp2_with fail
  have hq : w.heap.size + 5 = (((((w.alloc (.cells #[.int .i64 N, .int .i64 lo, .int .i64 hi] 25)).alloc (.cells #[.int .i64 o, .int .i64 f] 49)).alloc (.cells #[.int .i64 n, .int .i64 d] 32)).alloc (.cells #[.int .i64 0] 3)).alloc (.cells #[.int .i64 0] 33)).heap.size := by simp
  generalize (((((w.alloc (.cells #[.int .i64 N, .int .i64 lo, .int .i64 hi] 25)).alloc (.cells #[.int .i64 o, .int .i64 f] 49)).alloc (.cells #[.int .i64 n, .int .i64 d] 32)).alloc (.cells #[.int .i64 0] 3)).alloc (.cells #[.int .i64 0] 33)) = W0 at *
  generalize hbb : w.heap.size = bb at *
  have HBB := Lib.hid hbb
  clear hbb
  have HB0 := Lib.hid hB0
  have hq0 : bb + 5 ≤ W0.heap.size := by omega
  clear hB0 hq
  have FA : ∀ W, Free.Bel W0 W → W.cell? ⟨bb, 0, none⟩ = some (.int .i64 N) ∧ W.cell? ⟨bb, 1, none⟩ = some (.int .i64 lo) ∧ W.cell? ⟨bb, 2, none⟩ = some (.int .i64 hi) ∧ W.cell? ⟨bb + 1, 0, none⟩ = some (.int .i64 o) ∧ W.cell? ⟨bb + 1, 1, none⟩ = some (.int .i64 f) ∧ W.cell? ⟨bb + 1 + 1, 0, none⟩ = some (.int .i64 n) ∧ W.cell? ⟨bb + 1 + 1, 1, none⟩ = some (.int .i64 d) ∧ W.cell? ⟨bb + 1 + 1 + 1, 0, none⟩ = some (.int .i64 0) ∧ W.cell? ⟨bb + 1 + 1 + 1 + 1, 0, none⟩ = some (.int .i64 0) ∧ W.frozen? ⟨bb + 1 + 1 + 1, 0, none⟩ = false ∧ W.frozen? ⟨bb + 1 + 1 + 1 + 1, 0, none⟩ = false ∧ bb + 5 ≤ W.heap.size := fun W hW => ⟨keepsB hW c0_0, keepsB hW c0_1, keepsB hW c0_2, keepsB hW c1_0, keepsB hW c1_1, keepsB hW c2_0, keepsB hW c2_1, keepsB hW c3_0, keepsB hW c4_0, (hW.frozen (p := ⟨bb + 1 + 1 + 1, 0, none⟩) (by simp; omega)).trans f3_0, (hW.frozen (p := ⟨bb + 1 + 1 + 1 + 1, 0, none⟩) (by simp; omega)).trans f4_0, Nat.le_trans hq0 hW.size⟩
  clear c0_0 c0_1 c0_2 c1_0 c1_1 c2_0 c2_1 c3_0 c4_0 f3_0 f4_0
  have hF : ∀ W, Free.Bel W0.drew W → Free.Bel W0 W := fun W hW => Free.Bel.trans _ _ _ (Bel.drewT (Free.Bel.refl _)) hW
  refine Free.wp_free (R := Free.Bel) (by kernel_rfl) (by kernel_rfl) Free.Bel.refl Free.Bel.trans ?_
  refine Free.Chain.ex ?_ [] [3] (by kernel_rfl) (by kernel_rfl) rfl Free.Bel.refl ?_ ?_
  rotate_left
  · (intro ev W hb hR hO hD; have hS := hF W hR; obtain ⟨hb1, hb2, hb3⟩ := hb; simp only [Free.AllDeps, Free.AllOuts, Free.At, List.getElem?_cons_succ, List.getElem?_cons_zero, Array.getD_eq_getD_getElem?, List.getElem?_toArray, Option.getD_some, and_true] at hO hD; go_simp; rfl)
  simp only [List.nil_append, List.cons_append]
  refine Free.Chain.ex ?_ [] [4] (by kernel_rfl) (by kernel_rfl) rfl Free.Bel.refl ?_ ?_
  rotate_left
  · (intro ev W hb hR hO hD; have hS := hF W hR; obtain ⟨hb1, hb2, hb3⟩ := hb; simp only [Free.AllDeps, Free.AllOuts, Free.At, List.getElem?_cons_succ, List.getElem?_cons_zero, Array.getD_eq_getD_getElem?, List.getElem?_toArray, Option.getD_some, and_true] at hO hD; go_simp; rfl)
  simp only [List.nil_append, List.cons_append]
  refine Free.Chain.ex ?_ [] [5] (by kernel_rfl) (by kernel_rfl) rfl Free.Bel.refl ?_ ?_
  rotate_left
  · (intro ev W hb hR hO hD; have hS := hF W hR; obtain ⟨hb1, hb2, hb3⟩ := hb; simp only [Free.AllDeps, Free.AllOuts, Free.At, List.getElem?_cons_succ, List.getElem?_cons_zero, Array.getD_eq_getD_getElem?, List.getElem?_toArray, Option.getD_some, and_true] at hO hD; go_simp; rfl)
  simp only [List.nil_append, List.cons_append]
  refine Free.Chain.pr (SlP [(n, d)]) [(2, 16)] [] (by kernel_rfl) (by kernel_rfl) rfl (SlP.stable _) ?_ ?_
  · (intro ev W hb hR hO hD; have hS := hF W hR; obtain ⟨hb1, hb2, hb3⟩ := hb; simp only [Free.AllDeps, Free.AllOuts, Free.At, List.getElem?_cons_succ, List.getElem?_cons_zero, Array.getD_eq_getD_getElem?, List.getElem?_toArray, Option.getD_some, and_true] at hO hD; go_simp; exact ⟨belAlloc _ _, SlP.one _ _ _ _⟩)
  simp only [List.nil_append, List.cons_append]
  refine Free.Chain.pr (fun v _ => v = .int .i64 m) [(3, 17)] [] (by kernel_rfl) (by kernel_rfl) rfl (fun _ _ _ _ h => h) ?_ ?_
  · (intro ev W hb hR hO hD; have hS := hF W hR; obtain ⟨hb1, hb2, hb3⟩ := hb; simp only [Free.AllDeps, Free.AllOuts, Free.At, List.getElem?_cons_succ, List.getElem?_cons_zero, Array.getD_eq_getD_getElem?, List.getElem?_toArray, Option.getD_some, and_true] at hO hD; go_simp; refine yields_enter ?_; (with_reducible refine (given_sl [(n, d)] m _ _ (by simp [maxLen]) hm.out hD).mono ?_); rintro e W2 ⟨rfl, hB2⟩; exact ⟨_, rfl, hB2, rfl⟩)
  simp only [List.nil_append, List.cons_append]
  refine Free.Chain.pr (fun v _ => v = .tuple #[.pointer none, .slice none 0 0, .int .i64 10]) [(0, 14), (1, 15), (4, 18), (4, 18)] [] (by kernel_rfl) (by kernel_rfl) rfl (fun _ _ _ _ h => h) ?_ ?_
  · (intro ev W hb hR hO hD; have hS := hF W hR; obtain ⟨hb1, hb2, hb3⟩ := hb; simp only [Free.AllDeps, Free.AllOuts, Free.At, List.getElem?_cons_succ, List.getElem?_cons_zero, Array.getD_eq_getD_getElem?, List.getElem?_toArray, Option.getD_some, and_true] at hO hD; go_simp; refine yields_enter ?_; (with_reducible refine (known_a N lo hi o f m _ hc).mono ?_); rintro e W2 ⟨rfl, hB2⟩; exact ⟨_, rfl, hB2, rfl⟩)
  simp only [List.nil_append, List.cons_append]
  refine Free.Chain.ex ?_ [(5, 19)] [] (by kernel_rfl) (by kernel_rfl) rfl Free.Bel.refl ?_ ?_
  rotate_left
  · (intro ev W hb hR hO hD; have hS := hF W hR; obtain ⟨hb1, hb2, hb3⟩ := hb; simp only [Free.AllDeps, Free.AllOuts, Free.At, List.getElem?_cons_succ, List.getElem?_cons_zero, Array.getD_eq_getD_getElem?, List.getElem?_toArray, Option.getD_some, and_true] at hO hD; go_simp; rfl)
  simp only [List.nil_append, List.cons_append]
  refine Free.Chain.ex ?_ [(6, 13)] [] (by kernel_rfl) (by kernel_rfl) rfl Free.Bel.refl ?_ ?_
  rotate_left
  · (intro ev W hb hR hO hD; have hS := hF W hR; obtain ⟨hb1, hb2, hb3⟩ := hb; simp only [Free.AllDeps, Free.AllOuts, Free.At, List.getElem?_cons_succ, List.getElem?_cons_zero, Array.getD_eq_getD_getElem?, List.getElem?_toArray, Option.getD_some, and_true] at hO hD; go_simp; rfl)
  simp only [List.nil_append, List.cons_append]
  refine Free.Chain.ex ?_ [(6, 13)] [] (by kernel_rfl) (by kernel_rfl) rfl Free.Bel.refl ?_ ?_
  rotate_left
  · (intro ev W hb hR hO hD; have hS := hF W hR; obtain ⟨hb1, hb2, hb3⟩ := hb; simp only [Free.AllDeps, Free.AllOuts, Free.At, List.getElem?_cons_succ, List.getElem?_cons_zero, Array.getD_eq_getD_getElem?, List.getElem?_toArray, Option.getD_some, and_true] at hO hD; go_simp; rfl)
  simp only [List.nil_append, List.cons_append]
  refine Free.Chain.ex ?_ [(6, 13)] [] (by kernel_rfl) (by kernel_rfl) rfl Free.Bel.refl ?_ ?_
  rotate_left
  · (intro ev W hb hR hO hD; have hS := hF W hR; obtain ⟨hb1, hb2, hb3⟩ := hb; simp only [Free.AllDeps, Free.AllOuts, Free.At, List.getElem?_cons_succ, List.getElem?_cons_zero, Array.getD_eq_getD_getElem?, List.getElem?_toArray, Option.getD_some, and_true] at hO hD; go_simp; rfl)
  simp only [List.nil_append, List.cons_append]
  refine Free.Chain.pr (fun v W => ∃ b, v = ptr b ∧ W.heap[b]? = some (.cells #[.pointer none] 67)) [] [] (by kernel_rfl) (by kernel_rfl) rfl (fun v W W' hB h => let ⟨b, h1, h2⟩ := h; ⟨b, h1, heap_bel h2 hB⟩) ?_ ?_
  · (intro ev W hb hR hO hD; have hS := hF W hR; obtain ⟨hb1, hb2, hb3⟩ := hb; simp only [Free.AllDeps, Free.AllOuts, Free.At, List.getElem?_cons_succ, List.getElem?_cons_zero, Array.getD_eq_getD_getElem?, List.getElem?_toArray, Option.getD_some, and_true] at hO hD; go_simp; exact ⟨belAlloc _ _, _, rfl, World.alloc_heap_new _ _⟩)
  simp only [List.nil_append, List.cons_append]
  refine Free.Chain.pr (fun _ _ => True) [(10, 8), (7, 20), (5, 19), (0, 14), (1, 15), (2, 16), (3, 17), (4, 18), (5, 19), (6, 13), (7, 20), (10, 8)] [] (by kernel_rfl) (by kernel_rfl) rfl (fun _ _ _ _ h => h) ?_ ?_
  · (intro ev W hb hR hO hD; have hS := hF W hR; obtain ⟨hb1, hb2, hb3⟩ := hb; simp only [Free.AllDeps, Free.AllOuts, Free.At, List.getElem?_cons_succ, List.getElem?_cons_zero, Array.getD_eq_getD_getElem?, List.getElem?_toArray, Option.getD_some, and_true] at hO hD; obtain ⟨⟨b, hb9, hbl⟩, hD2⟩ := hD; have q0 : W.cell? ⟨b, 0, none⟩ = some (.pointer none) := cell_of_heap (o := 0) hbl rfl; have p0 := frozen_of_heap (o := 0) hbl; go_simp; rw [setCell_noop q0]; exact Free.Bel.refl _)
  simp only [List.nil_append, List.cons_append]
  refine Free.Chain.ex ?_ [(8, 21), (0, 14), (1, 15), (2, 16), (3, 17), (4, 18), (5, 19), (6, 13), (7, 20), (8, 21), (10, 8)] [] (by kernel_rfl) (by kernel_rfl) rfl Free.Bel.refl ?_ ?_
  rotate_left
  · (intro ev W hb hR hO hD; have hS := hF W hR; obtain ⟨hb1, hb2, hb3⟩ := hb; simp only [Free.AllDeps, Free.AllOuts, Free.At, List.getElem?_cons_succ, List.getElem?_cons_zero, Array.getD_eq_getD_getElem?, List.getElem?_toArray, Option.getD_some, and_true] at hO hD; go_simp; rfl)
  simp only [List.nil_append, List.cons_append]
  refine Free.Chain.ex ?_ [(9, 22), (12, 9), (0, 14), (1, 15), (2, 16), (3, 17), (4, 18), (5, 19), (6, 13), (7, 20), (8, 21), (9, 22), (10, 8), (12, 9)] [] (by kernel_rfl) (by kernel_rfl) rfl Free.Bel.refl ?_ ?_
  rotate_left
  · (intro ev W hb hR hO hD; have hS := hF W hR; obtain ⟨hb1, hb2, hb3⟩ := hb; simp only [Free.AllDeps, Free.AllOuts, Free.At, List.getElem?_cons_succ, List.getElem?_cons_zero, Array.getD_eq_getD_getElem?, List.getElem?_toArray, Option.getD_some, and_true] at hO hD; go_simp; rfl)
  simp only [List.nil_append, List.cons_append]
  intro xs w2 hR hV
  simp only [Free.AllV, Free.At, List.length_cons, List.length_nil, Nat.reduceAdd, List.getElem?_cons_succ, List.getElem?_cons_zero, true_and] at hV
  simp only [Free.putsFrom, Act.put, Nat.zero_add, Nat.reduceAdd, hV, List.setIfInBounds_toArray, List.set_cons_succ, List.set_cons_zero]
  have K_w2 := hF w2 hR
  clear hR hV hF
  have hz := FA w2 K_w2
  have tb := two_boxes (w := w2) (a := bb + 1 + 1 + 1) (b := bb + 1 + 1 + 1 + 1) (x := .int .i64 0) (y := .int .i64 0) (.int .i64 0) (.int .i64 10) (by simp [hz]) (by simp [hz]) (by simp)
  have r0 := tb.1
  have r1 := tb.2
  have hBB : Below bb W0 ((w2.setCell ⟨bb + 1 + 1 + 1, 0, none⟩ (.int .i64 0)).setCell ⟨bb + 1 + 1 + 1 + 1, 0, none⟩ (.int .i64 10)) := ((K_w2.mono (by omega)).setCell (p := ⟨bb + 1 + 1 + 1, 0, none⟩) (by simp; omega) _).setCell (p := ⟨bb + 1 + 1 + 1 + 1, 0, none⟩) (by simp; omega) _
  have HBB2 := Lib.hid hBB
  clear hz tb hBB
  go_wp2_with fail
  have hbb := HBB.out
  subst hbb
  exact bodyPost_ret (v := .tuple #[.int .i64 0, .int .i64 10]) (by simp [results, Tryd.results18, go_sem, r0, r1]) rfl ⟨rfl, HB0.out.trans HBB2.out⟩

set_option maxRecDepth 100000 in
set_option maxHeartbeats 4000000 in
theorem bound_b (N lo hi o f n d : Int) (w : World) (hc : cargoB N lo hi = true) (x m z : Int) (hx9 : Hid ((if drawB N o f then 0 else 11) = x)) (hm : Hid (unlessV ([(n, d)].all fun x => givenB x.1 x.2) 12 = m)) (hz9 : Hid (firstE [x, m] = z)) (hz0 : (z != 0) = true) :
    Calls Tryd.prog 18 #[.agg #[.int .i64 N, .int .i64 lo, .int .i64 hi], .agg #[.int .i64 o, .int .i64 f], .agg #[.int .i64 n, .int .i64 d]] w fun e w' => e = .returned (.tuple #[.int .i64 0, .int .i64 z]) ∧ Below w.heap.size w w' := by
  have hB0 : Below w.heap.size w (((((w.alloc (.cells #[.int .i64 N, .int .i64 lo, .int .i64 hi] 25)).alloc (.cells #[.int .i64 o, .int .i64 f] 49)).alloc (.cells #[.int .i64 n, .int .i64 d] 32)).alloc (.cells #[.int .i64 0] 3)).alloc (.cells #[.int .i64 0] 33)) := (((((Below.refl _ w).alloc (Nat.le_refl _) _).alloc (by simp) _).alloc (by simp; omega) _).alloc (by simp; omega) _).alloc (by simp; omega) _
  have c0_0 : (((((w.alloc (.cells #[.int .i64 N, .int .i64 lo, .int .i64 hi] 25)).alloc (.cells #[.int .i64 o, .int .i64 f] 49)).alloc (.cells #[.int .i64 n, .int .i64 d] 32)).alloc (.cells #[.int .i64 0] 3)).alloc (.cells #[.int .i64 0] 33)).cell? ⟨w.heap.size, 0, none⟩ = some (.int .i64 N) := by simp [go_sem]
  have c0_1 : (((((w.alloc (.cells #[.int .i64 N, .int .i64 lo, .int .i64 hi] 25)).alloc (.cells #[.int .i64 o, .int .i64 f] 49)).alloc (.cells #[.int .i64 n, .int .i64 d] 32)).alloc (.cells #[.int .i64 0] 3)).alloc (.cells #[.int .i64 0] 33)).cell? ⟨w.heap.size, 1, none⟩ = some (.int .i64 lo) := by simp [go_sem]
  have c0_2 : (((((w.alloc (.cells #[.int .i64 N, .int .i64 lo, .int .i64 hi] 25)).alloc (.cells #[.int .i64 o, .int .i64 f] 49)).alloc (.cells #[.int .i64 n, .int .i64 d] 32)).alloc (.cells #[.int .i64 0] 3)).alloc (.cells #[.int .i64 0] 33)).cell? ⟨w.heap.size, 2, none⟩ = some (.int .i64 hi) := by simp [go_sem]
  have c1_0 : (((((w.alloc (.cells #[.int .i64 N, .int .i64 lo, .int .i64 hi] 25)).alloc (.cells #[.int .i64 o, .int .i64 f] 49)).alloc (.cells #[.int .i64 n, .int .i64 d] 32)).alloc (.cells #[.int .i64 0] 3)).alloc (.cells #[.int .i64 0] 33)).cell? ⟨w.heap.size + 1, 0, none⟩ = some (.int .i64 o) := by simp [go_sem]
  have c1_1 : (((((w.alloc (.cells #[.int .i64 N, .int .i64 lo, .int .i64 hi] 25)).alloc (.cells #[.int .i64 o, .int .i64 f] 49)).alloc (.cells #[.int .i64 n, .int .i64 d] 32)).alloc (.cells #[.int .i64 0] 3)).alloc (.cells #[.int .i64 0] 33)).cell? ⟨w.heap.size + 1, 1, none⟩ = some (.int .i64 f) := by simp [go_sem]
  have c2_0 : (((((w.alloc (.cells #[.int .i64 N, .int .i64 lo, .int .i64 hi] 25)).alloc (.cells #[.int .i64 o, .int .i64 f] 49)).alloc (.cells #[.int .i64 n, .int .i64 d] 32)).alloc (.cells #[.int .i64 0] 3)).alloc (.cells #[.int .i64 0] 33)).cell? ⟨w.heap.size + 1 + 1, 0, none⟩ = some (.int .i64 n) := by simp [go_sem]
  have c2_1 : (((((w.alloc (.cells #[.int .i64 N, .int .i64 lo, .int .i64 hi] 25)).alloc (.cells #[.int .i64 o, .int .i64 f] 49)).alloc (.cells #[.int .i64 n, .int .i64 d] 32)).alloc (.cells #[.int .i64 0] 3)).alloc (.cells #[.int .i64 0] 33)).cell? ⟨w.heap.size + 1 + 1, 1, none⟩ = some (.int .i64 d) := by simp [go_sem]
  have c3_0 : (((((w.alloc (.cells #[.int .i64 N, .int .i64 lo, .int .i64 hi] 25)).alloc (.cells #[.int .i64 o, .int .i64 f] 49)).alloc (.cells #[.int .i64 n, .int .i64 d] 32)).alloc (.cells #[.int .i64 0] 3)).alloc (.cells #[.int .i64 0] 33)).cell? ⟨w.heap.size + 1 + 1 + 1, 0, none⟩ = some (.int .i64 0) := by simp [go_sem]
  have c4_0 : (((((w.alloc (.cells #[.int .i64 N, .int .i64 lo, .int .i64 hi] 25)).alloc (.cells #[.int .i64 o, .int .i64 f] 49)).alloc (.cells #[.int .i64 n, .int .i64 d] 32)).alloc (.cells #[.int .i64 0] 3)).alloc (.cells #[.int .i64 0] 33)).cell? ⟨w.heap.size + 1 + 1 + 1 + 1, 0, none⟩ = some (.int .i64 0) := by simp [go_sem]
  have f3_0 : (((((w.alloc (.cells #[.int .i64 N, .int .i64 lo, .int .i64 hi] 25)).alloc (.cells #[.int .i64 o, .int .i64 f] 49)).alloc (.cells #[.int .i64 n, .int .i64 d] 32)).alloc (.cells #[.int .i64 0] 3)).alloc (.cells #[.int .i64 0] 33)).frozen? ⟨w.heap.size + 1 + 1 + 1, 0, none⟩ = false := by simp [go_sem]
  have f4_0 : (((((w.alloc (.cells #[.int .i64 N, .int .i64 lo, .int .i64 hi] 25)).alloc (.cells #[.int .i64 o, .int .i64 f] 49)).alloc (.cells #[.int .i64 n, .int .i64 d] 32)).alloc (.cells #[.int .i64 0] 3)).alloc (.cells #[.int .i64 0] 33)).frozen? ⟨w.heap.size + 1 + 1 + 1 + 1, 0, none⟩ = false := by simp [go_sem]
  go_enter Tryd.func18, Tryd.ntmps18
  go_wp2_with fail
  have hq : w.heap.size + 5 = (((((w.alloc (.cells #[.int .i64 N, .int .i64 lo, .int .i64 hi] 25)).alloc (.cells #[.int .i64 o, .int .i64 f] 49)).alloc (.cells #[.int .i64 n, .int .i64 d] 32)).alloc (.cells #[.int .i64 0] 3)).alloc (.cells #[.int .i64 0] 33)).heap.size := by simp
  generalize (((((w.alloc (.cells #[.int .i64 N, .int .i64 lo, .int .i64 hi] 25)).alloc (.cells #[.int .i64 o, .int .i64 f] 49)).alloc (.cells #[.int .i64 n, .int .i64 d] 32)).alloc (.cells #[.int .i64 0] 3)).alloc (.cells #[.int .i64 0] 33)) = W0 at *
  generalize hbb : w.heap.size = bb at *
  have HBB := Lib.hid hbb
  clear hbb
  have HB0 := Lib.hid hB0
  have hq0 : bb + 5 ≤ W0.heap.size := by omega
  clear hB0 hq
  have FA : ∀ W, Free.Bel W0 W → W.cell? ⟨bb, 0, none⟩ = some (.int .i64 N) ∧ W.cell? ⟨bb, 1, none⟩ = some (.int .i64 lo) ∧ W.cell? ⟨bb, 2, none⟩ = some (.int .i64 hi) ∧ W.cell? ⟨bb + 1, 0, none⟩ = some (.int .i64 o) ∧ W.cell? ⟨bb + 1, 1, none⟩ = some (.int .i64 f) ∧ W.cell? ⟨bb + 1 + 1, 0, none⟩ = some (.int .i64 n) ∧ W.cell? ⟨bb + 1 + 1, 1, none⟩ = some (.int .i64 d) ∧ W.cell? ⟨bb + 1 + 1 + 1, 0, none⟩ = some (.int .i64 0) ∧ W.cell? ⟨bb + 1 + 1 + 1 + 1, 0, none⟩ = some (.int .i64 0) ∧ W.frozen? ⟨bb + 1 + 1 + 1, 0, none⟩ = false ∧ W.frozen? ⟨bb + 1 + 1 + 1 + 1, 0, none⟩ = false ∧ bb + 5 ≤ W.heap.size := fun W hW => ⟨keepsB hW c0_0, keepsB hW c0_1, keepsB hW c0_2, keepsB hW c1_0, keepsB hW c1_1, keepsB hW c2_0, keepsB hW c2_1, keepsB hW c3_0, keepsB hW c4_0, (hW.frozen (p := ⟨bb + 1 + 1 + 1, 0, none⟩) (by simp; omega)).trans f3_0, (hW.frozen (p := ⟨bb + 1 + 1 + 1 + 1, 0, none⟩) (by simp; omega)).trans f4_0, Nat.le_trans hq0 hW.size⟩
  clear c0_0 c0_1 c0_2 c1_0 c1_1 c2_0 c2_1 c3_0 c4_0 f3_0 f4_0
  have hF : ∀ W, Free.Bel W0.drew W → Free.Bel W0 W := fun W hW => Free.Bel.trans _ _ _ (Bel.drewT (Free.Bel.refl _)) hW
  refine Free.wp_free (R := Free.Bel) (by kernel_rfl) (by kernel_rfl) Free.Bel.refl Free.Bel.trans ?_
  refine Free.Chain.ex ?_ [] [3] (by kernel_rfl) (by kernel_rfl) rfl Free.Bel.refl ?_ ?_
  rotate_left
  · (intro ev W hb hR hO hD; have hS := hF W hR; obtain ⟨hb1, hb2, hb3⟩ := hb; simp only [Free.AllDeps, Free.AllOuts, Free.At, List.getElem?_cons_succ, List.getElem?_cons_zero, Array.getD_eq_getD_getElem?, List.getElem?_toArray, Option.getD_some, and_true] at hO hD; go_simp; rfl)
  simp only [List.nil_append, List.cons_append]
  refine Free.Chain.ex ?_ [] [4] (by kernel_rfl) (by kernel_rfl) rfl Free.Bel.refl ?_ ?_
  rotate_left
  · (intro ev W hb hR hO hD; have hS := hF W hR; obtain ⟨hb1, hb2, hb3⟩ := hb; simp only [Free.AllDeps, Free.AllOuts, Free.At, List.getElem?_cons_succ, List.getElem?_cons_zero, Array.getD_eq_getD_getElem?, List.getElem?_toArray, Option.getD_some, and_true] at hO hD; go_simp; rfl)
  simp only [List.nil_append, List.cons_append]
  refine Free.Chain.ex ?_ [] [5] (by kernel_rfl) (by kernel_rfl) rfl Free.Bel.refl ?_ ?_
  rotate_left
  · (intro ev W hb hR hO hD; have hS := hF W hR; obtain ⟨hb1, hb2, hb3⟩ := hb; simp only [Free.AllDeps, Free.AllOuts, Free.At, List.getElem?_cons_succ, List.getElem?_cons_zero, Array.getD_eq_getD_getElem?, List.getElem?_toArray, Option.getD_some, and_true] at hO hD; go_simp; rfl)
  simp only [List.nil_append, List.cons_append]
  refine Free.Chain.pr (SlP [(n, d)]) [(2, 16)] [] (by kernel_rfl) (by kernel_rfl) rfl (SlP.stable _) ?_ ?_
  · (intro ev W hb hR hO hD; have hS := hF W hR; obtain ⟨hb1, hb2, hb3⟩ := hb; simp only [Free.AllDeps, Free.AllOuts, Free.At, List.getElem?_cons_succ, List.getElem?_cons_zero, Array.getD_eq_getD_getElem?, List.getElem?_toArray, Option.getD_some, and_true] at hO hD; go_simp; exact ⟨belAlloc _ _, SlP.one _ _ _ _⟩)
  simp only [List.nil_append, List.cons_append]
  refine Free.Chain.pr (fun v _ => v = .int .i64 m) [(3, 17)] [] (by kernel_rfl) (by kernel_rfl) rfl (fun _ _ _ _ h => h) ?_ ?_
  · (intro ev W hb hR hO hD; have hS := hF W hR; obtain ⟨hb1, hb2, hb3⟩ := hb; simp only [Free.AllDeps, Free.AllOuts, Free.At, List.getElem?_cons_succ, List.getElem?_cons_zero, Array.getD_eq_getD_getElem?, List.getElem?_toArray, Option.getD_some, and_true] at hO hD; go_simp; refine yields_enter ?_; (with_reducible refine (given_sl [(n, d)] m _ _ (by simp [maxLen]) hm.out hD).mono ?_); rintro e W2 ⟨rfl, hB2⟩; exact ⟨_, rfl, hB2, rfl⟩)
  simp only [List.nil_append, List.cons_append]
  refine Free.Chain.pr (fun v _ => v = .tuple #[.pointer none, .slice none 0 0, .int .i64 z]) [(0, 14), (1, 15), (4, 18), (4, 18)] [] (by kernel_rfl) (by kernel_rfl) rfl (fun _ _ _ _ h => h) ?_ ?_
  · (intro ev W hb hR hO hD; have hS := hF W hR; obtain ⟨hb1, hb2, hb3⟩ := hb; simp only [Free.AllDeps, Free.AllOuts, Free.At, List.getElem?_cons_succ, List.getElem?_cons_zero, Array.getD_eq_getD_getElem?, List.getElem?_toArray, Option.getD_some, and_true] at hO hD; go_simp; refine yields_enter ?_; (with_reducible refine (known_b N lo hi o f m _ hc x z hx9 hz9 hz0).mono ?_); rintro e W2 ⟨rfl, hB2⟩; exact ⟨_, rfl, hB2, rfl⟩)
  simp only [List.nil_append, List.cons_append]
  refine Free.Chain.ex ?_ [(5, 19)] [] (by kernel_rfl) (by kernel_rfl) rfl Free.Bel.refl ?_ ?_
  rotate_left
  · (intro ev W hb hR hO hD; have hS := hF W hR; obtain ⟨hb1, hb2, hb3⟩ := hb; simp only [Free.AllDeps, Free.AllOuts, Free.At, List.getElem?_cons_succ, List.getElem?_cons_zero, Array.getD_eq_getD_getElem?, List.getElem?_toArray, Option.getD_some, and_true] at hO hD; go_simp; rfl)
  simp only [List.nil_append, List.cons_append]
  refine Free.Chain.ex ?_ [(6, 13)] [] (by kernel_rfl) (by kernel_rfl) rfl Free.Bel.refl ?_ ?_
  rotate_left
  · (intro ev W hb hR hO hD; have hS := hF W hR; obtain ⟨hb1, hb2, hb3⟩ := hb; simp only [Free.AllDeps, Free.AllOuts, Free.At, List.getElem?_cons_succ, List.getElem?_cons_zero, Array.getD_eq_getD_getElem?, List.getElem?_toArray, Option.getD_some, and_true] at hO hD; go_simp; rfl)
  simp only [List.nil_append, List.cons_append]
  refine Free.Chain.ex ?_ [(6, 13)] [] (by kernel_rfl) (by kernel_rfl) rfl Free.Bel.refl ?_ ?_
  rotate_left
  · (intro ev W hb hR hO hD; have hS := hF W hR; obtain ⟨hb1, hb2, hb3⟩ := hb; simp only [Free.AllDeps, Free.AllOuts, Free.At, List.getElem?_cons_succ, List.getElem?_cons_zero, Array.getD_eq_getD_getElem?, List.getElem?_toArray, Option.getD_some, and_true] at hO hD; go_simp; rfl)
  simp only [List.nil_append, List.cons_append]
  refine Free.Chain.ex ?_ [(6, 13)] [] (by kernel_rfl) (by kernel_rfl) rfl Free.Bel.refl ?_ ?_
  rotate_left
  · (intro ev W hb hR hO hD; have hS := hF W hR; obtain ⟨hb1, hb2, hb3⟩ := hb; simp only [Free.AllDeps, Free.AllOuts, Free.At, List.getElem?_cons_succ, List.getElem?_cons_zero, Array.getD_eq_getD_getElem?, List.getElem?_toArray, Option.getD_some, and_true] at hO hD; go_simp; rfl)
  simp only [List.nil_append, List.cons_append]
  refine Free.Chain.pr (fun v W => ∃ b, v = ptr b ∧ W.heap[b]? = some (.cells #[.pointer none] 67)) [] [] (by kernel_rfl) (by kernel_rfl) rfl (fun v W W' hB h => let ⟨b, h1, h2⟩ := h; ⟨b, h1, heap_bel h2 hB⟩) ?_ ?_
  · (intro ev W hb hR hO hD; have hS := hF W hR; obtain ⟨hb1, hb2, hb3⟩ := hb; simp only [Free.AllDeps, Free.AllOuts, Free.At, List.getElem?_cons_succ, List.getElem?_cons_zero, Array.getD_eq_getD_getElem?, List.getElem?_toArray, Option.getD_some, and_true] at hO hD; go_simp; exact ⟨belAlloc _ _, _, rfl, World.alloc_heap_new _ _⟩)
  simp only [List.nil_append, List.cons_append]
  refine Free.Chain.pr (fun _ _ => True) [(10, 8), (7, 20), (5, 19), (0, 14), (1, 15), (2, 16), (3, 17), (4, 18), (5, 19), (6, 13), (7, 20), (10, 8)] [] (by kernel_rfl) (by kernel_rfl) rfl (fun _ _ _ _ h => h) ?_ ?_
  · (intro ev W hb hR hO hD; have hS := hF W hR; obtain ⟨hb1, hb2, hb3⟩ := hb; simp only [Free.AllDeps, Free.AllOuts, Free.At, List.getElem?_cons_succ, List.getElem?_cons_zero, Array.getD_eq_getD_getElem?, List.getElem?_toArray, Option.getD_some, and_true] at hO hD; obtain ⟨⟨b, hb9, hbl⟩, hD2⟩ := hD; have q0 : W.cell? ⟨b, 0, none⟩ = some (.pointer none) := cell_of_heap (o := 0) hbl rfl; have p0 := frozen_of_heap (o := 0) hbl; go_simp; rw [setCell_noop q0]; exact Free.Bel.refl _)
  simp only [List.nil_append, List.cons_append]
  refine Free.Chain.ex ?_ [(8, 21), (0, 14), (1, 15), (2, 16), (3, 17), (4, 18), (5, 19), (6, 13), (7, 20), (8, 21), (10, 8)] [] (by kernel_rfl) (by kernel_rfl) rfl Free.Bel.refl ?_ ?_
  rotate_left
  · (intro ev W hb hR hO hD; have hS := hF W hR; obtain ⟨hb1, hb2, hb3⟩ := hb; simp only [Free.AllDeps, Free.AllOuts, Free.At, List.getElem?_cons_succ, List.getElem?_cons_zero, Array.getD_eq_getD_getElem?, List.getElem?_toArray, Option.getD_some, and_true] at hO hD; go_simp; rfl)
  simp only [List.nil_append, List.cons_append]
  refine Free.Chain.ex ?_ [(9, 22), (12, 9), (0, 14), (1, 15), (2, 16), (3, 17), (4, 18), (5, 19), (6, 13), (7, 20), (8, 21), (9, 22), (10, 8), (12, 9)] [] (by kernel_rfl) (by kernel_rfl) rfl Free.Bel.refl ?_ ?_
  rotate_left
  · (intro ev W hb hR hO hD; have hS := hF W hR; obtain ⟨hb1, hb2, hb3⟩ := hb; simp only [Free.AllDeps, Free.AllOuts, Free.At, List.getElem?_cons_succ, List.getElem?_cons_zero, Array.getD_eq_getD_getElem?, List.getElem?_toArray, Option.getD_some, and_true] at hO hD; go_simp; rfl)
  simp only [List.nil_append, List.cons_append]
  intro xs w2 hR hV
  simp only [Free.AllV, Free.At, List.length_cons, List.length_nil, Nat.reduceAdd, List.getElem?_cons_succ, List.getElem?_cons_zero, true_and] at hV
  simp only [Free.putsFrom, Act.put, Nat.zero_add, Nat.reduceAdd, hV, List.setIfInBounds_toArray, List.set_cons_succ, List.set_cons_zero]
  have K_w2 := hF w2 hR
  clear hR hV hF
  have hz := FA w2 K_w2
  have tb := two_boxes (w := w2) (a := bb + 1 + 1 + 1) (b := bb + 1 + 1 + 1 + 1) (x := .int .i64 0) (y := .int .i64 0) (.int .i64 0) (.int .i64 z) (by simp [hz]) (by simp [hz]) (by simp)
  have r0 := tb.1
  have r1 := tb.2
  have hBB : Below bb W0 ((w2.setCell ⟨bb + 1 + 1 + 1, 0, none⟩ (.int .i64 0)).setCell ⟨bb + 1 + 1 + 1 + 1, 0, none⟩ (.int .i64 z)) := ((K_w2.mono (by omega)).setCell (p := ⟨bb + 1 + 1 + 1, 0, none⟩) (by simp; omega) _).setCell (p := ⟨bb + 1 + 1 + 1 + 1, 0, none⟩) (by simp; omega) _
  have HBB2 := Lib.hid hBB
  clear hz tb hBB
  go_wp2_with fail
  have hbb := HBB.out
  subst hbb
  exact bodyPost_ret (v := .tuple #[.int .i64 0, .int .i64 z]) (by simp [results, Tryd.results18, go_sem, r0, r1]) rfl ⟨rfl, HB0.out.trans HBB2.out⟩

set_option maxRecDepth 100000 in
set_option maxHeartbeats 4000000 in
theorem bound_c (N lo hi o f n d : Int) (w : World) (hc : cargoB N lo hi = true) (hd : drawB N o f = true) (hm : Hid (unlessV ([(n, d)].all fun x => givenB x.1 x.2) 12 = 0)) (hL : ableL N lo hi o f = []) :
    Calls Tryd.prog 18 #[.agg #[.int .i64 N, .int .i64 lo, .int .i64 hi], .agg #[.int .i64 o, .int .i64 f], .agg #[.int .i64 n, .int .i64 d]] w fun e w' => e = .returned (.tuple #[.int .i64 0, .int .i64 8]) ∧ Below w.heap.size w w' := by
  have hB0 : Below w.heap.size w (((((w.alloc (.cells #[.int .i64 N, .int .i64 lo, .int .i64 hi] 25)).alloc (.cells #[.int .i64 o, .int .i64 f] 49)).alloc (.cells #[.int .i64 n, .int .i64 d] 32)).alloc (.cells #[.int .i64 0] 3)).alloc (.cells #[.int .i64 0] 33)) := (((((Below.refl _ w).alloc (Nat.le_refl _) _).alloc (by simp) _).alloc (by simp; omega) _).alloc (by simp; omega) _).alloc (by simp; omega) _
  have c0_0 : (((((w.alloc (.cells #[.int .i64 N, .int .i64 lo, .int .i64 hi] 25)).alloc (.cells #[.int .i64 o, .int .i64 f] 49)).alloc (.cells #[.int .i64 n, .int .i64 d] 32)).alloc (.cells #[.int .i64 0] 3)).alloc (.cells #[.int .i64 0] 33)).cell? ⟨w.heap.size, 0, none⟩ = some (.int .i64 N) := by simp [go_sem]
  have c0_1 : (((((w.alloc (.cells #[.int .i64 N, .int .i64 lo, .int .i64 hi] 25)).alloc (.cells #[.int .i64 o, .int .i64 f] 49)).alloc (.cells #[.int .i64 n, .int .i64 d] 32)).alloc (.cells #[.int .i64 0] 3)).alloc (.cells #[.int .i64 0] 33)).cell? ⟨w.heap.size, 1, none⟩ = some (.int .i64 lo) := by simp [go_sem]
  have c0_2 : (((((w.alloc (.cells #[.int .i64 N, .int .i64 lo, .int .i64 hi] 25)).alloc (.cells #[.int .i64 o, .int .i64 f] 49)).alloc (.cells #[.int .i64 n, .int .i64 d] 32)).alloc (.cells #[.int .i64 0] 3)).alloc (.cells #[.int .i64 0] 33)).cell? ⟨w.heap.size, 2, none⟩ = some (.int .i64 hi) := by simp [go_sem]
  have c1_0 : (((((w.alloc (.cells #[.int .i64 N, .int .i64 lo, .int .i64 hi] 25)).alloc (.cells #[.int .i64 o, .int .i64 f] 49)).alloc (.cells #[.int .i64 n, .int .i64 d] 32)).alloc (.cells #[.int .i64 0] 3)).alloc (.cells #[.int .i64 0] 33)).cell? ⟨w.heap.size + 1, 0, none⟩ = some (.int .i64 o) := by simp [go_sem]
  have c1_1 : (((((w.alloc (.cells #[.int .i64 N, .int .i64 lo, .int .i64 hi] 25)).alloc (.cells #[.int .i64 o, .int .i64 f] 49)).alloc (.cells #[.int .i64 n, .int .i64 d] 32)).alloc (.cells #[.int .i64 0] 3)).alloc (.cells #[.int .i64 0] 33)).cell? ⟨w.heap.size + 1, 1, none⟩ = some (.int .i64 f) := by simp [go_sem]
  have c2_0 : (((((w.alloc (.cells #[.int .i64 N, .int .i64 lo, .int .i64 hi] 25)).alloc (.cells #[.int .i64 o, .int .i64 f] 49)).alloc (.cells #[.int .i64 n, .int .i64 d] 32)).alloc (.cells #[.int .i64 0] 3)).alloc (.cells #[.int .i64 0] 33)).cell? ⟨w.heap.size + 1 + 1, 0, none⟩ = some (.int .i64 n) := by simp [go_sem]
  have c2_1 : (((((w.alloc (.cells #[.int .i64 N, .int .i64 lo, .int .i64 hi] 25)).alloc (.cells #[.int .i64 o, .int .i64 f] 49)).alloc (.cells #[.int .i64 n, .int .i64 d] 32)).alloc (.cells #[.int .i64 0] 3)).alloc (.cells #[.int .i64 0] 33)).cell? ⟨w.heap.size + 1 + 1, 1, none⟩ = some (.int .i64 d) := by simp [go_sem]
  have c3_0 : (((((w.alloc (.cells #[.int .i64 N, .int .i64 lo, .int .i64 hi] 25)).alloc (.cells #[.int .i64 o, .int .i64 f] 49)).alloc (.cells #[.int .i64 n, .int .i64 d] 32)).alloc (.cells #[.int .i64 0] 3)).alloc (.cells #[.int .i64 0] 33)).cell? ⟨w.heap.size + 1 + 1 + 1, 0, none⟩ = some (.int .i64 0) := by simp [go_sem]
  have c4_0 : (((((w.alloc (.cells #[.int .i64 N, .int .i64 lo, .int .i64 hi] 25)).alloc (.cells #[.int .i64 o, .int .i64 f] 49)).alloc (.cells #[.int .i64 n, .int .i64 d] 32)).alloc (.cells #[.int .i64 0] 3)).alloc (.cells #[.int .i64 0] 33)).cell? ⟨w.heap.size + 1 + 1 + 1 + 1, 0, none⟩ = some (.int .i64 0) := by simp [go_sem]
  have f3_0 : (((((w.alloc (.cells #[.int .i64 N, .int .i64 lo, .int .i64 hi] 25)).alloc (.cells #[.int .i64 o, .int .i64 f] 49)).alloc (.cells #[.int .i64 n, .int .i64 d] 32)).alloc (.cells #[.int .i64 0] 3)).alloc (.cells #[.int .i64 0] 33)).frozen? ⟨w.heap.size + 1 + 1 + 1, 0, none⟩ = false := by simp [go_sem]
  have f4_0 : (((((w.alloc (.cells #[.int .i64 N, .int .i64 lo, .int .i64 hi] 25)).alloc (.cells #[.int .i64 o, .int .i64 f] 49)).alloc (.cells #[.int .i64 n, .int .i64 d] 32)).alloc (.cells #[.int .i64 0] 3)).alloc (.cells #[.int .i64 0] 33)).frozen? ⟨w.heap.size + 1 + 1 + 1 + 1, 0, none⟩ = false := by simp [go_sem]
  have HE := Lib.hid (show unlessV (decide (0 < ((ableL N lo hi o f).length : Int))) 8 = 8 by rw [hL]; rfl)
  clear hL
  go_enter Tryd.func18, Tryd.ntmps18
  go_wp2_with fail
  have hq : w.heap.size + 5 = (((((w.alloc (.cells #[.int .i64 N, .int .i64 lo, .int .i64 hi] 25)).alloc (.cells #[.int .i64 o, .int .i64 f] 49)).alloc (.cells #[.int .i64 n, .int .i64 d] 32)).alloc (.cells #[.int .i64 0] 3)).alloc (.cells #[.int .i64 0] 33)).heap.size := by simp
  generalize (((((w.alloc (.cells #[.int .i64 N, .int .i64 lo, .int .i64 hi] 25)).alloc (.cells #[.int .i64 o, .int .i64 f] 49)).alloc (.cells #[.int .i64 n, .int .i64 d] 32)).alloc (.cells #[.int .i64 0] 3)).alloc (.cells #[.int .i64 0] 33)) = W0 at *
  generalize hbb : w.heap.size = bb at *
  have HBB := Lib.hid hbb
  clear hbb
  have HB0 := Lib.hid hB0
  have hq0 : bb + 5 ≤ W0.heap.size := by omega
  clear hB0 hq
  have FA : ∀ W, Free.Bel W0 W → W.cell? ⟨bb, 0, none⟩ = some (.int .i64 N) ∧ W.cell? ⟨bb, 1, none⟩ = some (.int .i64 lo) ∧ W.cell? ⟨bb, 2, none⟩ = some (.int .i64 hi) ∧ W.cell? ⟨bb + 1, 0, none⟩ = some (.int .i64 o) ∧ W.cell? ⟨bb + 1, 1, none⟩ = some (.int .i64 f) ∧ W.cell? ⟨bb + 1 + 1, 0, none⟩ = some (.int .i64 n) ∧ W.cell? ⟨bb + 1 + 1, 1, none⟩ = some (.int .i64 d) ∧ W.cell? ⟨bb + 1 + 1 + 1, 0, none⟩ = some (.int .i64 0) ∧ W.cell? ⟨bb + 1 + 1 + 1 + 1, 0, none⟩ = some (.int .i64 0) ∧ W.frozen? ⟨bb + 1 + 1 + 1, 0, none⟩ = false ∧ W.frozen? ⟨bb + 1 + 1 + 1 + 1, 0, none⟩ = false ∧ bb + 5 ≤ W.heap.size := fun W hW => ⟨keepsB hW c0_0, keepsB hW c0_1, keepsB hW c0_2, keepsB hW c1_0, keepsB hW c1_1, keepsB hW c2_0, keepsB hW c2_1, keepsB hW c3_0, keepsB hW c4_0, (hW.frozen (p := ⟨bb + 1 + 1 + 1, 0, none⟩) (by simp; omega)).trans f3_0, (hW.frozen (p := ⟨bb + 1 + 1 + 1 + 1, 0, none⟩) (by simp; omega)).trans f4_0, Nat.le_trans hq0 hW.size⟩
  clear c0_0 c0_1 c0_2 c1_0 c1_1 c2_0 c2_1 c3_0 c4_0 f3_0 f4_0
  have hF : ∀ W, KO W0.heap.size (.cells #[.pointer none] 67) W0.drew W → Free.Bel W0 W := fun W hW => Free.Bel.trans _ _ _ (Bel.drewT (Free.Bel.refl _)) hW.below
  refine Free2.wp_free (R := KO W0.heap.size (.cells #[.pointer none] 67)) (J := LQ W0.heap.size 10 11 7 67) (by kernel_rfl) (by kernel_rfl) (KO.refl) (fun _ _ _ => KO.trans) (LQ.start (by simp)) ?_
  refine Free2.Chain.ex ?_ 0 rfl [] [3] (by kernel_rfl) (by kernel_rfl) rfl (KO.refl) (fun X W v h => LQ.skip h 0 v (show (0 : Nat) ≠ 10 by decide) (show (0 : Nat) ≠ 11 by decide) (show (0 : Nat) ≠ 7 by decide)) ?_ ?_
  rotate_left
  · (intro ev W hb hR hO hD; have hS := hF W hR; obtain ⟨hb1, hb2, hb3⟩ := hb; simp only [Free.AllDeps, Free.AllOuts, Free.At, List.getElem?_cons_succ, List.getElem?_cons_zero, Array.getD_eq_getD_getElem?, List.getElem?_toArray, Option.getD_some, and_true] at hO hD; go_simp; rfl)
  simp only [List.nil_append, List.cons_append]
  refine Free2.Chain.ex ?_ 1 rfl [] [4] (by kernel_rfl) (by kernel_rfl) rfl (KO.refl) (fun X W v h => LQ.skip h 1 v (show (1 : Nat) ≠ 10 by decide) (show (1 : Nat) ≠ 11 by decide) (show (1 : Nat) ≠ 7 by decide)) ?_ ?_
  rotate_left
  · (intro ev W hb hR hO hD; have hS := hF W hR; obtain ⟨hb1, hb2, hb3⟩ := hb; simp only [Free.AllDeps, Free.AllOuts, Free.At, List.getElem?_cons_succ, List.getElem?_cons_zero, Array.getD_eq_getD_getElem?, List.getElem?_toArray, Option.getD_some, and_true] at hO hD; go_simp; rfl)
  simp only [List.nil_append, List.cons_append]
  refine Free2.Chain.ex ?_ 2 rfl [] [5] (by kernel_rfl) (by kernel_rfl) rfl (KO.refl) (fun X W v h => LQ.skip h 2 v (show (2 : Nat) ≠ 10 by decide) (show (2 : Nat) ≠ 11 by decide) (show (2 : Nat) ≠ 7 by decide)) ?_ ?_
  rotate_left
  · (intro ev W hb hR hO hD; have hS := hF W hR; obtain ⟨hb1, hb2, hb3⟩ := hb; simp only [Free.AllDeps, Free.AllOuts, Free.At, List.getElem?_cons_succ, List.getElem?_cons_zero, Array.getD_eq_getD_getElem?, List.getElem?_toArray, Option.getD_some, and_true] at hO hD; go_simp; rfl)
  simp only [List.nil_append, List.cons_append]
  refine Free2.Chain.pr (SlP [(n, d)]) 3 rfl [(2, 16)] [] (by kernel_rfl) (by kernel_rfl) rfl (fun v W W' h k => h.slp k) ?_ ?_
  · (intro ev W X hb hR hO hD hj hx hax; have hS := hF W hR; obtain ⟨hb1, hb2, hb3⟩ := hb; simp only [Free.AllDeps, Free.AllOuts, Free.At, List.getElem?_cons_succ, List.getElem?_cons_zero, Array.getD_eq_getD_getElem?, List.getElem?_toArray, Option.getD_some, and_true] at hO hD; simp only [Free2.AllX, and_true] at hax; go_simp; exact ⟨KO.of_bel (belAlloc _ _) hj.size, SlP.one _ _ _ _, (hj.bel (belAlloc _ _)).skip 3 _ (by decide) (by decide) (by decide)⟩)
  simp only [List.nil_append, List.cons_append]
  refine Free2.Chain.pr (fun v _ => v = .int .i64 0) 4 rfl [(3, 17)] [] (by kernel_rfl) (by kernel_rfl) rfl (fun _ _ _ _ h => h) ?_ ?_
  · (intro ev W X hb hR hO hD hj hx hax; have hS := hF W hR; obtain ⟨hb1, hb2, hb3⟩ := hb; simp only [Free.AllDeps, Free.AllOuts, Free.At, List.getElem?_cons_succ, List.getElem?_cons_zero, Array.getD_eq_getD_getElem?, List.getElem?_toArray, Option.getD_some, and_true] at hO hD; simp only [Free2.AllX, and_true] at hax; go_simp; refine yields_enter ?_; (with_reducible refine (given_sl [(n, d)] 0 _ _ (by simp [maxLen]) hm.out hD).mono ?_); rintro e W2 ⟨rfl, hB2⟩; exact ⟨_, rfl, KO.of_bel hB2 hj.size, rfl, (hj.bel hB2).skip 4 _ (by decide) (by decide) (by decide)⟩)
  simp only [List.nil_append, List.cons_append]
  refine Free2.Chain.pr (KnV N lo hi (ableL N lo hi o f) W0.heap.size) 5 rfl [(0, 14), (1, 15), (4, 18), (4, 18)] [] (by kernel_rfl) (by kernel_rfl) rfl (fun v W W' h k => k.ko h) ?_ ?_
  · (intro ev W X hb hR hO hD hj hx hax; have hS := hF W hR; obtain ⟨hb1, hb2, hb3⟩ := hb; simp only [Free.AllDeps, Free.AllOuts, Free.At, List.getElem?_cons_succ, List.getElem?_cons_zero, Array.getD_eq_getD_getElem?, List.getElem?_toArray, Option.getD_some, and_true] at hO hD; simp only [Free2.AllX, and_true] at hax; go_simp; refine yields_enter ?_; (with_reducible refine (known_c N lo hi o f 0 _ hc hd rfl).mono ?_); rintro e W2 hK2; obtain ⟨v, rfl, hv, hB2⟩ := KnV.of hK2 hj.size; exact ⟨_, rfl, KO.of_bel hB2 hj.size, hv, (hj.bel hB2).skip 5 _ (by decide) (by decide) (by decide)⟩)
  simp only [List.nil_append, List.cons_append]
  refine Free2.Chain.pr (KnV N lo hi (ableL N lo hi o f) W0.heap.size) 6 rfl [(5, 19)] [] (by kernel_rfl) (by kernel_rfl) rfl (fun v W W' h k => k.ko h) ?_ ?_
  · (intro ev W X hb hR hO hD hj hx hax; have hS := hF W hR; obtain ⟨hb1, hb2, hb3⟩ := hb; simp only [Free.AllDeps, Free.AllOuts, Free.At, List.getElem?_cons_succ, List.getElem?_cons_zero, Array.getD_eq_getD_getElem?, List.getElem?_toArray, Option.getD_some, and_true] at hO hD; simp only [Free2.AllX, and_true] at hax; go_simp; exact ⟨KO.refl _, hD, hj.skip 6 _ (by decide) (by decide) (by decide)⟩)
  simp only [List.nil_append, List.cons_append]
  refine Free2.Chain.pr (HoldV N lo hi W0.heap.size) 7 rfl [(6, 13)] [] (by kernel_rfl) (by kernel_rfl) rfl (fun v W W' h k => k.ko h) ?_ ?_
  · (intro ev W X hb hR hO hD hj hx hax; have hS := hF W hR; obtain ⟨hb1, hb2, hb3⟩ := hb; simp only [Free.AllDeps, Free.AllOuts, Free.At, List.getElem?_cons_succ, List.getElem?_cons_zero, Array.getD_eq_getD_getElem?, List.getElem?_toArray, Option.getD_some, and_true] at hO hD; simp only [Free2.AllX, and_true] at hax; obtain ⟨x, y, hv, h1, h2⟩ := hD; go_simp; exact ⟨KO.refl _, h1, hj.took _ hx (by decide) (by decide)⟩)
  simp only [List.nil_append, List.cons_append]
  refine Free2.Chain.pr (RowV (ableL N lo hi o f) W0.heap.size) 8 rfl [(6, 13)] [] (by kernel_rfl) (by kernel_rfl) rfl (fun v W W' h k => k.ko h) ?_ ?_
  · (intro ev W X hb hR hO hD hj hx hax; have hS := hF W hR; obtain ⟨hb1, hb2, hb3⟩ := hb; simp only [Free.AllDeps, Free.AllOuts, Free.At, List.getElem?_cons_succ, List.getElem?_cons_zero, Array.getD_eq_getD_getElem?, List.getElem?_toArray, Option.getD_some, and_true] at hO hD; simp only [Free2.AllX, and_true] at hax; obtain ⟨x, y, hv, h1, h2⟩ := hD; go_simp; exact ⟨KO.refl _, h2, hj.skip 8 _ (by decide) (by decide) (by decide)⟩)
  simp only [List.nil_append, List.cons_append]
  refine Free2.Chain.pr (fun v _ => v = .int .i64 8) 9 rfl [(6, 13)] [] (by kernel_rfl) (by kernel_rfl) rfl (fun _ _ _ _ h => h) ?_ ?_
  · (intro ev W X hb hR hO hD hj hx hax; have hS := hF W hR; obtain ⟨hb1, hb2, hb3⟩ := hb; simp only [Free.AllDeps, Free.AllOuts, Free.At, List.getElem?_cons_succ, List.getElem?_cons_zero, Array.getD_eq_getD_getElem?, List.getElem?_toArray, Option.getD_some, and_true] at hO hD; simp only [Free2.AllX, and_true] at hax; obtain ⟨x, y, hv, h1, h2⟩ := hD; rw [HE.out] at hv; go_simp; first | exact ⟨KO.refl _, rfl, hj.skip 9 _ (by decide) (by decide) (by decide)⟩ | exact ⟨KO.refl _, hj.skip 9 _ (by decide) (by decide) (by decide)⟩)
  simp only [List.nil_append, List.cons_append]
  refine Free2.Chain.pr (fun v _ => ∃ b, v = ptr b) 10 rfl [] [] (by kernel_rfl) (by kernel_rfl) rfl (fun _ _ _ _ h => h) ?_ ?_
  · (intro ev W X hb hR hO hD hj hx hax; have hS := hF W hR; obtain ⟨hb1, hb2, hb3⟩ := hb; simp only [Free.AllDeps, Free.AllOuts, Free.At, List.getElem?_cons_succ, List.getElem?_cons_zero, Array.getD_eq_getD_getElem?, List.getElem?_toArray, Option.getD_some, and_true] at hO hD; simp only [Free2.AllX, and_true] at hax; go_simp; exact ⟨KO.of_bel (belAlloc _ _) hj.size, ⟨_, rfl⟩, hj.new (by decide) (by decide) hx⟩)
  simp only [List.nil_append, List.cons_append]
  refine Free2.Chain.pr (fun _ _ => True) 11 rfl [(10, 8), (7, 20), (5, 19), (0, 14), (1, 15), (2, 16), (3, 17), (4, 18), (5, 19), (6, 13), (7, 20), (10, 8)] [] (by kernel_rfl) (by kernel_rfl) rfl (fun _ _ _ _ h => h) ?_ ?_
  · (intro ev W X hb hR hO hD hj hx hax; have hS := hF W hR; obtain ⟨hb1, hb2, hb3⟩ := hb; simp only [Free.AllDeps, Free.AllOuts, Free.At, List.getElem?_cons_succ, List.getElem?_cons_zero, Array.getD_eq_getD_getElem?, List.getElem?_toArray, Option.getD_some, and_true] at hO hD; simp only [Free2.AllX, and_true] at hax; obtain ⟨b, hb9, hs0, hbl⟩ := hj.at_ hax.1 hx; have hX := hax.1; rw [hb9] at hX; have h20 : HoldV N lo hi W0.heap.size (ev (.tmp 20)) W := (by first | exact hD.2.1 | exact hD.2 | exact hD.1); have hX7 : X 7 = some (ev (.tmp 20)) := (by first | exact hax.2.1 | exact hax.2 | exact hax.1); obtain ⟨hb, mb, kb, cb, h7v, h7r⟩ := h20; rw [h7v] at hX7; have q0 : W.cell? ⟨b, 0, none⟩ = some (.pointer none) := cell_of_heap (o := 0) hbl rfl; have p0 := frozen_of_heap (o := 0) hbl; go_simp; exact ⟨KO.store hs0 hbl, hj.stored (by decide) (by decide) hX hX7 hs0 hbl _⟩)
  simp only [List.nil_append, List.cons_append]
  refine Free2.Chain.pr (RowV (ableL N lo hi o f) W0.heap.size) 12 rfl [(8, 21), (0, 14), (1, 15), (2, 16), (3, 17), (4, 18), (5, 19), (6, 13), (7, 20), (8, 21), (10, 8)] [] (by kernel_rfl) (by kernel_rfl) rfl (fun v W W' h k => k.ko h) ?_ ?_
  · (intro ev W X hb hR hO hD hj hx hax; have hS := hF W hR; obtain ⟨hb1, hb2, hb3⟩ := hb; simp only [Free.AllDeps, Free.AllOuts, Free.At, List.getElem?_cons_succ, List.getElem?_cons_zero, Array.getD_eq_getD_getElem?, List.getElem?_toArray, Option.getD_some, and_true] at hO hD; simp only [Free2.AllX, and_true] at hax; have hD1 := hD.1; clear hD; go_simp; exact ⟨KO.refl _, hD1, hj.skip 12 _ (by decide) (by decide) (by decide)⟩)
  simp only [List.nil_append, List.cons_append]
  refine Free2.Chain.ex ?_ 13 rfl [(9, 22), (12, 9), (0, 14), (1, 15), (2, 16), (3, 17), (4, 18), (5, 19), (6, 13), (7, 20), (8, 21), (9, 22), (10, 8), (12, 9)] [] (by kernel_rfl) (by kernel_rfl) rfl (KO.refl) (fun X W v h => LQ.skip h 13 v (show (13 : Nat) ≠ 10 by decide) (show (13 : Nat) ≠ 11 by decide) (show (13 : Nat) ≠ 7 by decide)) ?_ ?_
  rotate_left
  · (intro ev W hb hR hO hD; have hS := hF W hR; obtain ⟨hb1, hb2, hb3⟩ := hb; simp only [Free.AllDeps, Free.AllOuts, Free.At, List.getElem?_cons_succ, List.getElem?_cons_zero, Array.getD_eq_getD_getElem?, List.getElem?_toArray, Option.getD_some, and_true] at hO hD; go_simp; rfl)
  simp only [List.nil_append, List.cons_append]
  intro xs w2 hR hV hX
  obtain ⟨X, hj, hxx⟩ := hX
  obtain ⟨rb, pb, hrb, hrs, hpb, hrh⟩ := hj.done (hxx 10 (show (10 : Nat) < 14 by decide)) (hxx 11 (show (11 : Nat) < 14 by decide))
  have hrb2 : xs 10 = .pointer (some ⟨rb, 0, none⟩) := hrb
  simp only [Free.AllV, Free.At, List.length_cons, List.length_nil, Nat.zero_add, Nat.reduceAdd, List.getElem?_cons_succ, List.getElem?_cons_zero, true_and, and_true] at hV
  have h7 : HoldV N lo hi W0.heap.size (xs 7) w2 := hV.1.1.1.1.1.2
  have h12 : RowV (ableL N lo hi o f) W0.heap.size (xs 12) w2 := hV.1.2
  obtain rfl : xs 7 = pb := by have := hxx 7 (show (7 : Nat) < 14 by decide); rw [hpb] at this; exact (Option.some.inj this).symm
  obtain ⟨hb, mb, kb, cb, h7v, hH, hm0, hh0⟩ := h7
  obtain ⟨gp, cap, h12v, hcells⟩ := h12
  rw [h7v] at hrh
  simp only [Free.putsFrom, Act.put, Nat.zero_add, Nat.reduceAdd, hV, hrb2, h12v, List.setIfInBounds_toArray, List.set_cons_succ, List.set_cons_zero]
  have K_w2 := hF w2 hR
  clear hR hV hF hj hxx hrb hrb2 hpb
  clear hcells hH hm0 hh0 h7v h12v
  have hz := FA w2 K_w2
  have tb := two_boxes (w := w2) (a := bb + 1 + 1 + 1) (b := bb + 1 + 1 + 1 + 1) (x := .int .i64 0) (y := .int .i64 0) (.int .i64 0) (.int .i64 8) (by simp [hz]) (by simp [hz]) (by simp)
  have r0 := tb.1
  have r1 := tb.2
  have hBB : Below bb W0 ((w2.setCell ⟨bb + 1 + 1 + 1, 0, none⟩ (.int .i64 0)).setCell ⟨bb + 1 + 1 + 1 + 1, 0, none⟩ (.int .i64 8)) := ((K_w2.mono (by omega)).setCell (p := ⟨bb + 1 + 1 + 1, 0, none⟩) (by simp; omega) _).setCell (p := ⟨bb + 1 + 1 + 1 + 1, 0, none⟩) (by simp; omega) _
  have HBB2 := Lib.hid hBB
  clear hz tb hBB
  go_wp2_with fail
  have hbb := HBB.out
  subst hbb
  exact bodyPost_ret (v := .tuple #[.int .i64 0, .int .i64 8]) (by simp [results, Tryd.results18, go_sem, r0, r1]) rfl ⟨rfl, HB0.out.trans HBB2.out⟩

theorem ableK_mem (N lo o f : Int) : ∀ (k : Nat) (x : Int), x ∈ ableK N lo o f k → lo ≤ x ∧ x < lo + k
  | 0, _, h => by simp [ableK] at h
  | k + 1, x, h => by
    rw [ableK] at h
    split at h
    · rcases List.mem_append.1 h with h | h
      · have := ableK_mem N lo o f k x h; omega
      · simp at h; omega
    · have := ableK_mem N lo o f k x h; omega
/-- Whether D dirty bags are likely enough. -/
def boundB (N o f n d D : Int) : Bool := decide (n * chI N o ≤ mostI N D o f * d)
theorem bound_eq (c p q n d : Int) (hc : 0 < c) : decide (n * (c * q) ≤ c * p * d) = decide (n * q ≤ p * d) := by
  rw [show n * (c * q) = c * (n * q) by rw [← Int.mul_assoc, Int.mul_comm n c, Int.mul_assoc], Int.mul_assoc, decide_eq_decide]
  exact Int.mul_le_mul_left hc
def boundL (N o f n d : Int) (l : List (Int × Int)) : Int × Int := match l.find? (fun x => boundB N o f n d x.2) with | some x => (x.2, 0) | none => (0, 6)
def boundP (N lo hi o f n d : Int) : Int × Int := boundL N o f n d (revI (ableL N lo hi o f) (ableL N lo hi o f).length)
section
variable {N o f n d : Int} {pre : List (Int × Int)} {x : Int × Int}
theorem bound_skip (h : ∀ rest, boundL N o f n d (pre ++ rest) = boundL N o f n d rest) (hx : boundB N o f n d x.2 = false) : ∀ rest, boundL N o f n d (pre ++ [x] ++ rest) = boundL N o f n d rest := fun rest => by
  rw [List.append_assoc, h]; simp [boundL, hx]
theorem bound_hit (h : ∀ rest, boundL N o f n d (pre ++ rest) = boundL N o f n d rest) (hx : boundB N o f n d x.2 = true) : ∀ rest, boundL N o f n d (pre ++ [x] ++ rest) = (x.2, 0) := fun rest => by
  rw [List.append_assoc, h]; simp [boundL, hx]
end

set_option maxRecDepth 100000 in
set_option maxHeartbeats 8000000 in
theorem bound_d (N lo hi o f n d : Int) (w : World) (hc : cargoB N lo hi = true) (hd : drawB N o f = true) (hm : Hid (unlessV ([(n, d)].all fun x => givenB x.1 x.2) 12 = 0)) (hg : givenB n d = true) (hL : ableL N lo hi o f ≠ []) :
    Calls Tryd.prog 18 #[.agg #[.int .i64 N, .int .i64 lo, .int .i64 hi], .agg #[.int .i64 o, .int .i64 f], .agg #[.int .i64 n, .int .i64 d]] w fun e w' => e = .returned (.tuple #[.int .i64 (boundP N lo hi o f n d).1, .int .i64 (boundP N lo hi o f n d).2]) ∧ Below w.heap.size w w' := by
  have hB0 : Below w.heap.size w (((((w.alloc (.cells #[.int .i64 N, .int .i64 lo, .int .i64 hi] 25)).alloc (.cells #[.int .i64 o, .int .i64 f] 49)).alloc (.cells #[.int .i64 n, .int .i64 d] 32)).alloc (.cells #[.int .i64 0] 3)).alloc (.cells #[.int .i64 0] 33)) := (((((Below.refl _ w).alloc (Nat.le_refl _) _).alloc (by simp) _).alloc (by simp; omega) _).alloc (by simp; omega) _).alloc (by simp; omega) _
  have c0_0 : (((((w.alloc (.cells #[.int .i64 N, .int .i64 lo, .int .i64 hi] 25)).alloc (.cells #[.int .i64 o, .int .i64 f] 49)).alloc (.cells #[.int .i64 n, .int .i64 d] 32)).alloc (.cells #[.int .i64 0] 3)).alloc (.cells #[.int .i64 0] 33)).cell? ⟨w.heap.size, 0, none⟩ = some (.int .i64 N) := by simp [go_sem]
  have c0_1 : (((((w.alloc (.cells #[.int .i64 N, .int .i64 lo, .int .i64 hi] 25)).alloc (.cells #[.int .i64 o, .int .i64 f] 49)).alloc (.cells #[.int .i64 n, .int .i64 d] 32)).alloc (.cells #[.int .i64 0] 3)).alloc (.cells #[.int .i64 0] 33)).cell? ⟨w.heap.size, 1, none⟩ = some (.int .i64 lo) := by simp [go_sem]
  have c0_2 : (((((w.alloc (.cells #[.int .i64 N, .int .i64 lo, .int .i64 hi] 25)).alloc (.cells #[.int .i64 o, .int .i64 f] 49)).alloc (.cells #[.int .i64 n, .int .i64 d] 32)).alloc (.cells #[.int .i64 0] 3)).alloc (.cells #[.int .i64 0] 33)).cell? ⟨w.heap.size, 2, none⟩ = some (.int .i64 hi) := by simp [go_sem]
  have c1_0 : (((((w.alloc (.cells #[.int .i64 N, .int .i64 lo, .int .i64 hi] 25)).alloc (.cells #[.int .i64 o, .int .i64 f] 49)).alloc (.cells #[.int .i64 n, .int .i64 d] 32)).alloc (.cells #[.int .i64 0] 3)).alloc (.cells #[.int .i64 0] 33)).cell? ⟨w.heap.size + 1, 0, none⟩ = some (.int .i64 o) := by simp [go_sem]
  have c1_1 : (((((w.alloc (.cells #[.int .i64 N, .int .i64 lo, .int .i64 hi] 25)).alloc (.cells #[.int .i64 o, .int .i64 f] 49)).alloc (.cells #[.int .i64 n, .int .i64 d] 32)).alloc (.cells #[.int .i64 0] 3)).alloc (.cells #[.int .i64 0] 33)).cell? ⟨w.heap.size + 1, 1, none⟩ = some (.int .i64 f) := by simp [go_sem]
  have c2_0 : (((((w.alloc (.cells #[.int .i64 N, .int .i64 lo, .int .i64 hi] 25)).alloc (.cells #[.int .i64 o, .int .i64 f] 49)).alloc (.cells #[.int .i64 n, .int .i64 d] 32)).alloc (.cells #[.int .i64 0] 3)).alloc (.cells #[.int .i64 0] 33)).cell? ⟨w.heap.size + 1 + 1, 0, none⟩ = some (.int .i64 n) := by simp [go_sem]
  have c2_1 : (((((w.alloc (.cells #[.int .i64 N, .int .i64 lo, .int .i64 hi] 25)).alloc (.cells #[.int .i64 o, .int .i64 f] 49)).alloc (.cells #[.int .i64 n, .int .i64 d] 32)).alloc (.cells #[.int .i64 0] 3)).alloc (.cells #[.int .i64 0] 33)).cell? ⟨w.heap.size + 1 + 1, 1, none⟩ = some (.int .i64 d) := by simp [go_sem]
  have c3_0 : (((((w.alloc (.cells #[.int .i64 N, .int .i64 lo, .int .i64 hi] 25)).alloc (.cells #[.int .i64 o, .int .i64 f] 49)).alloc (.cells #[.int .i64 n, .int .i64 d] 32)).alloc (.cells #[.int .i64 0] 3)).alloc (.cells #[.int .i64 0] 33)).cell? ⟨w.heap.size + 1 + 1 + 1, 0, none⟩ = some (.int .i64 0) := by simp [go_sem]
  have c4_0 : (((((w.alloc (.cells #[.int .i64 N, .int .i64 lo, .int .i64 hi] 25)).alloc (.cells #[.int .i64 o, .int .i64 f] 49)).alloc (.cells #[.int .i64 n, .int .i64 d] 32)).alloc (.cells #[.int .i64 0] 3)).alloc (.cells #[.int .i64 0] 33)).cell? ⟨w.heap.size + 1 + 1 + 1 + 1, 0, none⟩ = some (.int .i64 0) := by simp [go_sem]
  have f3_0 : (((((w.alloc (.cells #[.int .i64 N, .int .i64 lo, .int .i64 hi] 25)).alloc (.cells #[.int .i64 o, .int .i64 f] 49)).alloc (.cells #[.int .i64 n, .int .i64 d] 32)).alloc (.cells #[.int .i64 0] 3)).alloc (.cells #[.int .i64 0] 33)).frozen? ⟨w.heap.size + 1 + 1 + 1, 0, none⟩ = false := by simp [go_sem]
  have f4_0 : (((((w.alloc (.cells #[.int .i64 N, .int .i64 lo, .int .i64 hi] 25)).alloc (.cells #[.int .i64 o, .int .i64 f] 49)).alloc (.cells #[.int .i64 n, .int .i64 d] 32)).alloc (.cells #[.int .i64 0] 3)).alloc (.cells #[.int .i64 0] 33)).frozen? ⟨w.heap.size + 1 + 1 + 1 + 1, 0, none⟩ = false := by simp [go_sem]
  have HE := Lib.hid (show unlessV (decide (0 < ((ableL N lo hi o f).length : Int))) 8 = 0 by have : 0 < (ableL N lo hi o f).length := List.length_pos_iff.2 hL; rw [decide_eq_true (by omega)]; rfl)
  have HL := Lib.hid hL
  have hN := (cargoB_iff N lo hi).1 hc
  have hD9 := (drawB_iff N o f).1 hd
  have hG := (givenB_iff n d).1 hg
  clear hL hg
  refine (callsIn_wide (n := 5)).1 ?_
  refine callsIn_of_wp_marks Tryd.func18 rfl trivial ?_ rfl
  simp only [Tryd.ntmps18, List.size_toArray, List.length_cons, List.length_nil, Nat.reduceAdd, Nat.reduceSub, Array.replicate_succ, Array.replicate_zero, List.push_toArray, List.append_toArray, List.nil_append, List.cons_append]
  refine wpIn_wide.2 ?_
  go_wp2_with fail
  have hq : w.heap.size + 5 = (((((w.alloc (.cells #[.int .i64 N, .int .i64 lo, .int .i64 hi] 25)).alloc (.cells #[.int .i64 o, .int .i64 f] 49)).alloc (.cells #[.int .i64 n, .int .i64 d] 32)).alloc (.cells #[.int .i64 0] 3)).alloc (.cells #[.int .i64 0] 33)).heap.size := by simp
  generalize (((((w.alloc (.cells #[.int .i64 N, .int .i64 lo, .int .i64 hi] 25)).alloc (.cells #[.int .i64 o, .int .i64 f] 49)).alloc (.cells #[.int .i64 n, .int .i64 d] 32)).alloc (.cells #[.int .i64 0] 3)).alloc (.cells #[.int .i64 0] 33)) = W0 at *
  generalize hbb : w.heap.size = bb at *
  have HBB := Lib.hid hbb
  clear hbb
  have HB0 := Lib.hid hB0
  have hq0 : bb + 5 ≤ W0.heap.size := by omega
  clear hB0 hq
  have FA : ∀ W, Free.Bel W0 W → W.cell? ⟨bb, 0, none⟩ = some (.int .i64 N) ∧ W.cell? ⟨bb, 1, none⟩ = some (.int .i64 lo) ∧ W.cell? ⟨bb, 2, none⟩ = some (.int .i64 hi) ∧ W.cell? ⟨bb + 1, 0, none⟩ = some (.int .i64 o) ∧ W.cell? ⟨bb + 1, 1, none⟩ = some (.int .i64 f) ∧ W.cell? ⟨bb + 1 + 1, 0, none⟩ = some (.int .i64 n) ∧ W.cell? ⟨bb + 1 + 1, 1, none⟩ = some (.int .i64 d) ∧ W.cell? ⟨bb + 1 + 1 + 1, 0, none⟩ = some (.int .i64 0) ∧ W.cell? ⟨bb + 1 + 1 + 1 + 1, 0, none⟩ = some (.int .i64 0) ∧ W.frozen? ⟨bb + 1 + 1 + 1, 0, none⟩ = false ∧ W.frozen? ⟨bb + 1 + 1 + 1 + 1, 0, none⟩ = false ∧ bb + 5 ≤ W.heap.size := fun W hW => ⟨keepsB hW c0_0, keepsB hW c0_1, keepsB hW c0_2, keepsB hW c1_0, keepsB hW c1_1, keepsB hW c2_0, keepsB hW c2_1, keepsB hW c3_0, keepsB hW c4_0, (hW.frozen (p := ⟨bb + 1 + 1 + 1, 0, none⟩) (by simp; omega)).trans f3_0, (hW.frozen (p := ⟨bb + 1 + 1 + 1 + 1, 0, none⟩) (by simp; omega)).trans f4_0, Nat.le_trans hq0 hW.size⟩
  clear c0_0 c0_1 c0_2 c1_0 c1_1 c2_0 c2_1 c3_0 c4_0 f3_0 f4_0
  have hF : ∀ W, KO W0.heap.size (.cells #[.pointer none] 67) W0.drew W → Free.Bel W0 W := fun W hW => Free.Bel.trans _ _ _ (Bel.drewT (Free.Bel.refl _)) hW.below
  refine Free2.wp_free (R := KO W0.heap.size (.cells #[.pointer none] 67)) (J := LQ W0.heap.size 10 11 7 67) (by kernel_rfl) (by kernel_rfl) (KO.refl) (fun _ _ _ => KO.trans) (LQ.start (by simp)) ?_
  refine Free2.Chain.ex ?_ 0 rfl [] [3] (by kernel_rfl) (by kernel_rfl) rfl (KO.refl) (fun X W v h => LQ.skip h 0 v (show (0 : Nat) ≠ 10 by decide) (show (0 : Nat) ≠ 11 by decide) (show (0 : Nat) ≠ 7 by decide)) ?_ ?_
  rotate_left
  · (intro ev W hb hR hO hD; have hS := hF W hR; obtain ⟨hb1, hb2, hb3⟩ := hb; simp only [Free.AllDeps, Free.AllOuts, Free.At, List.getElem?_cons_succ, List.getElem?_cons_zero, Array.getD_eq_getD_getElem?, List.getElem?_toArray, Option.getD_some, and_true] at hO hD; go_simp; rfl)
  simp only [List.nil_append, List.cons_append]
  refine Free2.Chain.ex ?_ 1 rfl [] [4] (by kernel_rfl) (by kernel_rfl) rfl (KO.refl) (fun X W v h => LQ.skip h 1 v (show (1 : Nat) ≠ 10 by decide) (show (1 : Nat) ≠ 11 by decide) (show (1 : Nat) ≠ 7 by decide)) ?_ ?_
  rotate_left
  · (intro ev W hb hR hO hD; have hS := hF W hR; obtain ⟨hb1, hb2, hb3⟩ := hb; simp only [Free.AllDeps, Free.AllOuts, Free.At, List.getElem?_cons_succ, List.getElem?_cons_zero, Array.getD_eq_getD_getElem?, List.getElem?_toArray, Option.getD_some, and_true] at hO hD; go_simp; rfl)
  simp only [List.nil_append, List.cons_append]
  refine Free2.Chain.ex ?_ 2 rfl [] [5] (by kernel_rfl) (by kernel_rfl) rfl (KO.refl) (fun X W v h => LQ.skip h 2 v (show (2 : Nat) ≠ 10 by decide) (show (2 : Nat) ≠ 11 by decide) (show (2 : Nat) ≠ 7 by decide)) ?_ ?_
  rotate_left
  · (intro ev W hb hR hO hD; have hS := hF W hR; obtain ⟨hb1, hb2, hb3⟩ := hb; simp only [Free.AllDeps, Free.AllOuts, Free.At, List.getElem?_cons_succ, List.getElem?_cons_zero, Array.getD_eq_getD_getElem?, List.getElem?_toArray, Option.getD_some, and_true] at hO hD; go_simp; rfl)
  simp only [List.nil_append, List.cons_append]
  refine Free2.Chain.pr (SlP [(n, d)]) 3 rfl [(2, 16)] [] (by kernel_rfl) (by kernel_rfl) rfl (fun v W W' h k => h.slp k) ?_ ?_
  · (intro ev W X hb hR hO hD hj hx hax; have hS := hF W hR; obtain ⟨hb1, hb2, hb3⟩ := hb; simp only [Free.AllDeps, Free.AllOuts, Free.At, List.getElem?_cons_succ, List.getElem?_cons_zero, Array.getD_eq_getD_getElem?, List.getElem?_toArray, Option.getD_some, and_true] at hO hD; simp only [Free2.AllX, and_true] at hax; go_simp; exact ⟨KO.of_bel (belAlloc _ _) hj.size, SlP.one _ _ _ _, (hj.bel (belAlloc _ _)).skip 3 _ (by decide) (by decide) (by decide)⟩)
  simp only [List.nil_append, List.cons_append]
  refine Free2.Chain.pr (fun v _ => v = .int .i64 0) 4 rfl [(3, 17)] [] (by kernel_rfl) (by kernel_rfl) rfl (fun _ _ _ _ h => h) ?_ ?_
  · (intro ev W X hb hR hO hD hj hx hax; have hS := hF W hR; obtain ⟨hb1, hb2, hb3⟩ := hb; simp only [Free.AllDeps, Free.AllOuts, Free.At, List.getElem?_cons_succ, List.getElem?_cons_zero, Array.getD_eq_getD_getElem?, List.getElem?_toArray, Option.getD_some, and_true] at hO hD; simp only [Free2.AllX, and_true] at hax; go_simp; refine yields_enter ?_; (with_reducible refine (given_sl [(n, d)] 0 _ _ (by simp [maxLen]) hm.out hD).mono ?_); rintro e W2 ⟨rfl, hB2⟩; exact ⟨_, rfl, KO.of_bel hB2 hj.size, rfl, (hj.bel hB2).skip 4 _ (by decide) (by decide) (by decide)⟩)
  simp only [List.nil_append, List.cons_append]
  refine Free2.Chain.pr (KnV N lo hi (ableL N lo hi o f) W0.heap.size) 5 rfl [(0, 14), (1, 15), (4, 18), (4, 18)] [] (by kernel_rfl) (by kernel_rfl) rfl (fun v W W' h k => k.ko h) ?_ ?_
  · (intro ev W X hb hR hO hD hj hx hax; have hS := hF W hR; obtain ⟨hb1, hb2, hb3⟩ := hb; simp only [Free.AllDeps, Free.AllOuts, Free.At, List.getElem?_cons_succ, List.getElem?_cons_zero, Array.getD_eq_getD_getElem?, List.getElem?_toArray, Option.getD_some, and_true] at hO hD; simp only [Free2.AllX, and_true] at hax; go_simp; refine yields_enter ?_; (with_reducible refine (known_c N lo hi o f 0 _ hc hd rfl).mono ?_); rintro e W2 hK2; obtain ⟨v, rfl, hv, hB2⟩ := KnV.of hK2 hj.size; exact ⟨_, rfl, KO.of_bel hB2 hj.size, hv, (hj.bel hB2).skip 5 _ (by decide) (by decide) (by decide)⟩)
  simp only [List.nil_append, List.cons_append]
  refine Free2.Chain.pr (KnV N lo hi (ableL N lo hi o f) W0.heap.size) 6 rfl [(5, 19)] [] (by kernel_rfl) (by kernel_rfl) rfl (fun v W W' h k => k.ko h) ?_ ?_
  · (intro ev W X hb hR hO hD hj hx hax; have hS := hF W hR; obtain ⟨hb1, hb2, hb3⟩ := hb; simp only [Free.AllDeps, Free.AllOuts, Free.At, List.getElem?_cons_succ, List.getElem?_cons_zero, Array.getD_eq_getD_getElem?, List.getElem?_toArray, Option.getD_some, and_true] at hO hD; simp only [Free2.AllX, and_true] at hax; go_simp; exact ⟨KO.refl _, hD, hj.skip 6 _ (by decide) (by decide) (by decide)⟩)
  simp only [List.nil_append, List.cons_append]
  refine Free2.Chain.pr (HoldV N lo hi W0.heap.size) 7 rfl [(6, 13)] [] (by kernel_rfl) (by kernel_rfl) rfl (fun v W W' h k => k.ko h) ?_ ?_
  · (intro ev W X hb hR hO hD hj hx hax; have hS := hF W hR; obtain ⟨hb1, hb2, hb3⟩ := hb; simp only [Free.AllDeps, Free.AllOuts, Free.At, List.getElem?_cons_succ, List.getElem?_cons_zero, Array.getD_eq_getD_getElem?, List.getElem?_toArray, Option.getD_some, and_true] at hO hD; simp only [Free2.AllX, and_true] at hax; obtain ⟨x, y, hv, h1, h2⟩ := hD; go_simp; exact ⟨KO.refl _, h1, hj.took _ hx (by decide) (by decide)⟩)
  simp only [List.nil_append, List.cons_append]
  refine Free2.Chain.pr (RowV (ableL N lo hi o f) W0.heap.size) 8 rfl [(6, 13)] [] (by kernel_rfl) (by kernel_rfl) rfl (fun v W W' h k => k.ko h) ?_ ?_
  · (intro ev W X hb hR hO hD hj hx hax; have hS := hF W hR; obtain ⟨hb1, hb2, hb3⟩ := hb; simp only [Free.AllDeps, Free.AllOuts, Free.At, List.getElem?_cons_succ, List.getElem?_cons_zero, Array.getD_eq_getD_getElem?, List.getElem?_toArray, Option.getD_some, and_true] at hO hD; simp only [Free2.AllX, and_true] at hax; obtain ⟨x, y, hv, h1, h2⟩ := hD; go_simp; exact ⟨KO.refl _, h2, hj.skip 8 _ (by decide) (by decide) (by decide)⟩)
  simp only [List.nil_append, List.cons_append]
  refine Free2.Chain.pr (fun v _ => v = .int .i64 0) 9 rfl [(6, 13)] [] (by kernel_rfl) (by kernel_rfl) rfl (fun _ _ _ _ h => h) ?_ ?_
  · (intro ev W X hb hR hO hD hj hx hax; have hS := hF W hR; obtain ⟨hb1, hb2, hb3⟩ := hb; simp only [Free.AllDeps, Free.AllOuts, Free.At, List.getElem?_cons_succ, List.getElem?_cons_zero, Array.getD_eq_getD_getElem?, List.getElem?_toArray, Option.getD_some, and_true] at hO hD; simp only [Free2.AllX, and_true] at hax; obtain ⟨x, y, hv, h1, h2⟩ := hD; rw [HE.out] at hv; go_simp; first | exact ⟨KO.refl _, rfl, hj.skip 9 _ (by decide) (by decide) (by decide)⟩ | exact ⟨KO.refl _, hj.skip 9 _ (by decide) (by decide) (by decide)⟩)
  simp only [List.nil_append, List.cons_append]
  refine Free2.Chain.pr (fun v _ => ∃ b, v = ptr b) 10 rfl [] [] (by kernel_rfl) (by kernel_rfl) rfl (fun _ _ _ _ h => h) ?_ ?_
  · (intro ev W X hb hR hO hD hj hx hax; have hS := hF W hR; obtain ⟨hb1, hb2, hb3⟩ := hb; simp only [Free.AllDeps, Free.AllOuts, Free.At, List.getElem?_cons_succ, List.getElem?_cons_zero, Array.getD_eq_getD_getElem?, List.getElem?_toArray, Option.getD_some, and_true] at hO hD; simp only [Free2.AllX, and_true] at hax; go_simp; exact ⟨KO.of_bel (belAlloc _ _) hj.size, ⟨_, rfl⟩, hj.new (by decide) (by decide) hx⟩)
  simp only [List.nil_append, List.cons_append]
  refine Free2.Chain.pr (fun _ _ => True) 11 rfl [(10, 8), (7, 20), (5, 19), (0, 14), (1, 15), (2, 16), (3, 17), (4, 18), (5, 19), (6, 13), (7, 20), (10, 8)] [] (by kernel_rfl) (by kernel_rfl) rfl (fun _ _ _ _ h => h) ?_ ?_
  · (intro ev W X hb hR hO hD hj hx hax; have hS := hF W hR; obtain ⟨hb1, hb2, hb3⟩ := hb; simp only [Free.AllDeps, Free.AllOuts, Free.At, List.getElem?_cons_succ, List.getElem?_cons_zero, Array.getD_eq_getD_getElem?, List.getElem?_toArray, Option.getD_some, and_true] at hO hD; simp only [Free2.AllX, and_true] at hax; obtain ⟨b, hb9, hs0, hbl⟩ := hj.at_ hax.1 hx; have hX := hax.1; rw [hb9] at hX; have h20 : HoldV N lo hi W0.heap.size (ev (.tmp 20)) W := (by first | exact hD.2.1 | exact hD.2 | exact hD.1); have hX7 : X 7 = some (ev (.tmp 20)) := (by first | exact hax.2.1 | exact hax.2 | exact hax.1); obtain ⟨hb, mb, kb, cb, h7v, h7r⟩ := h20; rw [h7v] at hX7; have q0 : W.cell? ⟨b, 0, none⟩ = some (.pointer none) := cell_of_heap (o := 0) hbl rfl; have p0 := frozen_of_heap (o := 0) hbl; go_simp; exact ⟨KO.store hs0 hbl, hj.stored (by decide) (by decide) hX hX7 hs0 hbl _⟩)
  simp only [List.nil_append, List.cons_append]
  refine Free2.Chain.pr (RowV (ableL N lo hi o f) W0.heap.size) 12 rfl [(8, 21), (0, 14), (1, 15), (2, 16), (3, 17), (4, 18), (5, 19), (6, 13), (7, 20), (8, 21), (10, 8)] [] (by kernel_rfl) (by kernel_rfl) rfl (fun v W W' h k => k.ko h) ?_ ?_
  · (intro ev W X hb hR hO hD hj hx hax; have hS := hF W hR; obtain ⟨hb1, hb2, hb3⟩ := hb; simp only [Free.AllDeps, Free.AllOuts, Free.At, List.getElem?_cons_succ, List.getElem?_cons_zero, Array.getD_eq_getD_getElem?, List.getElem?_toArray, Option.getD_some, and_true] at hO hD; simp only [Free2.AllX, and_true] at hax; have hD1 := hD.1; clear hD; go_simp; exact ⟨KO.refl _, hD1, hj.skip 12 _ (by decide) (by decide) (by decide)⟩)
  simp only [List.nil_append, List.cons_append]
  refine Free2.Chain.ex ?_ 13 rfl [(9, 22), (12, 9), (0, 14), (1, 15), (2, 16), (3, 17), (4, 18), (5, 19), (6, 13), (7, 20), (8, 21), (9, 22), (10, 8), (12, 9)] [] (by kernel_rfl) (by kernel_rfl) rfl (KO.refl) (fun X W v h => LQ.skip h 13 v (show (13 : Nat) ≠ 10 by decide) (show (13 : Nat) ≠ 11 by decide) (show (13 : Nat) ≠ 7 by decide)) ?_ ?_
  rotate_left
  · (intro ev W hb hR hO hD; have hS := hF W hR; obtain ⟨hb1, hb2, hb3⟩ := hb; simp only [Free.AllDeps, Free.AllOuts, Free.At, List.getElem?_cons_succ, List.getElem?_cons_zero, Array.getD_eq_getD_getElem?, List.getElem?_toArray, Option.getD_some, and_true] at hO hD; go_simp; rfl)
  simp only [List.nil_append, List.cons_append]
  intro xs w2 hR hV hX
  obtain ⟨X, hj, hxx⟩ := hX
  obtain ⟨rb, pb, hrb, hrs, hpb, hrh⟩ := hj.done (hxx 10 (show (10 : Nat) < 14 by decide)) (hxx 11 (show (11 : Nat) < 14 by decide))
  have hrb2 : xs 10 = .pointer (some ⟨rb, 0, none⟩) := hrb
  simp only [Free.AllV, Free.At, List.length_cons, List.length_nil, Nat.zero_add, Nat.reduceAdd, List.getElem?_cons_succ, List.getElem?_cons_zero, true_and, and_true] at hV
  have h7 : HoldV N lo hi W0.heap.size (xs 7) w2 := hV.1.1.1.1.1.2
  have h12 : RowV (ableL N lo hi o f) W0.heap.size (xs 12) w2 := hV.1.2
  obtain rfl : xs 7 = pb := by have := hxx 7 (show (7 : Nat) < 14 by decide); rw [hpb] at this; exact (Option.some.inj this).symm
  obtain ⟨hb, mb, kb, cb, h7v, hH, hm0, hh0⟩ := h7
  obtain ⟨gp, cap, h12v, hcells⟩ := h12
  rw [h7v] at hrh
  simp only [Free.putsFrom, Act.put, Nat.zero_add, Nat.reduceAdd, hV, hrb2, h12v, List.setIfInBounds_toArray, List.set_cons_succ, List.set_cons_zero]
  have K_w2 := hF w2 hR
  clear hR hV hF hj hxx hrb hrb2 hpb
  obtain ⟨g, rfl, hg0, hcl⟩ := hcells HL.out
  clear hcells h7v h12v
  have hL37 : (ableL N lo hi o f).length ≤ 37 := by have := ableK_length N lo o f (hi - lo + 1).toNat; unfold ableL; omega
  have HMEM := Lib.hid (fun (x : Int × Int) (pre : List (Int × Int)) (h : pre ++ [x] <+: revI (ableL N lo hi o f) (ableL N lo hi o f).length) => revI_mem _ _ (Nat.le_refl _) x (h.subset (by simp)))
  have HP := Lib.hid (show boundL N o f n d (revI (ableL N lo hi o f) (ableL N lo hi o f).length) = boundP N lo hi o f n d from rfl)
  obtain ⟨L, hLe⟩ : ∃ L, ableL N lo hi o f = L := ⟨_, rfl⟩
  rw [hLe] at hcl hL37 HMEM HP ⊢
  have HLE := Lib.hid hLe
  clear hLe
  have HH0 := Lib.hid hH
  have HCL := Lib.hid hcl
  have HK2 := Lib.hid K_w2
  have hz := FA w2 K_w2
  have hmm : mb < w2.heap.size := by obtain ⟨l, hl, _⟩ := hH.ctr.memo; exact hl.lt
  have hrb := cell_of_heap (o := 0) hrh rfl
  have bS := Boxed.new w2 53 (.slice (some ⟨g, 0, none⟩) L.length cap)
  go_wp2_with fail
  refine (backI_any (some ⟨g, 0, none⟩) L.length cap w2).mono ?_
  rintro e w3 ⟨rfl, hw3⟩
  have hB3 : Free.Bel w2 w3 := by rw [← hw3]; exact belAlloc _ _
  rw [hw3] at bS
  have hs3 : w3.heap.size = w2.heap.size + 1 := by rw [← hw3]; simp
  clear hw3
  obtain ⟨B3, hB3e⟩ : ∃ B3, w2.heap.size = B3 := ⟨_, rfl⟩
  rw [hB3e] at bS hs3
  have hs2 := hB3e
  rw [hB3e]
  clear hB3e
  have hz3 := FA w3 (Free.Bel.trans _ _ _ K_w2 hB3)
  have hH3 := hH.kept (.of_below hB3)
  have hrb3 := keepsB hB3 hrb
  have hmb3 : mb < w3.heap.size := by omega
  have hrm : rb ≠ mb := hH.ctr.memo.ne hrb
  have hgm : L ≠ [] → g ≠ mb := fun h => hH.ctr.memo.ne (hcl 0 (List.length_pos_iff.2 h))
  have hLne : L ≠ [] := by rw [← HLE.out]; exact HL.out
  have hg3 : g < w3.heap.size := by have := lt_of_cell (hcl 0 (List.length_pos_iff.2 hLne)); simp only at this; omega
  have hg4 := hgm hLne
  have HB3' := Lib.hid (Free.Bel.trans _ _ _ K_w2 hB3)
  have hlim : W0.heap.size ≤ w3.heap.size := (Free.Bel.trans _ _ _ K_w2 hB3).size
  have hseq : SeqL Fence.wide (5 - 1) Tryd.prog 66 #[.pointer (some ⟨B3, 0, none⟩)] encI2 Free.Bel (KeptB w3.heap.size mb) (revI L L.length) w3 := fun l J Jx W hW hJ hJx hY h0 =>
    backI1_in (5 - 1) l B3 w3.heap.size mb g cap L (by omega) W hL37 (fun j hj => keepsB hW (keepsB hB3 (HCL.out j hj))) hg3 hg4 (hW.cell (p := ⟨B3, 0, none⟩) (by simp; omega) |>.trans bS.cell) (by omega) (by omega) J Jx hY h0 (KeptB.refl _ _ _)
  have HSEQ := Lib.hid hseq
  have FB : ∀ W, Kept mb w3 W → W.cell? ⟨bb + 1, 0, none⟩ = some (.int .i64 o) ∧ W.cell? ⟨bb + 1, 1, none⟩ = some (.int .i64 f) ∧ W.cell? ⟨bb + 1 + 1, 0, none⟩ = some (.int .i64 n) ∧ W.cell? ⟨bb + 1 + 1, 1, none⟩ = some (.int .i64 d) ∧ W.cell? ⟨bb + 1 + 1 + 1, 0, none⟩ = some (.int .i64 0) ∧ W.cell? ⟨bb + 1 + 1 + 1 + 1, 0, none⟩ = some (.int .i64 0) ∧ W.cell? ⟨rb, 0, none⟩ = some (.pointer (some ⟨hb, 0, none⟩)) ∧ W.frozen? ⟨bb + 1 + 1 + 1, 0, none⟩ = false ∧ W.frozen? ⟨bb + 1 + 1 + 1 + 1, 0, none⟩ = false ∧ bb + 5 ≤ W.heap.size := fun W hW => by
    have ne : ∀ k, k < W0.heap.size → k ≠ mb := fun k hk => by omega
    refine ⟨hW.cell (v := .int .i64 o) (by simp [hz3]) (ne _ (by simp; omega)), hW.cell (v := .int .i64 f) (by simp [hz3]) (ne _ (by simp; omega)), hW.cell (v := .int .i64 n) (by simp [hz3]) (ne _ (by simp; omega)), hW.cell (v := .int .i64 d) (by simp [hz3]) (ne _ (by simp; omega)), hW.cell (v := .int .i64 0) (by simp [hz3]) (ne _ (by simp; omega)), hW.cell (v := .int .i64 0) (by simp [hz3]) (ne _ (by simp; omega)), hW.cell hrb3 hrm, ?_, ?_, by have := hW.size; omega⟩
    · exact (World.frozen?_of_block (w := w3) (a := ⟨bb + 1 + 1 + 1, 0, none⟩) (hW.block _ (by simp; omega) (ne _ (by simp; omega)))).trans (by simp [hz3])
    · exact (World.frozen?_of_block (w := w3) (a := ⟨bb + 1 + 1 + 1 + 1, 0, none⟩) (hW.block _ (by simp; omega) (ne _ (by simp; omega)))).trans (by simp [hz3])
  have HHo := Lib.hid (fun (W : World) (hW : Kept mb w3 W) => hH3.kept hW)
  have HBE := Lib.hid (fun (W : World) (hW : Kept mb w3 W) => (show Below bb W0 W from (hW.below (a := W0) (Free.Bel.trans _ _ _ K_w2 hB3) hm0).mono (by omega)))
  have HMB := Lib.hid (And.intro hmb3 hlim)
  clear hseq bS hz3 hH3 hrb3 hrm hgm hg3 hg4 hcl hz hrb hrh hH K_w2 hB3 FA hmb3 hmm hm0 hh0 hg0 hrs
  go_wp2_with fail
  refine (wpIn_wide (n := 5)).1 ?_
  refine wpIn_rangeFunc_R (F := Fence.wide) (n := 5) rfl (by omega) (gf := 66) (lb := #[.pointer (some ⟨B3, 0, none⟩)]) rfl trivial (enters_of Tryd.func66 (by kernel_rfl) rfl)
    HSEQ.out (fun A b' _ h => Free.Bel.trans _ _ _ h (belAlloc A b')) (Free.Bel.refl _) (fun A B k b' h _ hA => heap_bel hA h)
    KeptB.trans (fun W l b' b'' hl h _ _ => KeptB.of_below (Below.putNew b'' hl) HMB.out.1) (fun _ => rfl)
    (fun pre W => (∀ rest, boundL N o f n d (pre ++ rest) = boundL N o f n d rest) ∧ Kept mb w3 W)
    (fun c pre W => c = .ret ∧ (∃ q, W.cell? ⟨bb + 1 + 1 + 1, 0, none⟩ = some (.int .i64 q) ∧ W.cell? ⟨bb + 1 + 1 + 1 + 1, 0, none⟩ = some (.int .i64 0) ∧ ∀ rest, boundL N o f n d (pre ++ rest) = (q, 0)) ∧ Below bb W0 W)
    ?own ?ownx ?abide ?abidex ⟨fun _ => rfl, Kept.refl _ _⟩
    (fun x => { tmps := #[.agg #[.int .i64 N, .int .i64 lo, .int .i64 hi], .agg #[.int .i64 o, .int .i64 f], .agg #[.int .i64 n, .int .i64 d], .pointer (some ⟨bb, 0, none⟩), .pointer (some ⟨bb + 1, 0, none⟩), .pointer (some ⟨bb + 1 + 1, 0, none⟩), .pointer (some ⟨bb + 1 + 1 + 1, 0, none⟩), .pointer (some ⟨bb + 1 + 1 + 1 + 1, 0, none⟩), .pointer (some ⟨rb, 0, none⟩), .slice (some ⟨g, 0, none⟩) L.length cap, .int .i64 0, undef, .int .i64 x.2, xs 6, .agg #[.int .i64 N, .int .i64 lo, .int .i64 hi], .agg #[.int .i64 o, .int .i64 f], .agg #[.int .i64 n, .int .i64 d], xs 3, .int .i64 0, xs 5, xs 7, xs 8, .int .i64 0, .int .i64 0, .bool false, undef, .slice (some ⟨g, 0, none⟩) L.length cap, .func (.func 66) #[] #[.pointer (some ⟨B3, 0, none⟩)], .int .i64 x.1, .int .i64 x.2, undef, undef, undef, undef, undef, undef, undef], defers := [] }) ?assign ?body ?done ?stop
  case own =>
    rintro pre A B row ⟨hp, hK⟩ hg' hrow
    exact ⟨hp, hK.onBelow (Below.of_grown hg' hK.size (fun r e => (hrow r e).1)) HMB.out.1⟩
  case ownx =>
    rintro c pre A B row ⟨rfl, ⟨q, hq, hq2, hp⟩, hB⟩ hg' hrow
    have hr' := fun r e => (hrow r e).2
    have hl := HMB.out.2
    exact ⟨rfl, ⟨q, cell_kept hq hg' hr', cell_kept hq2 hg' hr', hp⟩, hB.trans (Below.of_grown hg' (by have := lt_of_cell hq; simp at this; omega) (fun r e => by have := (hrow r e).1; omega))⟩
  case abide =>
    rintro pre A B ⟨hp, hK⟩ hR
    exact ⟨hp, hK.trans (.of_below hR)⟩
  case abidex =>
    rintro c pre A B ⟨rfl, ⟨q, hq, hq2, hp⟩, hB⟩ hR
    exact ⟨rfl, ⟨q, keepsB hR hq, keepsB hR hq2, hp⟩, hB.trans (hR.mono (by have := lt_of_cell hq; simp at this; omega))⟩
  case assign =>
    intro l x W K hK
    gi_wp2
    exact hK
  case body =>
    rintro l pre x W ⟨hp, hK⟩ hpre
    have hx2 : 0 ≤ x.2 ∧ x.2 ≤ N := by
      have hxm := HMEM.out x pre hpre
      rw [← HLE.out] at hxm
      have := ableK_mem N lo o f _ _ hxm
      omega
    obtain ⟨y, hy⟩ : ∃ y, x.2 = y := ⟨_, rfl⟩
    rw [hy] at hx2 ⊢
    obtain ⟨c, p, q, hv, hc0, e1, e2, b1, b2, b3, b4⟩ := mostV_spec N y o f (by omega) (by omega) (by omega) (by omega)
    obtain ⟨r, hr⟩ : ∃ r, boundB N o f n d y = r := ⟨_, rfl⟩
    have HR := Lib.hid hr
    have hr2 : Hid (decide (n * q ≤ p * d) = r) := by
      show _ = _
      rw [← hr, boundB, e1, e2, bound_eq c p q n d hc0]
    have HV := Lib.hid hv
    have m1 := bigI p d 3000000000000 (by omega) (by omega) (by omega)
    have m2 : -3000000000000000 ≤ n * q ∧ n * q ≤ 3000000000000000 := by rw [Int.mul_comm]; exact bigI q n 3000000000000 (by omega) (by omega) (by omega)
    clear hv hr e1 e2
    have HY := Lib.hid (And.intro hy hp)
    clear hy hp
    have HKd : Kept mb w3 W.drew := hK.drew
    have HMd := Lib.hid (HHo.out _ HKd)
    have hzd := FB _ HKd
    have hmx : Tryd.prog.follows .mixedOrders = true := by kernel_rfl
    have HKW := Lib.hid hK
    clear hK
    gi_wp2
    gi_region_with_o (refine ⟨trivial, ?_⟩; (first
      | (gi_at_call 37; refine (CallsIn.inRound l (callsIn_wide.2 (most_any hb N lo hi y o f mb kb cb _ HMd.out (by omega) (by omega) (by omega) (by omega)))).mono ?_; rintro e w5 ⟨rfl, hK5⟩; have HK5 : Kept mb w3 w5 := HKd.trans hK5; have hz5 := FB w5 HK5; rw [HV.out])
      | (gi_at_call 48; refine (CallsIn.inRound l (callsIn_wide.2 (atleast_any p q n d r _ (by omega) (by omega) hr2))).mono ?_; rintro e w6 ⟨rfl, hB6⟩)))
    all_goals (
      have HK6 : Kept mb w3 w6 := HK5.trans (.of_below hB6)
      have hz6 := FB w6 HK6
      have HW6 : Kept mb W w6 := ((Kept.refl mb W).drew.trans hK5).trans (.of_below hB6)
      have hmb3 := HMB.out.1
      have hW3 := HKW.out.size
      have hkf : KeepsFrom w3.heap.size W w6 := ⟨HW6.size, fun k o hB hk _ => (HW6.block k (lt_of_heap hk) (by omega)).trans hk⟩
      have HKF := Lib.hid hkf
      have HBy := Lib.hid (HBE.out w6 HK6)
      clear hkf
      cases r
      · gi_wp2
        exact ⟨HKF.out, KeptB.of_kept HW6 hW3, bound_skip HY.out.2 (by rw [HY.out.1]; exact HR.out), HK6⟩
      · have tb := two_boxes (w := w6) (a := bb + 1 + 1 + 1) (b := bb + 1 + 1 + 1 + 1) (x := .int .i64 0) (y := .int .i64 0) (.int .i64 y) (.int .i64 0) (by simp [hz6]) (by simp [hz6]) (by simp)
        have HTB := Lib.hid tb
        clear tb
        gi_wp2
        exact ⟨HKF.out.trans (((KeepsOthers.setCell _ _ _).trans (KeepsOthers.setCell _ _ _)).from _), rfl, ⟨y, HTB.out.1, HTB.out.2, by have := bound_hit HY.out.2 (x := x) (by rw [HY.out.1]; exact HR.out); rw [HY.out.1] at this; exact this⟩, (HBy.out.setCell (p := ⟨bb + 1 + 1 + 1, 0, none⟩) (by simp; omega) _).setCell (p := ⟨bb + 1 + 1 + 1 + 1, 0, none⟩) (by simp; omega) _⟩)
  case done =>
    rintro D W hD ⟨hp, hK⟩ hKD
    have hz := FB W hK
    have tb := two_boxes (w := W) (a := bb + 1 + 1 + 1) (b := bb + 1 + 1 + 1 + 1) (x := .int .i64 0) (y := .int .i64 0) (.int .i64 0) (.int .i64 6) (by simp [hz]) (by simp [hz]) (by simp)
    have hBB := HBE.out W hK
    have hKD' := (((KeepsOthers.setCell W ⟨bb + 1 + 1 + 1, 0, none⟩ (.int .i64 0)).trans (KeepsOthers.setCell _ ⟨bb + 1 + 1 + 1 + 1, 0, none⟩ (.int .i64 6)))).same D _ hKD rfl
    have hP := hp []
    rw [List.append_nil, HP.out] at hP
    have HBB3 := Lib.hid ((hBB.setCell (p := ⟨bb + 1 + 1 + 1, 0, none⟩) (by simp; omega) (.int .i64 0)).setCell (p := ⟨bb + 1 + 1 + 1 + 1, 0, none⟩) (by simp; omega) (.int .i64 6))
    go_wp2_with fail
    refine ⟨by simp, .inl ⟨_, _, rfl, run_takeDeferred hKD', ?_⟩⟩
    have hc5 := cell_kept tb.1 (grownBy_putObj' _ D (.deferred none)) (fun r e => by cases e; exact ⟨_, hKD', rfl⟩)
    have hc6 := cell_kept tb.2 (grownBy_putObj' _ D (.deferred none)) (fun r e => by cases e; exact ⟨_, hKD', rfl⟩)
    have hl := HMB.out.2
    have hbb := HBB.out
    subst hbb
    refine ⟨.tuple #[.int .i64 0, .int .i64 6], ?_, by rw [hP]; rfl, HB0.out.trans (HBB3.out.trans (Below.putNew _ (by omega)))⟩
    simp [results, Tryd.f18, go_sem, hc5, hc6]
  case stop =>
    rintro D c pre W hD ⟨t, ht⟩ ⟨rfl, ⟨q, hq, hq2, hp⟩, hB⟩ hKD
    have hP := hp t
    rw [ht, HP.out] at hP
    gi_wp2
    refine ⟨by simp, .inl ⟨_, _, rfl, run_takeDeferred hKD, ?_⟩⟩
    have hc5 := cell_kept hq (grownBy_putObj' _ D (.deferred none)) (fun r e => by cases e; exact ⟨_, hKD, rfl⟩)
    have hc6 := cell_kept hq2 (grownBy_putObj' _ D (.deferred none)) (fun r e => by cases e; exact ⟨_, hKD, rfl⟩)
    have hl := HMB.out.2
    have hbb := HBB.out
    subst hbb
    refine ⟨.tuple #[.int .i64 q, .int .i64 0], ?_, by rw [hP], HB0.out.trans (hB.trans (Below.putNew _ (by omega)))⟩
    simp [results, Tryd.f18, go_sem, hc5, hc6]
end Go.Proofs.YtinndhmjojpekaaDoor

/- What Bound returns. -/
namespace Go.Proofs.YtinndhmjojpekaaDoor
set_option linter.unusedSimpArgs false
set_option linter.unusedVariables false
open Go.RowKit

def boundE (N o f n d : Int) : Int := firstE [if drawB N o f then 0 else 11, unlessV ([(n, d)].all fun x => givenB x.1 x.2) 12]
theorem boundE_zero {N o f n d : Int} (h : boundE N o f n d = 0) : drawB N o f = true ∧ givenB n d = true := by
  unfold boundE at h
  have h1 : drawB N o f = true := by
    cases hm : drawB N o f
    · rw [hm] at h; simp [firstE] at h
    · rfl
  refine ⟨h1, ?_⟩
  cases hm : givenB n d
  · rw [h1] at h; simp [firstE, unlessV, hm] at h
  · rfl
/-- What Bound returns. -/
def boundAll (N lo hi o f n d : Int) : Value :=
  if cargoB N lo hi = false then .tuple #[.int .i64 0, .int .i64 10] else if boundE N o f n d ≠ 0 then .tuple #[.int .i64 0, .int .i64 (boundE N o f n d)]
  else if ableL N lo hi o f = [] then .tuple #[.int .i64 0, .int .i64 8] else .tuple #[.int .i64 (boundP N lo hi o f n d).1, .int .i64 (boundP N lo hi o f n d).2]
theorem bound_any (N lo hi o f n d : Int) (w : World) :
    Calls Tryd.prog 18 #[.agg #[.int .i64 N, .int .i64 lo, .int .i64 hi], .agg #[.int .i64 o, .int .i64 f], .agg #[.int .i64 n, .int .i64 d]] w fun e w' => e = .returned (boundAll N lo hi o f n d) ∧ Below w.heap.size w w' := by
  cases hc : cargoB N lo hi
  · rw [boundAll, if_pos hc]
    exact bound_a N lo hi o f n d w hc _ rfl
  · rw [boundAll, if_neg (by simp [hc])]
    by_cases hz : boundE N o f n d = 0
    · have h0 := boundE_zero hz
      have hm : Hid (unlessV ([(n, d)].all fun x => givenB x.1 x.2) 12 = 0) := by show _ = _; simp [unlessV, h0.2]
      rw [if_neg (by simp [hz])]
      by_cases hL : ableL N lo hi o f = []
      · rw [if_pos hL]
        exact bound_c N lo hi o f n d w hc h0.1 hm hL
      · rw [if_neg hL]
        exact bound_d N lo hi o f n d w hc h0.1 hm h0.2 hL
    · rw [if_pos hz]
      exact bound_b N lo hi o f n d w hc _ _ _ rfl rfl rfl (by simpa [boundE] using hz)
end Go.Proofs.YtinndhmjojpekaaDoor

/- A key is deleted from a map. No function of the program here. -/
namespace Go.Proofs.YtinndhmjojpekaaDoor.ML
set_option linter.unusedSimpArgs false
set_option linter.unusedVariables false
open Go.RowKit

variable {κ : Type} {P : Program} {kt : TypeId} {kv : κ → Value} {b : Nat} {l : List (κ × Value)} {w : World} [DecidableEq κ]
def assocDel (x : κ) (l : List (κ × Value)) : List (κ × Value) := match assocI x l 0 with | none => l | some y => l.eraseIdx y.1
theorem map_eraseIdx' {α β : Type} (f : α → β) : ∀ (l : List α) (i : Nat), (l.eraseIdx i).map f = (l.map f).eraseIdx i
  | [], _ => rfl
  | _ :: _, 0 => rfl
  | a :: r, i + 1 => by simp [map_eraseIdx' f r i]
theorem MapIs.delete (K : KeyL P kt kv) {t e ty : TypeId} (ht : P.underlying t = some (.map kt e)) (h : MapIs kv b l w) (x : κ) :
    ∃ w', (Builtin.delete_ #[t, kt] ty #[.map (some b), kv x]).run P w = .ok (.tuple #[]) w' ∧ w.grownBy w' (some b) ∧ MapIs kv b (assocDel x l) w' ∧ w'.heap.size = w.heap.size := by
  obtain ⟨es, c, h1, h2, h3, h4⟩ := h
  have hf := K.find x es.toList l w h2
  have hg := MapKept.run_getObj_map (P := P) h1
  have hlt := (Array.getElem?_eq_some_iff.1 h1).1
  unfold Builtin.delete_ assocDel
  cases ha : assocI x l 0 with
  | none =>
    refine ⟨put w b (.map es c), ?_, put_grown w b _, ⟨_, _, put_same hlt, h2, h3, h4⟩, by simp [put]⟩
    simp [run_underlying ht, hg, K.check, hf, ha, MapKept.run_setObj_map _ h1, put]
  | some y =>
    obtain ⟨j, u⟩ := y
    have hm : (es.eraseIdxIfInBounds j).toList = es.toList.eraseIdx j := by
      unfold Array.eraseIdxIfInBounds
      split
      · simp
      · rw [List.eraseIdx_of_length_le (by simpa using by omega)]
    refine ⟨put w b (.map (es.eraseIdxIfInBounds j) c), ?_, put_grown w b _, ⟨_, _, put_same hlt, ?_, ?_, ?_⟩, by simp [put]⟩
    · simp [run_underlying ht, hg, K.check, hf, ha, MapKept.run_setObj_map _ h1, put]
    · rw [hm, map_eraseIdx', map_eraseIdx', h2]
    · rw [hm, map_eraseIdx']
      exact h3.sublist (List.eraseIdx_sublist _ _)
    · rw [hm]
      exact fun e he => h4 e ((List.eraseIdx_sublist _ _).subset he)
end Go.Proofs.YtinndhmjojpekaaDoor.ML

/- What is found behind a deletion; keys without doubles. -/
namespace Go.Proofs.YtinndhmjojpekaaDoor.ML
set_option linter.unusedSimpArgs false
set_option linter.unusedVariables false
variable {κ : Type} [DecidableEq κ]

def delR (x : κ) : List (κ × Value) → List (κ × Value)
  | [] => []
  | y :: r => if x = y.1 then r else y :: delR x r
theorem delR_from (x : κ) : ∀ (l : List (κ × Value)) (i : Nat), (match assocI x l i with | none => l | some y => l.eraseIdx (y.1 - i)) = delR x l
  | [], i => rfl
  | y :: r, i => by
    by_cases h : x = y.1
    · simp [assocI, delR, h]
    · have ih := delR_from x r (i + 1)
      simp only [assocI, delR, if_neg h]
      cases ha : assocI x r (i + 1) with
      | none => rw [ha] at ih; simp only at ih ⊢; rw [← ih]
      | some z =>
        obtain ⟨j, v⟩ := z
        rw [ha] at ih
        have hj := (assocI_spec x r (i + 1) j v ha).1
        simp only at ih ⊢
        rw [← ih, show j - i = (j - (i + 1)) + 1 by omega]
        rfl
theorem assocDel_eq (x : κ) (l : List (κ × Value)) : assocDel x l = delR x l := by
  have := delR_from x l 0
  unfold assocDel
  cases ha : assocI x l 0 with
  | none => rw [ha] at this; exact this
  | some y => rw [ha] at this; simpa using this
theorem assoc_none {x : κ} : ∀ {l : List (κ × Value)}, x ∉ l.map (·.1) → assoc x l = none
  | [], _ => rfl
  | y :: r, h => by
    simp only [List.map_cons, List.mem_cons, not_or] at h
    rw [assoc, if_neg h.1]
    exact assoc_none h.2
theorem assoc_del_other (x z : κ) (hz : z ≠ x) : ∀ l : List (κ × Value), assoc z (delR x l) = assoc z l
  | [] => rfl
  | y :: r => by
    by_cases h : x = y.1
    · simp [delR, assoc, h, show z ≠ y.1 from fun e => hz (e.trans h.symm)]
    · by_cases h2 : z = y.1
      · simp [delR, assoc, h, h2]
      · simp [delR, assoc, h, h2, assoc_del_other x z hz r]
theorem assoc_del_same (x : κ) : ∀ l : List (κ × Value), (l.map (·.1)).Nodup → assoc x (delR x l) = none
  | [], _ => rfl
  | y :: r, h => by
    simp only [List.map_cons, List.nodup_cons] at h
    by_cases e : x = y.1
    · simp only [delR, if_pos e]
      exact assoc_none (by rw [e]; exact h.1)
    · simp [delR, assoc, e, assoc_del_same x r h.2]
theorem delR_keys (x : κ) : ∀ l : List (κ × Value), ((delR x l).map (·.1)).Sublist (l.map (·.1))
  | [] => List.Sublist.refl _
  | y :: r => by
    by_cases e : x = y.1
    · simp only [delR, if_pos e, List.map_cons]; exact List.sublist_cons_self _ _
    · simp only [delR, if_neg e, List.map_cons]; exact (delR_keys x r).cons_cons _
theorem delR_nodup (x : κ) {l : List (κ × Value)} (h : (l.map (·.1)).Nodup) : ((delR x l).map (·.1)).Nodup := h.sublist (delR_keys x l)
end Go.Proofs.YtinndhmjojpekaaDoor.ML

/- The likeliest numbers of dirty bags: Likely. -/
namespace Go.Proofs.YtinndhmjojpekaaDoor
set_option linter.unusedSimpArgs false
set_option linter.unusedVariables false
open Go.RowKit Go.Proofs.YtinndhmjojpekaaDoor.ML Go.Proofs.YtinndhmjojpekaaDoor.Samp

open Go.Shelf Go.Sort
/-- The numbers that can be with the most ways. -/
def likeL (N lo hi o f : Int) : List Int := (ableL N lo hi o f).filter fun x => decide (∀ y ∈ ableL N lo hi o f, waysI N y o f ≤ waysI N x o f)
/-- The error of Likely. -/
def likeE (N lo hi o f : Int) : Int := if cargoB N lo hi = false then 10 else if drawB N o f = false then 11 else if ableL N lo hi o f = [] then 8 else 0
/-- The list that Likely tells. -/
def likeA (N lo hi o f : Int) : List Int := if likeE N lo hi o f = 0 then likeL N lo hi o f else []
theorem most_of : ∀ (L : List Int) (W : Int → Int), L ≠ [] → ∃ m ∈ L, ∀ y ∈ L, W y ≤ W m
  | [], _, h => absurd rfl h
  | [a], W, _ => ⟨a, by simp, by simp⟩
  | a :: b :: r, W, _ => by
    obtain ⟨m, hm, hall⟩ := most_of (b :: r) W (by simp)
    by_cases h : W a ≤ W m
    · exact ⟨m, List.mem_cons_of_mem _ hm, fun y hy => by
        rcases List.mem_cons.1 hy with rfl | hy
        · exact h
        · exact hall y hy⟩
    · exact ⟨a, by simp, fun y hy => by
        rcases List.mem_cons.1 hy with rfl | hy
        · exact Int.le_refl _
        · have := hall y hy; omega⟩
theorem assocSet_nodup (x : Int) (v : Value) : ∀ l : List (Int × Value), (l.map (·.1)).Nodup → ((assocSet x v l).map (·.1)).Nodup
  | [], _ => by simp [assocSet]
  | y :: r, h => by
    simp only [List.map_cons, List.nodup_cons] at h
    by_cases e : x = y.1
    · simp only [assocSet, if_pos e, List.map_cons, List.nodup_cons]
      exact ⟨by rw [e]; exact h.1, h.2⟩
    · simp only [assocSet, if_neg e, List.map_cons, List.nodup_cons]
      refine ⟨fun hm => ?_, assocSet_nodup x v r h.2⟩
      obtain ⟨z, hz, hz1⟩ := List.mem_map.1 hm
      rcases mem_assocSet hz with rfl | hz
      · exact e hz1
      · exact h.1 (List.mem_map.2 ⟨z, hz, hz1⟩)
theorem KeptX.grown {mb u : Nat} {rs : List Nat} {w w' : World} (h : w.grownBy w' (some u)) (hu : u ∈ rs) (hne : u ≠ mb) : KeptX mb rs w w' :=
  ⟨h.os, h.tape, h.output, h.size, fun k hk _ hn => h.block k hk (fun e => hn (by cases e; exact hu)), fun ⟨l, hl, hv⟩ => ⟨l, hl.kept h (fun e => hne (by cases e; rfl)), hv⟩⟩
/-- A row of numbers that can be grown. -/
theorem row_own {base : Nat} {e : TypeId} {v : Value} {L : List Int} {w : World} (h : w.ownsRow base e 1 v L.length (L.map (Value.int .i64))) (hne : L ≠ []) :
    ∃ g cap cur, v = .slice (some ⟨g, 0, none⟩) L.length cap ∧ base ≤ g ∧ w.heap[g]? = some (.cells cur e (0, 0)) ∧ L.length ≤ cap ∧ ∀ j, j < L.length → cur[j]? = some (.int .i64 (L.getD j 0)) := by
  rcases h.2 with ⟨rfl, h0⟩ | ⟨g, cap, cur, rfl, hb, hg, h1, h2, h3, h4⟩
  · exact absurd (List.eq_nil_of_length_eq_zero h0) hne
  · refine ⟨g, cap, cur, rfl, hb, hg, h1, fun j hj => ?_⟩
    have e1 : (cur.toList.take (L.length * 1))[j]? = (L.map (Value.int .i64))[j]? := by rw [h4]
    rw [List.getElem?_take, if_pos (by omega)] at e1
    simpa [hj] using e1
theorem take_mem (L : List Int) (k : Nat) (h : k < L.length) (x : Int) : x ∈ L.take (k + 1) ↔ x ∈ L.take k ∨ x = L.getD k 0 := by
  rw [List.take_succ_eq_append_getElem h, List.mem_append, List.mem_singleton, List.getD_eq_getElem?_getD, List.getElem?_eq_getElem h]
  rfl

set_option maxRecDepth 100000 in
set_option maxHeartbeats 4000000 in
theorem likely_a (N lo hi o f : Int) (w : World) (hc : cargoB N lo hi = false) :
    Calls Tryd.prog 17 #[.agg #[.int .i64 N, .int .i64 lo, .int .i64 hi], .agg #[.int .i64 o, .int .i64 f]] w fun e w' => e = .returned (.tuple #[.slice none 0 0, .int .i64 10]) ∧ Below w.heap.size w w' := by
  have hB0 : Below w.heap.size w ((w.alloc (.cells #[.int .i64 N, .int .i64 lo, .int .i64 hi] 25)).alloc (.cells #[.int .i64 o, .int .i64 f] 49)) := ((Below.refl _ w).alloc (Nat.le_refl _) _).alloc (by simp) _
  have c0_0 : ((w.alloc (.cells #[.int .i64 N, .int .i64 lo, .int .i64 hi] 25)).alloc (.cells #[.int .i64 o, .int .i64 f] 49)).cell? ⟨w.heap.size, 0, none⟩ = some (.int .i64 N) := by simp [go_sem]
  have c0_1 : ((w.alloc (.cells #[.int .i64 N, .int .i64 lo, .int .i64 hi] 25)).alloc (.cells #[.int .i64 o, .int .i64 f] 49)).cell? ⟨w.heap.size, 1, none⟩ = some (.int .i64 lo) := by simp [go_sem]
  have c0_2 : ((w.alloc (.cells #[.int .i64 N, .int .i64 lo, .int .i64 hi] 25)).alloc (.cells #[.int .i64 o, .int .i64 f] 49)).cell? ⟨w.heap.size, 2, none⟩ = some (.int .i64 hi) := by simp [go_sem]
  have c1_0 : ((w.alloc (.cells #[.int .i64 N, .int .i64 lo, .int .i64 hi] 25)).alloc (.cells #[.int .i64 o, .int .i64 f] 49)).cell? ⟨w.heap.size + 1, 0, none⟩ = some (.int .i64 o) := by simp [go_sem]
  have c1_1 : ((w.alloc (.cells #[.int .i64 N, .int .i64 lo, .int .i64 hi] 25)).alloc (.cells #[.int .i64 o, .int .i64 f] 49)).cell? ⟨w.heap.size + 1, 1, none⟩ = some (.int .i64 f) := by simp [go_sem]
  go_enter Tryd.func17, Tryd.ntmps17
  go_wp2_with fail
  refine (known_a N lo hi o f 0 _ hc).mono ?_
  rintro e w1 ⟨rfl, hB1⟩
  have K_w1 : Free.Bel ((w.alloc (.cells #[.int .i64 N, .int .i64 lo, .int .i64 hi] 25)).alloc (.cells #[.int .i64 o, .int .i64 f] 49)) w1 := by
    refine Free.Bel.trans _ _ _ ?_ hB1
    repeat (first | exact Free.Bel.refl _ | refine Bel.allocT ?_ _ | refine Bel.drewT ?_)
  clear hB1
  have hq : w.heap.size + 2 = ((w.alloc (.cells #[.int .i64 N, .int .i64 lo, .int .i64 hi] 25)).alloc (.cells #[.int .i64 o, .int .i64 f] 49)).heap.size := by simp
  generalize ((w.alloc (.cells #[.int .i64 N, .int .i64 lo, .int .i64 hi] 25)).alloc (.cells #[.int .i64 o, .int .i64 f] 49)) = W0 at *
  generalize hbb : w.heap.size = bb at *
  have HBB := Lib.hid hbb
  clear hbb
  have HB0 := Lib.hid hB0
  have hq0 : bb + 2 ≤ W0.heap.size := by omega
  clear hB0 hq
  have FA : ∀ W, Free.Bel W0 W → W.cell? ⟨bb, 0, none⟩ = some (.int .i64 N) ∧ W.cell? ⟨bb, 1, none⟩ = some (.int .i64 lo) ∧ W.cell? ⟨bb, 2, none⟩ = some (.int .i64 hi) ∧ W.cell? ⟨bb + 1, 0, none⟩ = some (.int .i64 o) ∧ W.cell? ⟨bb + 1, 1, none⟩ = some (.int .i64 f) ∧ bb + 2 ≤ W.heap.size := fun W hW => ⟨keepsB hW c0_0, keepsB hW c0_1, keepsB hW c0_2, keepsB hW c1_0, keepsB hW c1_1, Nat.le_trans hq0 hW.size⟩
  clear c0_0 c0_1 c0_2 c1_0 c1_1
  go_wp2_with fail
  go_ret2
  have hbb := HBB.out
  subst hbb
  exact ⟨rfl, HB0.out.trans ((Bel.allocT K_w1 _).mono (by omega))⟩

set_option maxRecDepth 100000 in
set_option maxHeartbeats 4000000 in
theorem likely_b (N lo hi o f : Int) (w : World) (hc : cargoB N lo hi = true) (hd : drawB N o f = false) :
    Calls Tryd.prog 17 #[.agg #[.int .i64 N, .int .i64 lo, .int .i64 hi], .agg #[.int .i64 o, .int .i64 f]] w fun e w' => e = .returned (.tuple #[.slice none 0 0, .int .i64 11]) ∧ Below w.heap.size w w' := by
  have hB0 : Below w.heap.size w ((w.alloc (.cells #[.int .i64 N, .int .i64 lo, .int .i64 hi] 25)).alloc (.cells #[.int .i64 o, .int .i64 f] 49)) := ((Below.refl _ w).alloc (Nat.le_refl _) _).alloc (by simp) _
  have c0_0 : ((w.alloc (.cells #[.int .i64 N, .int .i64 lo, .int .i64 hi] 25)).alloc (.cells #[.int .i64 o, .int .i64 f] 49)).cell? ⟨w.heap.size, 0, none⟩ = some (.int .i64 N) := by simp [go_sem]
  have c0_1 : ((w.alloc (.cells #[.int .i64 N, .int .i64 lo, .int .i64 hi] 25)).alloc (.cells #[.int .i64 o, .int .i64 f] 49)).cell? ⟨w.heap.size, 1, none⟩ = some (.int .i64 lo) := by simp [go_sem]
  have c0_2 : ((w.alloc (.cells #[.int .i64 N, .int .i64 lo, .int .i64 hi] 25)).alloc (.cells #[.int .i64 o, .int .i64 f] 49)).cell? ⟨w.heap.size, 2, none⟩ = some (.int .i64 hi) := by simp [go_sem]
  have c1_0 : ((w.alloc (.cells #[.int .i64 N, .int .i64 lo, .int .i64 hi] 25)).alloc (.cells #[.int .i64 o, .int .i64 f] 49)).cell? ⟨w.heap.size + 1, 0, none⟩ = some (.int .i64 o) := by simp [go_sem]
  have c1_1 : ((w.alloc (.cells #[.int .i64 N, .int .i64 lo, .int .i64 hi] 25)).alloc (.cells #[.int .i64 o, .int .i64 f] 49)).cell? ⟨w.heap.size + 1, 1, none⟩ = some (.int .i64 f) := by simp [go_sem]
  go_enter Tryd.func17, Tryd.ntmps17
  go_wp2_with fail
  refine (known_b N lo hi o f 0 _ hc 11 11 (by simp [Hid, hd]) (by simp [Hid, firstE]) rfl).mono ?_
  rintro e w1 ⟨rfl, hB1⟩
  have K_w1 : Free.Bel ((w.alloc (.cells #[.int .i64 N, .int .i64 lo, .int .i64 hi] 25)).alloc (.cells #[.int .i64 o, .int .i64 f] 49)) w1 := by
    refine Free.Bel.trans _ _ _ ?_ hB1
    repeat (first | exact Free.Bel.refl _ | refine Bel.allocT ?_ _ | refine Bel.drewT ?_)
  clear hB1
  have hq : w.heap.size + 2 = ((w.alloc (.cells #[.int .i64 N, .int .i64 lo, .int .i64 hi] 25)).alloc (.cells #[.int .i64 o, .int .i64 f] 49)).heap.size := by simp
  generalize ((w.alloc (.cells #[.int .i64 N, .int .i64 lo, .int .i64 hi] 25)).alloc (.cells #[.int .i64 o, .int .i64 f] 49)) = W0 at *
  generalize hbb : w.heap.size = bb at *
  have HBB := Lib.hid hbb
  clear hbb
  have HB0 := Lib.hid hB0
  have hq0 : bb + 2 ≤ W0.heap.size := by omega
  clear hB0 hq
  have FA : ∀ W, Free.Bel W0 W → W.cell? ⟨bb, 0, none⟩ = some (.int .i64 N) ∧ W.cell? ⟨bb, 1, none⟩ = some (.int .i64 lo) ∧ W.cell? ⟨bb, 2, none⟩ = some (.int .i64 hi) ∧ W.cell? ⟨bb + 1, 0, none⟩ = some (.int .i64 o) ∧ W.cell? ⟨bb + 1, 1, none⟩ = some (.int .i64 f) ∧ bb + 2 ≤ W.heap.size := fun W hW => ⟨keepsB hW c0_0, keepsB hW c0_1, keepsB hW c0_2, keepsB hW c1_0, keepsB hW c1_1, Nat.le_trans hq0 hW.size⟩
  clear c0_0 c0_1 c0_2 c1_0 c1_1
  go_wp2_with fail
  go_ret2
  have hbb := HBB.out
  subst hbb
  exact ⟨rfl, HB0.out.trans ((Bel.allocT K_w1 _).mono (by omega))⟩

set_option maxRecDepth 100000 in
set_option maxHeartbeats 4000000 in
theorem likely_c (N lo hi o f : Int) (w : World) (hc : cargoB N lo hi = true) (hd : drawB N o f = true) (hL : ableL N lo hi o f = []) :
    Calls Tryd.prog 17 #[.agg #[.int .i64 N, .int .i64 lo, .int .i64 hi], .agg #[.int .i64 o, .int .i64 f]] w fun e w' => e = .returned (.tuple #[.slice none 0 0, .int .i64 8]) ∧ Below w.heap.size w w' := by
  have HE := Lib.hid (show unlessV (decide (0 < ((ableL N lo hi o f).length : Int))) 8 = 8 by rw [hL]; rfl)
  have HN := Lib.hid hL
  clear hL
  have hB0 : Below w.heap.size w ((w.alloc (.cells #[.int .i64 N, .int .i64 lo, .int .i64 hi] 25)).alloc (.cells #[.int .i64 o, .int .i64 f] 49)) := ((Below.refl _ w).alloc (Nat.le_refl _) _).alloc (by simp) _
  have c0_0 : ((w.alloc (.cells #[.int .i64 N, .int .i64 lo, .int .i64 hi] 25)).alloc (.cells #[.int .i64 o, .int .i64 f] 49)).cell? ⟨w.heap.size, 0, none⟩ = some (.int .i64 N) := by simp [go_sem]
  have c0_1 : ((w.alloc (.cells #[.int .i64 N, .int .i64 lo, .int .i64 hi] 25)).alloc (.cells #[.int .i64 o, .int .i64 f] 49)).cell? ⟨w.heap.size, 1, none⟩ = some (.int .i64 lo) := by simp [go_sem]
  have c0_2 : ((w.alloc (.cells #[.int .i64 N, .int .i64 lo, .int .i64 hi] 25)).alloc (.cells #[.int .i64 o, .int .i64 f] 49)).cell? ⟨w.heap.size, 2, none⟩ = some (.int .i64 hi) := by simp [go_sem]
  have c1_0 : ((w.alloc (.cells #[.int .i64 N, .int .i64 lo, .int .i64 hi] 25)).alloc (.cells #[.int .i64 o, .int .i64 f] 49)).cell? ⟨w.heap.size + 1, 0, none⟩ = some (.int .i64 o) := by simp [go_sem]
  have c1_1 : ((w.alloc (.cells #[.int .i64 N, .int .i64 lo, .int .i64 hi] 25)).alloc (.cells #[.int .i64 o, .int .i64 f] 49)).cell? ⟨w.heap.size + 1, 1, none⟩ = some (.int .i64 f) := by simp [go_sem]
  go_enter Tryd.func17, Tryd.ntmps17
  go_wp2_with fail
  refine (known_c N lo hi o f 0 _ hc hd rfl).mono ?_
  rintro e w1 ⟨hb, mb, kb, cb, base, v, rfl, hH, hrow, h1, h2, h3, h4, h5, hB1⟩
  rw [HE.out]
  have K_w1 : Free.Bel ((w.alloc (.cells #[.int .i64 N, .int .i64 lo, .int .i64 hi] 25)).alloc (.cells #[.int .i64 o, .int .i64 f] 49)) w1 := by
    refine Free.Bel.trans _ _ _ ?_ hB1
    repeat (first | exact Free.Bel.refl _ | refine Bel.allocT ?_ _ | refine Bel.drewT ?_)
  clear hB1 hH hrow h1 h2 h3 h4 h5
  have hq : w.heap.size + 2 = ((w.alloc (.cells #[.int .i64 N, .int .i64 lo, .int .i64 hi] 25)).alloc (.cells #[.int .i64 o, .int .i64 f] 49)).heap.size := by simp
  generalize ((w.alloc (.cells #[.int .i64 N, .int .i64 lo, .int .i64 hi] 25)).alloc (.cells #[.int .i64 o, .int .i64 f] 49)) = W0 at *
  generalize hbb : w.heap.size = bb at *
  have HBB := Lib.hid hbb
  clear hbb
  have HB0 := Lib.hid hB0
  have hq0 : bb + 2 ≤ W0.heap.size := by omega
  clear hB0 hq
  have FA : ∀ W, Free.Bel W0 W → W.cell? ⟨bb, 0, none⟩ = some (.int .i64 N) ∧ W.cell? ⟨bb, 1, none⟩ = some (.int .i64 lo) ∧ W.cell? ⟨bb, 2, none⟩ = some (.int .i64 hi) ∧ W.cell? ⟨bb + 1, 0, none⟩ = some (.int .i64 o) ∧ W.cell? ⟨bb + 1, 1, none⟩ = some (.int .i64 f) ∧ bb + 2 ≤ W.heap.size := fun W hW => ⟨keepsB hW c0_0, keepsB hW c0_1, keepsB hW c0_2, keepsB hW c1_0, keepsB hW c1_1, Nat.le_trans hq0 hW.size⟩
  clear c0_0 c0_1 c0_2 c1_0 c1_1
  go_wp2_with fail
  go_ret2
  have hbb := HBB.out
  subst hbb
  exact ⟨rfl, HB0.out.trans ((Bel.allocT K_w1 _).mono (by omega))⟩

set_option maxRecDepth 100000 in
set_option maxHeartbeats 4000000 in
theorem likely_d (N lo hi o f : Int) (w : World) (hc : cargoB N lo hi = true) (hd : drawB N o f = true) (hL : ableL N lo hi o f ≠ []) :
    Calls Tryd.prog 17 #[.agg #[.int .i64 N, .int .i64 lo, .int .i64 hi], .agg #[.int .i64 o, .int .i64 f]] w fun e w' => (∃ v, e = .returned (.tuple #[v, .int .i64 0]) ∧ IL (likeL N lo hi o f) v w') ∧ Below w.heap.size w w' := by
  have hpos : 0 < (ableL N lo hi o f).length := List.length_pos_iff.2 hL
  have HE := Lib.hid (show unlessV (decide (0 < ((ableL N lo hi o f).length : Int))) 8 = 0 by rw [decide_eq_true (by omega)]; rfl)
  have hN0 := (cargoB_iff N lo hi).1 hc
  have hD0 := (drawB_iff N o f).1 hd
  have hL37 : (ableL N lo hi o f).length ≤ 37 := by have := ableK_length N lo o f (hi - lo + 1).toNat; unfold ableL; omega
  have HMEM := Lib.hid (fun (x : Int) (hx : x ∈ ableL N lo hi o f) => (by have := ableK_mem N lo o f _ _ hx; omega : 0 ≤ x ∧ x ≤ N))
  have hMX : ∃ M, ∀ m ∈ ableL N lo hi o f, (∀ y ∈ ableL N lo hi o f, waysI N y o f ≤ waysI N m o f) → waysI N m o f = M := by
    obtain ⟨m, hm, hall⟩ := most_of (ableL N lo hi o f) (fun x => waysI N x o f) hL
    exact ⟨waysI N m o f, fun m' hm' hall' => Int.le_antisymm (hall m' hm') (hall' m hm)⟩
  have hME : ∃ m ∈ ableL N lo hi o f, ∀ y ∈ ableL N lo hi o f, waysI N y o f ≤ waysI N m o f := most_of (ableL N lo hi o f) (fun x => waysI N x o f) hL
  obtain ⟨M, hM⟩ := hMX
  have HMX := Lib.hid hM
  have HME := Lib.hid hME
  have HL := Lib.hid hL
  clear hL hM hME
  have hB0 : Below w.heap.size w ((w.alloc (.cells #[.int .i64 N, .int .i64 lo, .int .i64 hi] 25)).alloc (.cells #[.int .i64 o, .int .i64 f] 49)) := ((Below.refl _ w).alloc (Nat.le_refl _) _).alloc (by simp) _
  have c0_0 : ((w.alloc (.cells #[.int .i64 N, .int .i64 lo, .int .i64 hi] 25)).alloc (.cells #[.int .i64 o, .int .i64 f] 49)).cell? ⟨w.heap.size, 0, none⟩ = some (.int .i64 N) := by simp [go_sem]
  have c0_1 : ((w.alloc (.cells #[.int .i64 N, .int .i64 lo, .int .i64 hi] 25)).alloc (.cells #[.int .i64 o, .int .i64 f] 49)).cell? ⟨w.heap.size, 1, none⟩ = some (.int .i64 lo) := by simp [go_sem]
  have c0_2 : ((w.alloc (.cells #[.int .i64 N, .int .i64 lo, .int .i64 hi] 25)).alloc (.cells #[.int .i64 o, .int .i64 f] 49)).cell? ⟨w.heap.size, 2, none⟩ = some (.int .i64 hi) := by simp [go_sem]
  have c1_0 : ((w.alloc (.cells #[.int .i64 N, .int .i64 lo, .int .i64 hi] 25)).alloc (.cells #[.int .i64 o, .int .i64 f] 49)).cell? ⟨w.heap.size + 1, 0, none⟩ = some (.int .i64 o) := by simp [go_sem]
  have c1_1 : ((w.alloc (.cells #[.int .i64 N, .int .i64 lo, .int .i64 hi] 25)).alloc (.cells #[.int .i64 o, .int .i64 f] 49)).cell? ⟨w.heap.size + 1, 1, none⟩ = some (.int .i64 f) := by simp [go_sem]
  go_enter Tryd.func17, Tryd.ntmps17
  go_wp2_with fail
  refine (known_c N lo hi o f 0 _ hc hd rfl).mono ?_
  rintro e w1 ⟨hb, mb, kb, cb, base, v, rfl, hH, hrow, h1, h2, h3, h4, h5, hB1⟩
  rw [HE.out]
  obtain ⟨g, cap, cur, rfl, hbg, hcur, hcap, hcells⟩ := row_own hrow HL.out
  have K_w1 : Free.Bel ((w.alloc (.cells #[.int .i64 N, .int .i64 lo, .int .i64 hi] 25)).alloc (.cells #[.int .i64 o, .int .i64 f] 49)) w1 := by
    refine Free.Bel.trans _ _ _ ?_ hB1
    repeat (first | exact Free.Bel.refl _ | refine Bel.allocT ?_ _ | refine Bel.drewT ?_)
  clear hB1 hrow
  have hmW : ((w.alloc (.cells #[.int .i64 N, .int .i64 lo, .int .i64 hi] 25)).alloc (.cells #[.int .i64 o, .int .i64 f] 49)).heap.size ≤ mb := by simp; simp at h1; omega
  have hq : w.heap.size + 2 = ((w.alloc (.cells #[.int .i64 N, .int .i64 lo, .int .i64 hi] 25)).alloc (.cells #[.int .i64 o, .int .i64 f] 49)).heap.size := by simp
  generalize ((w.alloc (.cells #[.int .i64 N, .int .i64 lo, .int .i64 hi] 25)).alloc (.cells #[.int .i64 o, .int .i64 f] 49)) = W0 at *
  generalize hbb : w.heap.size = bb at *
  have HBB := Lib.hid hbb
  clear hbb
  have HB0 := Lib.hid hB0
  have hq0 : bb + 2 ≤ W0.heap.size := by omega
  clear hB0 hq
  have FA : ∀ W, Free.Bel W0 W → W.cell? ⟨bb, 0, none⟩ = some (.int .i64 N) ∧ W.cell? ⟨bb, 1, none⟩ = some (.int .i64 lo) ∧ W.cell? ⟨bb, 2, none⟩ = some (.int .i64 hi) ∧ W.cell? ⟨bb + 1, 0, none⟩ = some (.int .i64 o) ∧ W.cell? ⟨bb + 1, 1, none⟩ = some (.int .i64 f) ∧ bb + 2 ≤ W.heap.size := fun W hW => ⟨keepsB hW c0_0, keepsB hW c0_1, keepsB hW c0_2, keepsB hW c1_0, keepsB hW c1_1, Nat.le_trans hq0 hW.size⟩
  clear c0_0 c0_1 c0_2 c1_0 c1_1
  obtain ⟨L, hLe⟩ : ∃ L, ableL N lo hi o f = L := ⟨_, rfl⟩
  have HLL := Lib.hid (show likeL N lo hi o f = L.filter (fun x => decide (∀ y ∈ L, waysI N y o f ≤ waysI N x o f)) by rw [likeL, hLe])
  rw [hLe] at hpos hL37 hcells hcap HMEM HMX HME HL ⊢
  clear hLe HE
  have hN : 0 ≤ N ∧ N ≤ 36 := by omega
  have hD1 : 0 ≤ o ∧ o ≤ N := by omega
  have hD2 : 0 ≤ f ∧ f ≤ o := by omega
  have hz1 := FA w1 K_w1
  have hgs : g < w1.heap.size := lt_of_heap hcur
  have hhs : hb < w1.heap.size := lt_of_cell hH.bags
  have hms : mb < w1.heap.size := by obtain ⟨l, hl, _⟩ := hH.ctr.memo; exact hl.lt
  have K_a : Free.Bel w1 (w1.alloc (.cells #[.pointer (some ⟨hb, 0, none⟩)] 67)) := belAlloc _ _
  have hrb : (w1.alloc (.cells #[.pointer (some ⟨hb, 0, none⟩)] 67)).cell? ⟨w1.heap.size, 0, none⟩ = some (.pointer (some ⟨hb, 0, none⟩)) := by simp [go_sem]
  have hsz : (w1.alloc (.cells #[.pointer (some ⟨hb, 0, none⟩)] 67)).heap.size = w1.heap.size + 1 := by simp
  go_wp2_with fail
  have hHa := hH.kept (.of_below K_a)
  have hca := heap_bel hcur K_a
  have b0 : (w1.alloc (.cells #[.pointer (some ⟨hb, 0, none⟩)] 67)).cell? ⟨bb + 1, 0, none⟩ = some (.int .i64 o) := keepsB K_a hz1.2.2.2.1
  have b1 : (w1.alloc (.cells #[.pointer (some ⟨hb, 0, none⟩)] 67)).cell? ⟨bb + 1, 1, none⟩ = some (.int .i64 f) := keepsB K_a hz1.2.2.2.2.1
  have hbz : bb + 2 ≤ w1.heap.size := hz1.2.2.2.2.2
  have KW : Free.Bel W0 (w1.alloc (.cells #[.pointer (some ⟨hb, 0, none⟩)] 67)) := Bel.allocT K_w1 _
  generalize hwa : w1.alloc (.cells #[.pointer (some ⟨hb, 0, none⟩)] 67) = wa at *
  generalize hrbe : w1.heap.size = rb at *
  clear hwa hrbe hH K_a hz1 K_w1 FA
  have hcl : ∀ W, Kept mb wa W → ∀ j, j < L.length → W.cell? ⟨g, 0 + j, none⟩ = some (.int .i64 (L.getD j 0)) := fun W hW j hj => cell_of_heap (o := 0 + j) ((hW.block g (by omega) (by omega)).trans hca) (by rw [Nat.zero_add]; exact hcells j hj)
  have HHo := Lib.hid (fun (W : World) (hW : Kept mb wa W) => hHa.kept hW)
  have FB : ∀ W, Kept mb wa W → W.cell? ⟨rb, 0, none⟩ = some (.pointer (some ⟨hb, 0, none⟩)) ∧ W.cell? ⟨bb + 1, 0, none⟩ = some (.int .i64 o) ∧ W.cell? ⟨bb + 1, 1, none⟩ = some (.int .i64 f) ∧ ∀ j, j < L.length → W.cell? ⟨g, 0 + j, none⟩ = some (.int .i64 (L.getD j 0)) := fun W hW => ⟨hW.cell hrb (by show rb ≠ mb; omega), hW.cell b0 (by show bb + 1 ≠ mb; omega), hW.cell b1 (by show bb + 1 ≠ mb; omega), hcl W hW⟩
  have HCUR := Lib.hid (fun (W : World) (hW : Kept mb wa W) => (hW.block g (by omega) (by omega)).trans hca)
  have HCELL := Lib.hid hcells
  have HCAP := Lib.hid hcap
  have HKW := Lib.hid KW
  have hszs : wa.heap.size = rb + 1 := hsz
  clear hcl hHa hrb b0 b1 hca hcells hcap KW hcur hc hd
  have hF : ∀ W, Kept mb wa.drew W → Kept mb wa W := fun W hW => ((Kept.refl mb wa).drew).trans hW
  refine Free.wp_free (R := Kept mb) (by kernel_rfl) (by kernel_rfl) (Kept.refl mb) (fun _ _ _ => Kept.trans) ?_
  refine Free.Chain.ex ?_ [] [6] (by kernel_rfl) (by kernel_rfl) rfl (Kept.refl mb) ?_ ?_
  rotate_left
  · (intro ev W hb hR hO hD; have hS := hF W hR; obtain ⟨hb1, hb2, hb3⟩ := hb; simp only [Free.AllDeps, Free.AllOuts, Free.At, List.getElem?_cons_succ, List.getElem?_cons_zero, Array.getD_eq_getD_getElem?, List.getElem?_toArray, Option.getD_some, and_true] at hO hD; go_simp; rfl)
  simp only [List.nil_append, List.cons_append]
  refine Free.Chain.ex ?_ [] [7] (by kernel_rfl) (by kernel_rfl) rfl (Kept.refl mb) ?_ ?_
  rotate_left
  · (intro ev W hb hR hO hD; have hS := hF W hR; obtain ⟨hb1, hb2, hb3⟩ := hb; simp only [Free.AllDeps, Free.AllOuts, Free.At, List.getElem?_cons_succ, List.getElem?_cons_zero, Array.getD_eq_getD_getElem?, List.getElem?_toArray, Option.getD_some, and_true] at hO hD; go_simp; rfl)
  simp only [List.nil_append, List.cons_append]
  refine Free.Chain.ex ?_ [] [6, 3] (by kernel_rfl) (by kernel_rfl) rfl (Kept.refl mb) ?_ ?_
  rotate_left
  · (intro ev W hb hR hO hD; have hS := hF W hR; obtain ⟨hb1, hb2, hb3⟩ := hb; simp only [Free.AllDeps, Free.AllOuts, Free.At, List.getElem?_cons_succ, List.getElem?_cons_zero, Array.getD_eq_getD_getElem?, List.getElem?_toArray, Option.getD_some, and_true] at hO hD; go_simp; rfl)
  simp only [List.nil_append, List.cons_append]
  refine Free.Chain.pr (fun v _ => ∃ m, v = .int .i64 m ∧ m ∈ L ∧ ∀ y ∈ L, waysI N y o f ≤ waysI N m o f) [(1, 26), (2, 27)] [] (by kernel_rfl) (by kernel_rfl) rfl (fun _ _ _ _ h => h) ?_ ?_
  · (intro ev W hb hR hO hD; have hS := hF W hR; obtain ⟨hb1, hb2, hb3⟩ := hb; simp only [Free.AllDeps, Free.AllOuts, Free.At, List.getElem?_cons_succ, List.getElem?_cons_zero, Array.getD_eq_getD_getElem?, List.getElem?_toArray, Option.getD_some, and_true] at hO hD; go_simp; refine yields_enter ?_; (with_reducible refine (maxfunc_any rb (bb + 1) hb mb kb cb g cap L N lo hi o f _ (HHo.out _ hS) (FB _ hS).1 (FB _ hS).2.1 (FB _ hS).2.2.1 hN.2 hD1 hD2 hpos hL37 HMEM.out (FB _ hS).2.2.2).mono ?_); rintro e W2 ⟨⟨m, rfl, hm⟩, hB2⟩; exact ⟨_, rfl, hB2, m, rfl, hm⟩)
  simp only [List.nil_append, List.cons_append]
  refine Free.Chain.ex ?_ [] [3] (by kernel_rfl) (by kernel_rfl) rfl (Kept.refl mb) ?_ ?_
  rotate_left
  · (intro ev W hb hR hO hD; have hS := hF W hR; obtain ⟨hb1, hb2, hb3⟩ := hb; simp only [Free.AllDeps, Free.AllOuts, Free.At, List.getElem?_cons_succ, List.getElem?_cons_zero, Array.getD_eq_getD_getElem?, List.getElem?_toArray, Option.getD_some, and_true] at hO hD; go_simp; rfl)
  simp only [List.nil_append, List.cons_append]
  refine Free.Chain.pr (fun v _ => v = .int .i64 M) [(0, 25), (3, 28), (4, 29), (3, 28)] [] (by kernel_rfl) (by kernel_rfl) rfl (fun _ _ _ _ h => h) ?_ ?_
  · (intro ev W hb hR hO hD; have hS := hF W hR; obtain ⟨hb1, hb2, hb3⟩ := hb; simp only [Free.AllDeps, Free.AllOuts, Free.At, List.getElem?_cons_succ, List.getElem?_cons_zero, Array.getD_eq_getD_getElem?, List.getElem?_toArray, Option.getD_some, and_true] at hO hD; obtain ⟨hd0, ⟨m, hd3, hm1, hm2⟩, hd4⟩ := hD; have hmN := HMEM.out m hm1; go_simp; refine yields_enter ?_; (with_reducible refine (ways_any hb N lo hi m o f mb kb cb _ (HHo.out _ hS) hN.2 (by omega) (by omega) (by omega) (by omega)).mono ?_); rintro e W2 ⟨rfl, hB2⟩; exact ⟨_, rfl, hB2, by rw [HMX.out m hm1 hm2]⟩)
  simp only [List.nil_append, List.cons_append]
  refine Free.Chain.ex ?_ [(5, 30), (5, 30), (0, 25), (1, 26), (2, 27), (3, 28), (4, 29), (5, 30)] [] (by kernel_rfl) (by kernel_rfl) rfl (Kept.refl mb) ?_ ?_
  rotate_left
  · (intro ev W hb hR hO hD; have hS := hF W hR; obtain ⟨hb1, hb2, hb3⟩ := hb; simp only [Free.AllDeps, Free.AllOuts, Free.At, List.getElem?_cons_succ, List.getElem?_cons_zero, Array.getD_eq_getD_getElem?, List.getElem?_toArray, Option.getD_some, and_true] at hO hD; go_simp; rfl)
  simp only [List.nil_append, List.cons_append]
  intro xs w4 hR hV
  simp only [Free.AllV, Free.At, List.length_cons, List.length_nil, Nat.reduceAdd, List.getElem?_cons_succ, List.getElem?_cons_zero, true_and] at hV
  simp only [Free.putsFrom, Act.put, Nat.zero_add, Nat.reduceAdd, hV, List.setIfInBounds_toArray, List.set_cons_succ, List.set_cons_zero]
  have HK4 : Kept mb wa w4 := hF w4 hR
  clear hR hV hF
  have hmm := @run_makeMap Tryd.prog
  have hz4 := FB w4 HK4
  have hs4 : rb + 1 ≤ w4.heap.size := by have := HK4.size; omega
  go_wp2_with fail
  have hmap : MapIs (Value.int .i64) w4.heap.size [] ((w4.alloc (.map #[] 0)).alloc (.cells #[.map (some w4.heap.size)] 89)) := (MapIs.made (Value.int .i64) w4).of_block (by rw [Below.heap_alloc _ _ _ (by simp)])
  have htb : ((w4.alloc (.map #[] 0)).alloc (.cells #[.map (some w4.heap.size)] 89)).cell? ⟨w4.heap.size + 1, 0, none⟩ = some (.map (some w4.heap.size)) := by simp [go_sem]
  have hK5 : Kept mb wa ((w4.alloc (.map #[] 0)).alloc (.cells #[.map (some w4.heap.size)] 89)) := (HK4.alloc _).alloc _
  have hs5 : ((w4.alloc (.map #[] 0)).alloc (.cells #[.map (some w4.heap.size)] 89)).heap.size = w4.heap.size + 2 := by simp
  generalize ((w4.alloc (.map #[] 0)).alloc (.cells #[.map (some w4.heap.size)] 89)) = w5 at *
  generalize hue : w4.heap.size = ub at *
  have hz5 := FB w5 hK5
  have hc5 := HCUR.out w5 hK5
  have hH5 := HHo.out w5 hK5
  have hcl5 : ∀ j, j < L.length → w5.cell? ⟨g, j, none⟩ = some (.int .i64 (L.getD j 0)) := fun j hj => cell_of_heap hc5 (HCELL.out j hj)
  have hkb5 : kb < ub ∧ cb < ub := by
    have h4 := HHo.out w4 HK4
    have := lt_of_cell h4.ctr.known
    have := lt_of_cell h4.ctr.count
    simp only at *
    omega
  have FX : ∀ W, KeptX mb [ub] w5 W → W.cell? ⟨rb, 0, none⟩ = some (.pointer (some ⟨hb, 0, none⟩)) ∧ W.cell? ⟨bb + 1, 0, none⟩ = some (.int .i64 o) ∧ W.cell? ⟨bb + 1, 1, none⟩ = some (.int .i64 f) ∧ W.cell? ⟨ub + 1, 0, none⟩ = some (.map (some ub)) ∧ W.heap[g]? = some (.cells cur 3 (0, 0)) ∧ ub + 2 ≤ W.heap.size := fun W hW =>
    ⟨hW.cell hz5.1 (by show rb ≠ mb; omega) (by simp; omega), hW.cell hz5.2.1 (by show bb + 1 ≠ mb; omega) (by simp; omega), hW.cell hz5.2.2.1 (by show bb + 1 ≠ mb; omega) (by simp; omega), hW.cell htb (by show ub + 1 ≠ mb; omega) (by simp), (hW.block g (lt_of_heap hc5) (by omega) (by simp; omega)).trans hc5, by have := hW.size; omega⟩
  have HXo := Lib.hid (fun (W : World) (hW : KeptX mb [ub] w5 W) => KeptX.hold hH5 hW (by simp; omega) (by simp; omega) (by simp; omega))
  have HCL := Lib.hid (fun (W : World) (hW : KeptX mb [ub] w5 W) (j : Nat) (hj : j < L.length) => (cell_of_heap (FX W hW).2.2.2.2.1 (HCELL.out j hj) : W.cell? ⟨g, j, none⟩ = some (.int .i64 (L.getD j 0))))
  have HGD := Lib.hid (fun (j : Nat) (hj : j < L.length) => (HMEM.out (L.getD j 0) (by simp [hj]) : 0 ≤ L.getD j 0 ∧ L.getD j 0 ≤ N))
  have HINL := Lib.hid (fun (j : Nat) (hj : j < L.length) => (by simp [hj] : L.getD j 0 ∈ L))
  have HMAP := Lib.hid hmap
  have HB5 := Lib.hid (fun (W : World) (hW : KeptX mb [ub] w5 W) => (KeptX.below ((hK5.below HKW.out h1).mono (show bb ≤ W0.heap.size by omega)) hW (show bb ≤ mb by omega) (fun r hr => by simp at hr; omega) (by omega) : Below bb W0 W))
  clear hz5 hc5 hH5 hcl5 hmap htb hz4 HK4 FB HHo HCUR hK5 hue hkb5
  have hLi : (L.length : Int) ≤ 37 := by omega
  go_loopw [34] (fun i wr => ∃ (k : Nat) (l : List (Int × Value)), k ≤ L.length ∧ i = .int .i64 k ∧ Hid (MapIs (Value.int .i64) ub l wr) ∧ Hid (l.map (·.1)).Nodup ∧ Hid (∀ x, (assoc x l).getD (.bool false) = .bool (decide (x ∈ L.take k))) ∧ KeptX mb [ub] w5 wr) (fun i _ => L.length - (intOf i).toNat)
  case atStart => exact ⟨0, [], by omega, rfl, HMAP, Lib.hid (by simp), Lib.hid (fun x => by simp [assoc]), KeptX.refl _ _ _⟩
  case round =>
    obtain ⟨k, l, hk, rfl, HM, HND, HA, HK⟩ := hrel
    by_cases hlt : k < L.length
    · have ck := HCL.out wr HK k hlt
      have hfb := FX wr HK
      have hklt : (k : Int) < L.length := by omega
      obtain ⟨x, hx⟩ : ∃ x, L.getD k 0 = x := ⟨_, rfl⟩
      have HX := Lib.hid hx
      rw [hx] at ck
      clear hx
      obtain ⟨w6, f1, f2, f3, f4⟩ := HM.out.update T.intKeysL T.uMapIB x (.bool true)
      have HK6 := HK.trans (KeptX.grown f2 (by simp) (by omega))
      have HF3 := Lib.hid f3
      clear f2 f3
      go_wp2_with fail
      go_roundw
      case rel => exact ⟨k + 1, _, by omega, by go_num, HF3, Lib.hid (assocSet_nodup _ _ _ HND.out), Lib.hid (fun y => by
        by_cases e : y = x
        · rw [e, assoc_set_same, decide_eq_true ((take_mem L k hlt x).2 (.inr HX.out.symm))]; rfl
        · rw [assoc_set_other _ _ _ e, HA.out y]
          congr 1
          rw [decide_eq_decide, take_mem L k hlt y, HX.out]
          simp [e]), HK6⟩
      case measure => simp [intOf]; omega
    · obtain rfl : k = L.length := by omega
      rw [List.take_length] at HA
      have hHK := HK
      go_wp2_with fail
      go_loopw [43] (fun i wr => ∃ (k : Nat) (l : List (Int × Value)), k ≤ L.length ∧ i = .int .i64 k ∧ Hid (MapIs (Value.int .i64) ub l wr) ∧ Hid (l.map (·.1)).Nodup ∧ Hid (∀ x, (assoc x l).getD (.bool false) = .bool (decide (x ∈ L ∧ ¬ (x ∈ L.take k ∧ waysI N x o f < M)))) ∧ KeptX mb [ub] w5 wr) (fun i _ => L.length - (intOf i).toNat)
      case atStart => exact ⟨0, l, by omega, rfl, HM, HND, Lib.hid (fun x => by rw [HA.out x]; simp), hHK⟩
      case round =>
        clear HM HND HA HK hHK
        obtain ⟨k, l, hk, rfl, HM, HND, HA, HK⟩ := hrel
        by_cases hlt : k < L.length
        · have ck := HCL.out wr HK k hlt
          have hfb := FX wr HK
          have hklt : (k : Int) < L.length := by omega
          have hg := HGD.out k hlt
          obtain ⟨x, hx⟩ : ∃ x, L.getD k 0 = x := ⟨_, rfl⟩
          have HX := Lib.hid hx
          rw [hx] at ck hg
          clear hx
          go_wp2_with fail
          refine (ways_any hb N lo hi x o f mb kb cb _ (HXo.out _ HK) hN.2 (by omega) (by omega) (by omega) (by omega)).mono ?_
          rintro e w6 ⟨rfl, hK6⟩
          have HK6 : KeptX mb [ub] w5 w6 := HK.trans (.of_kept hK6)
          have hM6 : MapIs (Value.int .i64) ub l w6 := HM.out.of_block (hK6.block ub (HM.out.lt) (by omega))
          have hfb6 := FX w6 HK6
          obtain ⟨q, hq⟩ : ∃ q, waysI N x o f = q := ⟨_, rfl⟩
          rw [hq]
          have HQ := Lib.hid hq
          clear hq hK6
          by_cases hqm : q < M
          · obtain ⟨w7, f1, f2, f3, f4⟩ := hM6.delete T.intKeysL T.uMapIB (ty := 0) x
            have HK7 := HK6.trans (KeptX.grown f2 (by simp) (by omega))
            rw [assocDel_eq] at f3
            have HF3 := Lib.hid f3
            clear f2 f3 hM6
            go_wp2_with fail
            go_roundw
            case rel => exact ⟨k + 1, _, by omega, by go_num, HF3, Lib.hid (delR_nodup x HND.out), Lib.hid (fun y => by
              by_cases e : y = x
              · rw [e, assoc_del_same x l HND.out, decide_eq_false (fun h => h.2 ⟨(take_mem L k hlt x).2 (.inr HX.out.symm), by rw [HQ.out]; exact hqm⟩)]; rfl
              · rw [assoc_del_other x y e, HA.out y]
                congr 1
                rw [decide_eq_decide, take_mem L k hlt y, HX.out]
                simp [e]), HK7⟩
            case measure => simp [intOf]; omega
          · have HM6 := Lib.hid hM6
            clear hM6
            go_wp2_with fail
            go_roundw
            case rel => exact ⟨k + 1, l, by omega, by go_num, HM6, HND, Lib.hid (fun y => by
              rw [HA.out y]
              congr 1
              rw [decide_eq_decide, take_mem L k hlt y, HX.out]
              by_cases e : y = x
              · rw [e, HQ.out]; simp [hqm]
              · simp [e]), HK6⟩
            case measure => simp [intOf]; omega
        · obtain rfl : k = L.length := by omega
          rw [List.take_length] at HA
          have hfb := FX wr HK
          have hHo : Holds (Value.int .i64) wr g 0 L.toArray := fun j hj => ⟨by
            have hj' : j < L.length := by simpa using hj
            have := HCL.out wr HK j hj'
            rw [Nat.zero_add, this]
            simp [hj'], by rw [Nat.zero_add]; exact frozen_of_heap hfb.2.2.2.2.1⟩
          have HHOL := Lib.hid hHo
          have HP := Lib.hid (fun x => (show (assoc x l).getD (.bool false) = .bool (!(!decide (x ∈ L ∧ ¬ (x ∈ L ∧ waysI N x o f < M)))) by rw [Bool.not_not]; exact HA.out x))
          clear HA hHo
          go_wp2_with fail
          refine (delfunc_any (ub + 1) ub g cap l (fun x => !decide (x ∈ L ∧ ¬ (x ∈ L ∧ waysI N x o f < M))) L wr hfb.2.2.2.1 HM.out HP.out (by omega) (by omega) HHOL.out hL37 HCAP.out).mono ?_
          rintro e w8 ⟨rfl, hc8, hB8⟩
          have hFL : (L.filter fun x => !(fun x => !decide (x ∈ L ∧ ¬ (x ∈ L ∧ waysI N x o f < M))) x) = likeL N lo hi o f := by
            rw [HLL.out]
            refine List.filter_congr fun x hx => ?_
            obtain ⟨m, hm, hall⟩ := HME.out
            have hmM := HMX.out m hm hall
            simp only [Bool.not_not, decide_eq_decide]
            constructor
            · rintro ⟨_, h⟩ y hy
              have := hall y hy
              have h2 : ¬ waysI N x o f < M := fun h3 => h ⟨hx, h3⟩
              omega
            · intro h
              refine ⟨hx, fun ⟨_, h2⟩ => ?_⟩
              have := h m hm
              omega
          simp only [hFL] at hc8 ⊢
          have HC8 := Lib.hid hc8
          have hlen : (likeL N lo hi o f).length ≤ 37 := by
            rw [HLL.out]; exact Nat.le_trans (List.length_filter_le _ _) hL37
          obtain ⟨Z, hZ⟩ : ∃ Z, likeL N lo hi o f = Z := ⟨_, rfl⟩
          simp only [hZ] at HC8 hlen ⊢
          have HZ := Lib.hid hZ
          have HB9 := Lib.hid ((HB5.out wr HK).trans (hB8.mono (show bb ≤ g by omega)))
          clear hB8
          go_wp2_with fail
          go_ret2
          have hbb := HBB.out
          subst hbb
          exact ⟨⟨_, rfl, by rw [HZ.out]; exact ⟨some ⟨g, 0, none⟩, cap, rfl, by unfold maxLen; omega, fun _ => ⟨g, 0, rfl, fun k hk => HC8.out k hk⟩⟩⟩, HB0.out.trans HB9.out⟩
/-- What Likely returns. -/
theorem likely_any (N lo hi o f : Int) (w : World) :
    Calls Tryd.prog 17 #[.agg #[.int .i64 N, .int .i64 lo, .int .i64 hi], .agg #[.int .i64 o, .int .i64 f]] w fun e w' => (∃ v, e = .returned (.tuple #[v, .int .i64 (likeE N lo hi o f)]) ∧ IL (likeA N lo hi o f) v w') ∧ Below w.heap.size w w' := by
  cases hc : cargoB N lo hi
  · have he : likeE N lo hi o f = 10 := by rw [likeE, if_pos hc]
    rw [likeA, he, if_neg (by decide)]
    exact (likely_a N lo hi o f w hc).mono fun e w' ⟨h1, h2⟩ => ⟨⟨_, h1, IL.nil w'⟩, h2⟩
  · cases hd : drawB N o f
    · have he : likeE N lo hi o f = 11 := by rw [likeE, if_neg (by simp [hc]), if_pos hd]
      rw [likeA, he, if_neg (by decide)]
      exact (likely_b N lo hi o f w hc hd).mono fun e w' ⟨h1, h2⟩ => ⟨⟨_, h1, IL.nil w'⟩, h2⟩
    · by_cases hL : ableL N lo hi o f = []
      · have he : likeE N lo hi o f = 8 := by rw [likeE, if_neg (by simp [hc]), if_neg (by simp [hd]), if_pos hL]
        rw [likeA, he, if_neg (by decide)]
        exact (likely_c N lo hi o f w hc hd hL).mono fun e w' ⟨h1, h2⟩ => ⟨⟨_, h1, IL.nil w'⟩, h2⟩
      · have he : likeE N lo hi o f = 0 := by rw [likeE, if_neg (by simp [hc]), if_neg (by simp [hd]), if_neg hL]
        rw [likeA, he, if_pos rfl]
        exact likely_d N lo hi o f w hc hd hL
end Go.Proofs.YtinndhmjojpekaaDoor

/- What the rule is that opens the fewest bags. -/
namespace Go.Proofs.YtinndhmjojpekaaDoor

/-- The first pair o, a (a up to o, o up to N) that is P; none. -/
def LeastIs (P : Int → Int → Bool) (N o a e : Int) : Prop :=
  (e = 0 ∧ 0 ≤ a ∧ a ≤ o ∧ o ≤ N ∧ P o a = true ∧ (∀ o' a', 0 ≤ a' → a' ≤ o' → o' < o → P o' a' = false) ∧ ∀ a', 0 ≤ a' → a' < a → P o a' = false) ∨
  (e = 6 ∧ o = 0 ∧ a = 0 ∧ ∀ o' a', 0 ≤ a' → a' ≤ o' → o' ≤ N → P o' a' = false)
theorem LeastIs.unique {P : Int → Int → Bool} {N o a e o' a' e' : Int} (h : LeastIs P N o a e) (k : LeastIs P N o' a' e') : o = o' ∧ a = a' ∧ e = e' := by
  rcases h with ⟨rfl, h1, h2, h3, h4, h5, h6⟩ | ⟨rfl, rfl, rfl, h1⟩
  · rcases k with ⟨rfl, k1, k2, k3, k4, k5, k6⟩ | ⟨rfl, rfl, rfl, k1⟩
    · have ho : o = o' := by
        rcases Int.lt_trichotomy o o' with h | h | h
        · have := k5 o a h1 h2 h; rw [h4] at this; cases this
        · exact h
        · have := h5 o' a' k1 k2 h; rw [k4] at this; cases this
      subst ho
      refine ⟨rfl, ?_, rfl⟩
      rcases Int.lt_trichotomy a a' with h | h | h
      · have := k6 a h1 h; rw [h4] at this; cases this
      · exact h
      · have := h6 a' k1 h; rw [k4] at this; cases this
    · have := k1 o a h1 h2 h3; rw [h4] at this; cases this
  · rcases k with ⟨rfl, k1, k2, k3, k4, k5, k6⟩ | ⟨rfl, rfl, rfl, k1⟩
    · have := h1 o' a' k1 k2 k3; rw [k4] at this; cases this
    · exact ⟨rfl, rfl, rfl⟩
end Go.Proofs.YtinndhmjojpekaaDoor

/- Two numbers and two chances without an error. -/
namespace Go.Proofs.YtinndhmjojpekaaDoor
set_option linter.unusedSimpArgs false
set_option linter.unusedVariables false
open Go.RowKit

theorem riskedE_zero {lo hi g b sn sd bn bd : Int} (h : riskedE lo hi g b sn sd bn bd = 0) : (lo ≤ g ∧ g ≤ hi) ∧ (lo ≤ b ∧ b ≤ hi) ∧ g < b ∧ givenB sn sd = true ∧ givenB bn bd = true := by
  unfold riskedE at h
  have h2 : inB lo hi [g, b] = true := by
    cases hm : inB lo hi [g, b]
    · rw [hm] at h; simp [firstE, unlessV] at h
    · rfl
  have h3 : ([(sn, sd), (bn, bd)].all fun x => givenB x.1 x.2) = true := by
    cases hm : ([(sn, sd), (bn, bd)].all fun x => givenB x.1 x.2)
    · rw [h2, hm] at h; simp [firstE, unlessV] at h
    · rfl
  have h4 : decide (g < b) = true := by
    cases hm : decide (g < b)
    · rw [h2, h3, hm] at h; simp [firstE, unlessV] at h
    · rfl
  simp [inB] at h2
  simp at h3 h4
  exact ⟨by omega, by omega, h4, h3.1, h3.2⟩
theorem Kept.below_of {B mb : Nat} {a w w' : World} (h : Kept mb w w') (h0 : Below B a w) (hm : B ≤ mb) (hs : B ≤ w.heap.size) : Below B a w' :=
  ⟨h.os.trans h0.os, h.tape.trans h0.tape, h.output.trans h0.output, Nat.le_trans h0.size h.size, fun k hk => (h.block k (by omega) (by omega)).trans (h0.block k hk)⟩

end Go.Proofs.YtinndhmjojpekaaDoor

