/- For every input the law SampleWhole returns true, and its arguments read behind the call as they read before; what a double rule is asked lies in the table as the program's text lays it (tied). Condition: that table. -/
/- A number of the span, told ahead. -/
import Derived.Test.YtdiclofeggkjcaaDoorB7
namespace Go.Proofs.YtdiclofeggkjcaaDoor
set_option linter.unusedSimpArgs false
set_option linter.unusedVariables false
open Go.RowKit

set_option maxRecDepth 100000 in
set_option maxHeartbeats 2000000 in
theorem some_v (N lo hi x D : Int) (w : World) (hlo : 0 ≤ lo ∧ lo ≤ hi ∧ hi ≤ 36) (hx : 0 ≤ x ∧ x ≤ 255) (hD : Hid (lo + x % (hi - lo + 1) = D)) :
    Calls Tryd.prog 26 #[.agg #[.int .i64 N, .int .i64 lo, .int .i64 hi], .int .u8 x] w fun e w' => e = .returned (.int .i64 D) ∧ Below w.heap.size w w' := by
  have hm0 : 0 ≤ x % (hi - lo + 1) := Int.emod_nonneg _ (by omega)
  have hm1 : x % (hi - lo + 1) < hi - lo + 1 := Int.emod_lt_of_pos _ (by omega)
  have hc : IntKind.i64.wrap x = x := IntWalk.i64_in _ (by omega)
  have hs : IntKind.i64.wrap (hi - lo) = hi - lo := IntWalk.i64_in _ (by omega)
  have hs2 : IntKind.i64.wrap (hi - lo + 1) = hi - lo + 1 := IntWalk.i64_in _ (by omega)
  have hne : (hi - lo + 1 != 0) = true := by simp; omega
  have ht : x.tmod (hi - lo + 1) = x % (hi - lo + 1) := Int.tmod_eq_emod_of_nonneg hx.1
  have hs3 : IntKind.i64.wrap (x % (hi - lo + 1)) = x % (hi - lo + 1) := IntWalk.i64_in _ (by omega)
  have hs4 : IntKind.i64.wrap (lo + x % (hi - lo + 1)) = lo + x % (hi - lo + 1) := IntWalk.i64_in _ (by omega)
  have hB0 : Below w.heap.size w (w.alloc (.cells #[.int .i64 N, .int .i64 lo, .int .i64 hi] 26)) := (Below.refl _ w).alloc (Nat.le_refl _) _
  have c0_0 : (w.alloc (.cells #[.int .i64 N, .int .i64 lo, .int .i64 hi] 26)).cell? ⟨w.heap.size, 0, none⟩ = some (.int .i64 N) := by simp [go_sem]
  have c0_1 : (w.alloc (.cells #[.int .i64 N, .int .i64 lo, .int .i64 hi] 26)).cell? ⟨w.heap.size, 1, none⟩ = some (.int .i64 lo) := by simp [go_sem]
  have c0_2 : (w.alloc (.cells #[.int .i64 N, .int .i64 lo, .int .i64 hi] 26)).cell? ⟨w.heap.size, 2, none⟩ = some (.int .i64 hi) := by simp [go_sem]
  go_enter Tryd.func26, Tryd.ntmps26
  go_wp2_with fail
  generalize (w.alloc (.cells #[.int .i64 N, .int .i64 lo, .int .i64 hi] 26)) = W0 at *
  go_quiet (fail)
  go_wp2_with fail
  go_ret
  exact ⟨by rw [← hD.out]; rfl, belDrewN hB0 _⟩
theorem some_bounds (lo hi x : Int) (hlo : lo ≤ hi) : ∃ D, Hid (lo + x % (hi - lo + 1) = D) ∧ lo ≤ D ∧ D ≤ hi := by
  have hm0 : 0 ≤ x % (hi - lo + 1) := Int.emod_nonneg _ (by omega)
  have hm1 : x % (hi - lo + 1) < hi - lo + 1 := Int.emod_lt_of_pos _ (by omega)
  exact ⟨_, rfl, by omega, by omega⟩
end Go.Proofs.YtdiclofeggkjcaaDoor

/- The law that all chances together are 1: its walk. -/
namespace Go.Proofs.YtdiclofeggkjcaaDoor
set_option linter.unusedSimpArgs false
set_option linter.unusedVariables false
open Go.RowKit Go.Proofs.YtdiclofeggkjcaaDoor.ML Go.Proofs.YtdiclofeggkjcaaDoor.Samp

theorem midK_natT (N D o : Nat) (hD : D ≤ N) : ∀ n : Nat, n ≤ o + 1 → midI N D o (fun k => k) n = (sumTo (fun k => k * Samp.ways D (N - D) o k) n : Nat)
  | 0, _ => by simp [midI, sumTo]
  | n + 1, h => by
    rw [midI, midK_natT N D o hD n (by omega), waysI_natT N D o n hD (by omega)]
    simp [sumTo]
/-- The middle of what is found. -/
theorem mean_mid (N D o : Int) (hN : 1 ≤ N) (h0 : 0 ≤ D ∧ D ≤ N) (ho : 0 ≤ o ∧ o ≤ N) : partV (midI N D o (fun k => k) (o + 1).toNat).toNat (chI N o).toNat = partV (D * o).toNat N.toNat := by
  obtain ⟨n, rfl⟩ := Int.eq_ofNat_of_zero_le (show 0 ≤ N by omega)
  obtain ⟨d, rfl⟩ := Int.eq_ofNat_of_zero_le h0.1
  obtain ⟨p, rfl⟩ := Int.eq_ofNat_of_zero_le ho.1
  have h1 := midK_natT n d p (by omega) (p + 1) (Nat.le_refl _)
  show partV (midI (n : Int) (d : Int) (p : Int) (fun k => k) _).toNat (chI (n : Int) (p : Int)).toNat = _
  rw [show ((p : Int) + 1).toNat = p + 1 by omega, h1, chI_nat, ← Int.natCast_mul]
  simp only [Int.toNat_natCast]
  unfold partV
  rw [lowest_mean d n p (by omega) (by omega) (by omega)]

set_option maxRecDepth 100000 in
set_option maxHeartbeats 4000000 in
theorem whole_walk (N lo hi x y : Int) (w : World) (hT : TabD w) (hx : 0 ≤ x ∧ x ≤ 255) (hy : 0 ≤ y ∧ y ≤ 255) :
    Calls Tryd.prog 8 #[.agg #[.int .i64 N, .int .i64 lo, .int .i64 hi], .int .u8 x, .int .u8 y] w fun e w' => e = .returned (.bool true) ∧ Below w.heap.size w w' := by
  have hB0 : Below w.heap.size w (w.alloc (.cells #[.int .i64 N, .int .i64 lo, .int .i64 hi] 26)) := (Below.refl _ w).alloc (Nat.le_refl _) _
  have c0_0 : (w.alloc (.cells #[.int .i64 N, .int .i64 lo, .int .i64 hi] 26)).cell? ⟨w.heap.size, 0, none⟩ = some (.int .i64 N) := by simp [go_sem]
  have c0_1 : (w.alloc (.cells #[.int .i64 N, .int .i64 lo, .int .i64 hi] 26)).cell? ⟨w.heap.size, 1, none⟩ = some (.int .i64 lo) := by simp [go_sem]
  have c0_2 : (w.alloc (.cells #[.int .i64 N, .int .i64 lo, .int .i64 hi] 26)).cell? ⟨w.heap.size, 2, none⟩ = some (.int .i64 hi) := by simp [go_sem]
  have t0 := keepsB hB0 hT.1
  have t1 := keepsB hB0 hT.2.1
  have t2 := keepsB hB0 hT.2.2
  clear hT
  go_enter Tryd.func8, Tryd.ntmps8
  go_wp2_with fail
  refine (alive_any _ (tabD_mk t0 t1 t2)).mono ?_
  rintro e w1 ⟨rfl, hB1⟩
  have hBz : Below w.heap.size w w1 := hB0.trans (hB1.mono (by simp))
  have hzz : w.heap.size ≤ w1.heap.size := hBz.size
  have hzn : w.heap.size + 1 ≤ w1.heap.size := by have := hB1.size; simp at this; omega
  have kc0_0 := keepsB hB1 c0_0
  have kc0_1 := keepsB hB1 c0_1
  have kc0_2 := keepsB hB1 c0_2
  have kt0 := keepsB hB1 t0
  have kt1 := keepsB hB1 t1
  have kt2 := keepsB hB1 t2
  clear hB0 hB1 t0 t1 t2 c0_0 c0_1 c0_2
  generalize hbb : w.heap.size = bb at *
  have HBB := Lib.hid hbb
  clear hbb
  have HB_w1 := Lib.hid (show Below bb w w1 from hBz)
  have hz_w1 : bb ≤ w1.heap.size := hzz
  have FA : ∀ W, Free.Bel w1 W → W.cell? ⟨0, 0, none⟩ = some (dblF 130) ∧ W.cell? ⟨0, 1, none⟩ = some (dblF 131) ∧ W.cell? ⟨0, 2, none⟩ = some (dblF 132) ∧ W.cell? ⟨bb, 0, none⟩ = some (.int .i64 N) ∧ W.cell? ⟨bb, 1, none⟩ = some (.int .i64 lo) ∧ W.cell? ⟨bb, 2, none⟩ = some (.int .i64 hi) ∧ bb + 1 ≤ W.heap.size ∧ bb ≤ W.heap.size := fun W hW => ⟨keepsB hW kt0, keepsB hW kt1, keepsB hW kt2, keepsB hW kc0_0, keepsB hW kc0_1, keepsB hW kc0_2, Nat.le_trans hzn hW.size, Nat.le_trans hz_w1 hW.size⟩
  have KR : Free.Bel w1 w1 := Free.Bel.refl _
  clear hBz hzz kt0 kt1 kt2 kc0_0 kc0_1 kc0_2 hzn
  go_wp2_with fail
  cases hc0 : cargoB N lo hi
  · have HC0 := hc0
    refine (cargoR_any N lo hi false _ hc0).mono ?_
    rintro e w2 ⟨rfl, hB⟩
    have HB_w2 := Lib.hid (HB_w1.out.trans ((hB).mono hz_w1))
    have hz_w2 : bb ≤ w2.heap.size := Nat.le_trans hz_w1 (hB).size
    have FN : ∀ W, Free.Bel w2 W → W.cell? ⟨0, 0, none⟩ = some (dblF 130) ∧ W.cell? ⟨0, 1, none⟩ = some (dblF 131) ∧ W.cell? ⟨0, 2, none⟩ = some (dblF 132) ∧ W.cell? ⟨bb, 0, none⟩ = some (.int .i64 N) ∧ W.cell? ⟨bb, 1, none⟩ = some (.int .i64 lo) ∧ W.cell? ⟨bb, 2, none⟩ = some (.int .i64 hi) ∧ bb + 1 ≤ W.heap.size ∧ bb ≤ W.heap.size := fun W hW => by
      obtain ⟨a0, a1, a2, a3, a4, a5, a6, a7⟩ := FA W (Free.Bel.trans _ _ _ (hB) hW)
      exact ⟨a0, a1, a2, a3, a4, a5, a6, a7⟩
    clear FA HB_w1 hz_w1 KR
    have FA := FN
    clear FN
    have KR : Free.Bel w2 w2 := Free.Bel.refl _
    clear hB
    go_wp2_with fail
    go_ret
    have hbb := HBB.out
    subst hbb
    exact ⟨rfl, HB_w2.out⟩
  · have hc := (cargoB_iff N lo hi).1 hc0
    refine (cargoR_any N lo hi true _ hc0).mono ?_
    rintro e w3 ⟨rfl, hB⟩
    have HB_w3 := Lib.hid (HB_w1.out.trans ((hB).mono hz_w1))
    have hz_w3 : bb ≤ w3.heap.size := Nat.le_trans hz_w1 (hB).size
    have FN : ∀ W, Free.Bel w3 W → W.cell? ⟨0, 0, none⟩ = some (dblF 130) ∧ W.cell? ⟨0, 1, none⟩ = some (dblF 131) ∧ W.cell? ⟨0, 2, none⟩ = some (dblF 132) ∧ W.cell? ⟨bb, 0, none⟩ = some (.int .i64 N) ∧ W.cell? ⟨bb, 1, none⟩ = some (.int .i64 lo) ∧ W.cell? ⟨bb, 2, none⟩ = some (.int .i64 hi) ∧ bb + 1 ≤ W.heap.size ∧ bb ≤ W.heap.size := fun W hW => by
      obtain ⟨a0, a1, a2, a3, a4, a5, a6, a7⟩ := FA W (Free.Bel.trans _ _ _ (hB) hW)
      exact ⟨a0, a1, a2, a3, a4, a5, a6, a7⟩
    clear FA HB_w1 hz_w1 KR
    have FA := FN
    clear FN
    have KR : Free.Bel w3 w3 := Free.Bel.refl _
    clear hB
    clear hc0
    go_wp2_with fail
    have v2 : IntKind.i64.wrap (N + 1) = N + 1 := IntWalk.i64_in _ (by omega)
    have v3 : (N + 1 != 0) = true := by simp; omega
    have v3b : ¬ (N + 1 = 0) := by omega
    have mn0 : 0 ≤ y % (N + 1) := Int.emod_nonneg _ (by omega)
    have mn1 : y % (N + 1) < (N + 1) := Int.emod_lt_of_pos _ (by omega)
    have cn : IntKind.i64.wrap y = y := IntWalk.i64_in _ (by omega)
    have dn : y.tmod (N + 1) = y % (N + 1) := Int.tmod_eq_emod_of_nonneg (by omega)
    obtain ⟨n, hn⟩ : ∃ v9, y % (N + 1) = v9 := ⟨_, rfl⟩
    rw [hn] at mn0 mn1 dn
    clear hn
    have en : IntKind.i64.wrap n = n := IntWalk.i64_in _ (by omega)
    obtain ⟨D, HD, hD⟩ := some_bounds lo hi x (by omega)
    have hF : ∀ W, Free.Bel w3.drew W → Free.Bel w3 W := fun W hW => Free.Bel.trans _ _ _ (Bel.drewT (Free.Bel.refl _)) hW
    refine Free.wp_free (R := Free.Bel) (by kernel_rfl) (by kernel_rfl) Free.Bel.refl Free.Bel.trans ?_
    refine Free.Chain.ex ?_ [] [3] (by kernel_rfl) (by kernel_rfl) rfl Free.Bel.refl ?_ ?_
    rotate_left
    · (intro ev W hb hR hO hD; have hS := hF W hR; obtain ⟨hb1, hb2, hb3⟩ := hb; simp only [Free.AllDeps, Free.AllOuts, Free.At, List.getElem?_cons_succ, List.getElem?_cons_zero, Array.getD_eq_getD_getElem?, List.getElem?_toArray, Option.getD_some, and_true] at hO hD; go_simp; rfl)
    simp only [List.nil_append, List.cons_append]
    refine Free.Chain.ex ?_ [] [1] (by kernel_rfl) (by kernel_rfl) rfl Free.Bel.refl ?_ ?_
    rotate_left
    · (intro ev W hb hR hO hD; have hS := hF W hR; obtain ⟨hb1, hb2, hb3⟩ := hb; simp only [Free.AllDeps, Free.AllOuts, Free.At, List.getElem?_cons_succ, List.getElem?_cons_zero, Array.getD_eq_getD_getElem?, List.getElem?_toArray, Option.getD_some, and_true] at hO hD; go_simp; rfl)
    simp only [List.nil_append, List.cons_append]
    refine Free.Chain.pr (fun v _ => v = .int .i64 D) [(0, 33), (1, 34)] [] (by kernel_rfl) (by kernel_rfl) rfl (fun _ _ _ _ h => h) ?_ ?_
    · (intro ev W hb hR hO hD; have hS := hF W hR; obtain ⟨hb1, hb2, hb3⟩ := hb; simp only [Free.AllDeps, Free.AllOuts, Free.At, List.getElem?_cons_succ, List.getElem?_cons_zero, Array.getD_eq_getD_getElem?, List.getElem?_toArray, Option.getD_some, and_true] at hO hD; go_simp; refine yields_enter ?_; (with_reducible refine (some_v N lo hi x D _ ⟨hc.2.2.1, hc.2.2.2.1, Int.le_trans hc.2.2.2.2 hc.2.1⟩ hx HD).mono ?_); rintro e W2 ⟨rfl, hB2⟩; exact ⟨_, rfl, hB2, rfl⟩)
    simp only [List.nil_append, List.cons_append]
    refine Free.Chain.ex ?_ [] [2] (by kernel_rfl) (by kernel_rfl) rfl Free.Bel.refl ?_ ?_
    rotate_left
    · (intro ev W hb hR hO hD; have hS := hF W hR; obtain ⟨hb1, hb2, hb3⟩ := hb; simp only [Free.AllDeps, Free.AllOuts, Free.At, List.getElem?_cons_succ, List.getElem?_cons_zero, Array.getD_eq_getD_getElem?, List.getElem?_toArray, Option.getD_some, and_true] at hO hD; go_simp; rfl)
    simp only [List.nil_append, List.cons_append]
    refine Free.Chain.ex ?_ [(3, 36)] [] (by kernel_rfl) (by kernel_rfl) rfl Free.Bel.refl ?_ ?_
    rotate_left
    · (intro ev W hb hR hO hD; have hS := hF W hR; obtain ⟨hb1, hb2, hb3⟩ := hb; simp only [Free.AllDeps, Free.AllOuts, Free.At, List.getElem?_cons_succ, List.getElem?_cons_zero, Array.getD_eq_getD_getElem?, List.getElem?_toArray, Option.getD_some, and_true] at hO hD; go_simp; rfl)
    simp only [List.nil_append, List.cons_append]
    refine Free.Chain.ex ?_ [] [3] (by kernel_rfl) (by kernel_rfl) rfl Free.Bel.refl ?_ ?_
    rotate_left
    · (intro ev W hb hR hO hD; have hS := hF W hR; obtain ⟨hb1, hb2, hb3⟩ := hb; simp only [Free.AllDeps, Free.AllOuts, Free.At, List.getElem?_cons_succ, List.getElem?_cons_zero, Array.getD_eq_getD_getElem?, List.getElem?_toArray, Option.getD_some, and_true] at hO hD; go_simp; rfl)
    simp only [List.nil_append, List.cons_append]
    refine Free.Chain.ex ?_ [(5, 38)] [] (by kernel_rfl) (by kernel_rfl) rfl Free.Bel.refl ?_ ?_
    rotate_left
    · (intro ev W hb hR hO hD; have hS := hF W hR; obtain ⟨hb1, hb2, hb3⟩ := hb; simp only [Free.AllDeps, Free.AllOuts, Free.At, List.getElem?_cons_succ, List.getElem?_cons_zero, Array.getD_eq_getD_getElem?, List.getElem?_toArray, Option.getD_some, and_true] at hO hD; go_simp; rfl)
    simp only [List.nil_append, List.cons_append]
    refine Free.Chain.ex ?_ [(6, 39)] [] (by kernel_rfl) (by kernel_rfl) rfl Free.Bel.refl ?_ ?_
    rotate_left
    · (intro ev W hb hR hO hD; have hS := hF W hR; obtain ⟨hb1, hb2, hb3⟩ := hb; simp only [Free.AllDeps, Free.AllOuts, Free.At, List.getElem?_cons_succ, List.getElem?_cons_zero, Array.getD_eq_getD_getElem?, List.getElem?_toArray, Option.getD_some, and_true] at hO hD; go_simp; rfl)
    simp only [List.nil_append, List.cons_append]
    refine Free.Chain.ex ?_ [(4, 37), (7, 40)] [] (by kernel_rfl) (by kernel_rfl) rfl Free.Bel.refl ?_ ?_
    rotate_left
    · (intro ev W hb hR hO hD; have hS := hF W hR; obtain ⟨hb1, hb2, hb3⟩ := hb; simp only [Free.AllDeps, Free.AllOuts, Free.At, List.getElem?_cons_succ, List.getElem?_cons_zero, Array.getD_eq_getD_getElem?, List.getElem?_toArray, Option.getD_some, and_true] at hO hD; go_simp; rfl)
    simp only [List.nil_append, List.cons_append]
    refine Free.Chain.ex ?_ [(2, 35), (2, 35), (0, 33), (1, 34), (2, 35)] [] (by kernel_rfl) (by kernel_rfl) rfl Free.Bel.refl ?_ ?_
    rotate_left
    · (intro ev W hb hR hO hD; have hS := hF W hR; obtain ⟨hb1, hb2, hb3⟩ := hb; simp only [Free.AllDeps, Free.AllOuts, Free.At, List.getElem?_cons_succ, List.getElem?_cons_zero, Array.getD_eq_getD_getElem?, List.getElem?_toArray, Option.getD_some, and_true] at hO hD; go_simp; rfl)
    simp only [List.nil_append, List.cons_append]
    refine Free.Chain.ex ?_ [(8, 41), (9, 8), (0, 33), (1, 34), (2, 35), (3, 36), (4, 37), (5, 38), (6, 39), (7, 40), (8, 41), (9, 8)] [] (by kernel_rfl) (by kernel_rfl) rfl Free.Bel.refl ?_ ?_
    rotate_left
    · (intro ev W hb hR hO hD; have hS := hF W hR; obtain ⟨hb1, hb2, hb3⟩ := hb; simp only [Free.AllDeps, Free.AllOuts, Free.At, List.getElem?_cons_succ, List.getElem?_cons_zero, Array.getD_eq_getD_getElem?, List.getElem?_toArray, Option.getD_some, and_true] at hO hD; go_simp; rfl)
    simp only [List.nil_append, List.cons_append]
    intro xs w4 hR hV
    simp only [Free.AllV, Free.At, List.length_cons, List.length_nil, Nat.reduceAdd, List.getElem?_cons_succ, List.getElem?_cons_zero, true_and, and_true] at hV
    simp only [Free.putsFrom, Act.put, Nat.zero_add, Nat.reduceAdd, hV, List.setIfInBounds_toArray, List.set_cons_succ, List.set_cons_zero]
    have hN := hF w4 hR
    clear hR hF
    have HB_w4 := Lib.hid (HB_w3.out.trans ((hN).mono hz_w3))
    have hz_w4 : bb ≤ w4.heap.size := Nat.le_trans hz_w3 (hN).size
    have FN : ∀ W, Free.Bel w4 W → W.cell? ⟨0, 0, none⟩ = some (dblF 130) ∧ W.cell? ⟨0, 1, none⟩ = some (dblF 131) ∧ W.cell? ⟨0, 2, none⟩ = some (dblF 132) ∧ W.cell? ⟨bb, 0, none⟩ = some (.int .i64 N) ∧ W.cell? ⟨bb, 1, none⟩ = some (.int .i64 lo) ∧ W.cell? ⟨bb, 2, none⟩ = some (.int .i64 hi) ∧ bb + 1 ≤ W.heap.size ∧ bb ≤ W.heap.size := fun W hW => by
      obtain ⟨a0, a1, a2, a3, a4, a5, a6, a7⟩ := FA W (Free.Bel.trans _ _ _ (hN) hW)
      exact ⟨a0, a1, a2, a3, a4, a5, a6, a7⟩
    clear FA HB_w3 hz_w3 KR
    have FA := FN
    clear FN
    have KR : Free.Bel w4 w4 := Free.Bel.refl _
    clear hN hV
    go_wp2_with fail
    refine (choose_any N n _ (by omega) (by omega) (by omega)).mono ?_
    rintro e _ ⟨rfl, rfl⟩
    have hcp := chI_pos N n (by omega) (by omega) (by omega) (by omega)
    obtain ⟨al, hal⟩ : ∃ al, chI N n = al := ⟨_, rfl⟩
    rw [hal] at hcp ⊢
    have HAL := Lib.hid hal
    clear hal
    have v4 : IntKind.i64.wrap (n + 1) = ((n.toNat + 1 : Nat) : Int) := by rw [IntWalk.i64_in _ (by omega)]; omega
    have HFE := Lib.hid (show fewI N D n (n.toNat + 1) = al by rw [← HAL.out, ← fewI_all N D n (by omega) (by omega) (by omega), show (n + 1).toNat = n.toNat + 1 by omega])
    go_wp2_with fail
    go_loopw [48, 11, 12] (fun i s m wr => ∃ j : Nat, j ≤ n.toNat + 1 ∧ i = .int .i64 j ∧ s = .int .i64 (fewI N D n j) ∧ m = .int .i64 (midI N D n (fun k => k) j) ∧ Free.Bel w4 wr) (fun i _ _ _ => n.toNat + 1 - (intOf i).toNat)
    case atStart => exact ⟨0, by omega, rfl, rfl, rfl, Free.Bel.refl _⟩
    case round =>
      obtain ⟨j, hj, rfl, rfl, rfl, HKr⟩ := hrel
      have HB_wr := Lib.hid (HB_w4.out.trans ((HKr).mono hz_w4))
      have hz_wr : bb ≤ wr.heap.size := Nat.le_trans hz_w4 (HKr).size
      have FN : ∀ W, Free.Bel wr W → W.cell? ⟨0, 0, none⟩ = some (dblF 130) ∧ W.cell? ⟨0, 1, none⟩ = some (dblF 131) ∧ W.cell? ⟨0, 2, none⟩ = some (dblF 132) ∧ W.cell? ⟨bb, 0, none⟩ = some (.int .i64 N) ∧ W.cell? ⟨bb, 1, none⟩ = some (.int .i64 lo) ∧ W.cell? ⟨bb, 2, none⟩ = some (.int .i64 hi) ∧ bb + 1 ≤ W.heap.size ∧ bb ≤ W.heap.size := fun W hW => by
        obtain ⟨a0, a1, a2, a3, a4, a5, a6, a7⟩ := FA W (Free.Bel.trans _ _ _ (HKr) hW)
        exact ⟨a0, a1, a2, a3, a4, a5, a6, a7⟩
      clear FA HB_w4 hz_w4 KR
      have FA := FN
      clear FN
      have KR : Free.Bel wr wr := Free.Bel.refl _
      have HL_wr : Free.Bel w4 wr := HKr
      clear HKr
      by_cases hlt : j < n.toNat + 1
      · have hjm : (j : Int) < ((n.toNat + 1 : Nat) : Int) := by omega
        have hjN : (0 : Int) ≤ j ∧ (j : Int) ≤ n := by omega
        obtain ⟨p, q, hpq⟩ : ∃ p q, partV (waysI N D n j).toNat (chI N n).toNat = i2 p q := ⟨_, _, rfl⟩
        have HP := Lib.hid hpq
        have HO := Lib.hid (show partV (waysI N D n j).toNat al.toNat = .agg #[.int .i64 p, .int .i64 q] by rw [← HAL.out]; exact hpq)
        obtain ⟨r, s, hrs⟩ : ∃ p q, mostV N D n j = i2 p q := ⟨_, _, rfl⟩
        have HP2 := Lib.hid hrs
        have HO2 := Lib.hid (show partV (mostI N D n j).toNat al.toNat = .agg #[.int .i64 r, .int .i64 s] by rw [← HAL.out]; exact hrs)
        clear hpq hrs
        have hm2 : mostI N D n j = fewI N D n (j + 1) := by rw [mostI_few N D n j (by omega) (by omega), show ((j : Int) + 1).toNat = j + 1 by omega]
        rw [hm2] at HO2
        have hf := fewI_le N D n (by omega) (by omega) (by omega) (j + 1)
        have hf0 := fewI_le N D n (by omega) (by omega) (by omega) j
        have hw := waysI_le N D n j (by omega) (by omega) (by omega) (by omega)
        rw [HAL.out] at hf hf0 hw
        have hmi := midI_bound N D n (fun k => k) (by omega) (by omega) (by omega) j (fun k hk => by constructor <;> omega)
        have hmi2 := midI_bound N D n (fun k => k) (by omega) (by omega) (by omega) (j + 1) (fun k hk => by constructor <;> omega)
        have hfs := fewI_succ N D n j
        have hms : midI N D n (fun k => k) (j + 1) = midI N D n (fun k => k) j + j * waysI N D n j := rfl
        have HFS := Lib.hid (And.intro hfs hms)
        rw [hfs] at hf HO2
        rw [hms] at hmi2
        obtain ⟨F0, hF0⟩ : ∃ x, fewI N D n j = x := ⟨_, rfl⟩
        obtain ⟨M0, hM0⟩ : ∃ x, midI N D n (fun k => k) j = x := ⟨_, rfl⟩
        obtain ⟨wy, hwy⟩ : ∃ x, waysI N D n j = x := ⟨_, rfl⟩
        rw [hF0, hwy] at hf HO2
        rw [hM0, hwy] at hmi2
        rw [hM0] at hmi
        rw [hF0] at hf0
        rw [hwy] at hw HO
        rw [hF0, hM0, hwy] at HFS
        rw [hF0, hM0]
        clear hF0 hM0 hwy hfs hms hm2
        have jw : 0 ≤ (j : Int) * wy := Int.mul_nonneg (by omega) hw.1
        have u1 : IntKind.i64.wrap (F0 + wy) = F0 + wy := IntWalk.i64_in _ (by omega)
        have u2 : IntKind.i64.wrap ((j : Int) * wy) = (j : Int) * wy := IntWalk.i64_in _ (by omega)
        have u3 : IntKind.i64.wrap (M0 + (j : Int) * wy) = M0 + (j : Int) * wy := IntWalk.i64_in _ (by omega)
        go_wp2_with fail
        have hF : ∀ W, Below wr.heap.size wr.drew W → Free.Bel wr W := fun W hW => (show Below wr.heap.size wr W from ((Below.refl _ wr).drew).trans hW)
        refine Free2.wp_free (R := Below wr.heap.size) (J := LL wr.heap.size [⟨9, 10, (.cells #[.int .i64 0, .int .i64 0] 29), (.cells #[.int .i64 p, .int .i64 q] 29)⟩]) (by kernel_rfl) (by kernel_rfl) (Below.refl _) (fun _ _ _ => Below.trans) (LL.start (Nat.le_refl _)) ?_
        refine Free2.Chain.ex ?_ 0 rfl [] [3] (by kernel_rfl) (by kernel_rfl) rfl (Below.refl _) (fun X W v h => LL.skip h 0 v (by simp)) ?_ ?_
        rotate_left
        · (intro ev W hb hR hO hD; have hS := hF W hR; obtain ⟨hb1, hb2, hb3⟩ := hb; simp only [Free.AllDeps, Free.AllOuts, Free.At, List.getElem?_cons_succ, List.getElem?_cons_zero, Array.getD_eq_getD_getElem?, List.getElem?_toArray, Option.getD_some, and_true] at hO hD; go_simp; rfl)
        simp only [List.nil_append, List.cons_append]
        refine Free2.Chain.ex ?_ 1 rfl [] [8] (by kernel_rfl) (by kernel_rfl) rfl (Below.refl _) (fun X W v h => LL.skip h 1 v (by simp)) ?_ ?_
        rotate_left
        · (intro ev W hb hR hO hD; have hS := hF W hR; obtain ⟨hb1, hb2, hb3⟩ := hb; simp only [Free.AllDeps, Free.AllOuts, Free.At, List.getElem?_cons_succ, List.getElem?_cons_zero, Array.getD_eq_getD_getElem?, List.getElem?_toArray, Option.getD_some, and_true] at hO hD; go_simp; rfl)
        simp only [List.nil_append, List.cons_append]
        refine Free2.Chain.ex ?_ 2 rfl [] [9] (by kernel_rfl) (by kernel_rfl) rfl (Below.refl _) (fun X W v h => LL.skip h 2 v (by simp)) ?_ ?_
        rotate_left
        · (intro ev W hb hR hO hD; have hS := hF W hR; obtain ⟨hb1, hb2, hb3⟩ := hb; simp only [Free.AllDeps, Free.AllOuts, Free.At, List.getElem?_cons_succ, List.getElem?_cons_zero, Array.getD_eq_getD_getElem?, List.getElem?_toArray, Option.getD_some, and_true] at hO hD; go_simp; rfl)
        simp only [List.nil_append, List.cons_append]
        refine Free2.Chain.ex ?_ 3 rfl [] [13] (by kernel_rfl) (by kernel_rfl) rfl (Below.refl _) (fun X W v h => LL.skip h 3 v (by simp)) ?_ ?_
        rotate_left
        · (intro ev W hb hR hO hD; have hS := hF W hR; obtain ⟨hb1, hb2, hb3⟩ := hb; simp only [Free.AllDeps, Free.AllOuts, Free.At, List.getElem?_cons_succ, List.getElem?_cons_zero, Array.getD_eq_getD_getElem?, List.getElem?_toArray, Option.getD_some, and_true] at hO hD; go_simp; rfl)
        simp only [List.nil_append, List.cons_append]
        refine Free2.Chain.pr (fun v _ => v = i2 n j) 4 rfl [(2, 54), (3, 55)] [] (by kernel_rfl) (by kernel_rfl) rfl (fun _ _ _ _ h => h) ?_ ?_
        · (intro ev W X hb hR hO hD hj hx hax; have hS := hF W hR; obtain ⟨hb1, hb2, hb3⟩ := hb; simp only [Free.AllDeps, Free.AllOuts, Free.At, List.getElem?_cons_succ, List.getElem?_cons_zero, Array.getD_eq_getD_getElem?, List.getElem?_toArray, Option.getD_some, and_true] at hO hD; simp only [Free2.AllX, and_true] at hax; go_simp; refine yields_enter ?_; (with_reducible refine (drawn_any n j _).mono ?_); rintro e W2 ⟨rfl, hB2⟩; exact ⟨_, rfl, hB2.mono hj.size, rfl, (hj.bel hB2).skip 4 _ (by simp)⟩)
        simp only [List.nil_append, List.cons_append]
        refine Free2.Chain.pr (fun v _ => v = .tuple #[i2 p q, .int .i64 0]) 5 rfl [(0, 52), (1, 53), (4, 56), (4, 56)] [] (by kernel_rfl) (by kernel_rfl) rfl (fun _ _ _ _ h => h) ?_ ?_
        · (intro ev W X hb hR hO hD hj hx hax; have hS := hF W hR; obtain ⟨hb1, hb2, hb3⟩ := hb; simp only [Free.AllDeps, Free.AllOuts, Free.At, List.getElem?_cons_succ, List.getElem?_cons_zero, Array.getD_eq_getD_getElem?, List.getElem?_toArray, Option.getD_some, and_true] at hO hD; simp only [Free2.AllX, and_true] at hax; go_simp; refine yields_enter ?_; (with_reducible refine (chance_ok N lo hi D n j p q _ hc (by omega) (by omega) HP).mono ?_); rintro e W2 ⟨rfl, hB2⟩; exact ⟨_, rfl, hB2.mono hj.size, rfl, (hj.bel hB2).skip 5 _ (by simp)⟩)
        simp only [List.nil_append, List.cons_append]
        refine Free2.Chain.ex ?_ 6 rfl [(5, 57)] [] (by kernel_rfl) (by kernel_rfl) rfl (Below.refl _) (fun X W v h => LL.skip h 6 v (by simp)) ?_ ?_
        rotate_left
        · (intro ev W hb hR hO hD; have hS := hF W hR; obtain ⟨hb1, hb2, hb3⟩ := hb; simp only [Free.AllDeps, Free.AllOuts, Free.At, List.getElem?_cons_succ, List.getElem?_cons_zero, Array.getD_eq_getD_getElem?, List.getElem?_toArray, Option.getD_some, and_true] at hO hD; go_simp; rfl)
        simp only [List.nil_append, List.cons_append]
        refine Free2.Chain.ex ?_ 7 rfl [(6, 51)] [] (by kernel_rfl) (by kernel_rfl) rfl (Below.refl _) (fun X W v h => LL.skip h 7 v (by simp)) ?_ ?_
        rotate_left
        · (intro ev W hb hR hO hD; have hS := hF W hR; obtain ⟨hb1, hb2, hb3⟩ := hb; simp only [Free.AllDeps, Free.AllOuts, Free.At, List.getElem?_cons_succ, List.getElem?_cons_zero, Array.getD_eq_getD_getElem?, List.getElem?_toArray, Option.getD_some, and_true] at hO hD; go_simp; rfl)
        simp only [List.nil_append, List.cons_append]
        refine Free2.Chain.ex ?_ 8 rfl [(6, 51)] [] (by kernel_rfl) (by kernel_rfl) rfl (Below.refl _) (fun X W v h => LL.skip h 8 v (by simp)) ?_ ?_
        rotate_left
        · (intro ev W hb hR hO hD; have hS := hF W hR; obtain ⟨hb1, hb2, hb3⟩ := hb; simp only [Free.AllDeps, Free.AllOuts, Free.At, List.getElem?_cons_succ, List.getElem?_cons_zero, Array.getD_eq_getD_getElem?, List.getElem?_toArray, Option.getD_some, and_true] at hO hD; go_simp; rfl)
        simp only [List.nil_append, List.cons_append]
        refine Free2.Chain.pr (fun v _ => ∃ b, v = ptr b) 9 rfl [] [] (by kernel_rfl) (by kernel_rfl) rfl (fun _ _ _ _ h => h) ?_ ?_
        · (intro ev W X hb hR hO hD hj hx hax; have hS := hF W hR; obtain ⟨hb1, hb2, hb3⟩ := hb; simp only [Free.AllDeps, Free.AllOuts, Free.At, List.getElem?_cons_succ, List.getElem?_cons_zero, Array.getD_eq_getD_getElem?, List.getElem?_toArray, Option.getD_some, and_true] at hO hD; simp only [Free2.AllX, and_true] at hax; go_simp; exact ⟨(Below.refl _ W).alloc hj.size _, ⟨_, rfl⟩, hj.new ⟨9, 10, (.cells #[.int .i64 0, .int .i64 0] 29), (.cells #[.int .i64 p, .int .i64 q] 29)⟩ (by simp) (by simp) hx⟩)
        simp only [List.nil_append, List.cons_append]
        refine Free2.Chain.pr (fun _ _ => True) 10 rfl [(9, 14), (7, 58), (5, 57), (0, 52), (1, 53), (2, 54), (3, 55), (4, 56), (5, 57), (6, 51), (7, 58), (9, 14)] [] (by kernel_rfl) (by kernel_rfl) rfl (fun _ _ _ _ h => h) ?_ ?_
        · (intro ev W X hb hR hO hD hj hx hax; have hS := hF W hR; obtain ⟨hb1, hb2, hb3⟩ := hb; simp only [Free.AllDeps, Free.AllOuts, Free.At, List.getElem?_cons_succ, List.getElem?_cons_zero, Array.getD_eq_getD_getElem?, List.getElem?_toArray, Option.getD_some, and_true] at hO hD; simp only [Free2.AllX, and_true] at hax; obtain ⟨b, hb9, hs0, hbl⟩ := hj.at_ ⟨9, 10, (.cells #[.int .i64 0, .int .i64 0] 29), (.cells #[.int .i64 p, .int .i64 q] 29)⟩ (by simp) hax.1 hx; have hX := hax.1; rw [hb9] at hX; have hp := hj.puts ⟨9, 10, (.cells #[.int .i64 0, .int .i64 0] 29), (.cells #[.int .i64 p, .int .i64 q] 29)⟩ (by simp) (by simp) hX hs0 hbl [(0, .int .i64 p), (1, .int .i64 q)] rfl; have q0 : W.cell? ⟨b, 0, none⟩ = some (.int .i64 0) := cell_of_heap (o := 0) hbl rfl; have q1 : W.cell? ⟨b, 1, none⟩ = some (.int .i64 0) := cell_of_heap (o := 1) hbl rfl; have p0 : ∀ o, W.frozen? ⟨b, o, none⟩ = false := fun o => frozen_of_heap (o := o) hbl; go_simp; exact ⟨(hp undef).1, (hp _).2⟩)
        simp only [List.nil_append, List.cons_append]
        refine Free2.Chain.ex ?_ 11 rfl [(8, 59), (0, 52), (1, 53), (2, 54), (3, 55), (4, 56), (5, 57), (6, 51), (7, 58), (8, 59), (9, 14)] [] (by kernel_rfl) (by kernel_rfl) rfl (Below.refl _) (fun X W v h => LL.skip h 11 v (by simp)) ?_ ?_
        rotate_left
        · (intro ev W hb hR hO hD; have hS := hF W hR; obtain ⟨hb1, hb2, hb3⟩ := hb; simp only [Free.AllDeps, Free.AllOuts, Free.At, List.getElem?_cons_succ, List.getElem?_cons_zero, Array.getD_eq_getD_getElem?, List.getElem?_toArray, Option.getD_some, and_true] at hO hD; go_simp; rfl)
        simp only [List.nil_append, List.cons_append]
        intro xs w5 hR hV hX
        obtain ⟨X, hj, hxx⟩ := hX
        obtain ⟨b10, hp_b10, hs_b10, hl_b10⟩ := hj.done ⟨9, 10, (.cells #[.int .i64 0, .int .i64 0] 29), (.cells #[.int .i64 p, .int .i64 q] 29)⟩ (by simp) (hxx 9 (show (9 : Nat) < 12 by decide)) (hxx 10 (show (10 : Nat) < 12 by decide))
        simp only [Free.AllV, Free.At, List.length_cons, List.length_nil, Nat.reduceAdd, List.getElem?_cons_succ, List.getElem?_cons_zero, true_and, and_true] at hV
        simp only [Free.putsFrom, Act.put, Nat.zero_add, Nat.reduceAdd, hV, hp_b10, List.setIfInBounds_toArray, List.set_cons_succ, List.set_cons_zero]
        have hN := hF w5 hR
        have HB_w5 := Lib.hid (HB_wr.out.trans ((hN).mono hz_wr))
        have hz_w5 : bb ≤ w5.heap.size := Nat.le_trans hz_wr (hN).size
        have HL_w5 : Free.Bel w4 w5 := Free.Bel.trans _ _ _ HL_wr (hN)
        clear HL_wr
        have FN : ∀ W, Free.Bel w5 W → W.cell? ⟨0, 0, none⟩ = some (dblF 130) ∧ W.cell? ⟨0, 1, none⟩ = some (dblF 131) ∧ W.cell? ⟨0, 2, none⟩ = some (dblF 132) ∧ W.cell? ⟨bb, 0, none⟩ = some (.int .i64 N) ∧ W.cell? ⟨bb, 1, none⟩ = some (.int .i64 lo) ∧ W.cell? ⟨bb, 2, none⟩ = some (.int .i64 hi) ∧ bb + 1 ≤ W.heap.size ∧ bb ≤ W.heap.size ∧ W.cell? ⟨b10, 0, none⟩ = some (.int .i64 p) ∧ W.cell? ⟨b10, 1, none⟩ = some (.int .i64 q) := fun W hW => by
          obtain ⟨a0, a1, a2, a3, a4, a5, a6, a7⟩ := FA W (Free.Bel.trans _ _ _ (hN) hW)
          exact ⟨a0, a1, a2, a3, a4, a5, a6, a7, keepsB hW (cell_of_heap (o := 0) hl_b10 rfl), keepsB hW (cell_of_heap (o := 1) hl_b10 rfl)⟩
        clear FA HB_wr hz_wr KR
        have FA := FN
        clear FN
        have KR : Free.Bel w5 w5 := Free.Bel.refl _
        clear hR hF hj hxx hV hN hp_b10 hs_b10 hl_b10
        go_wp2_with fail
        have hF : ∀ W, Below w5.heap.size w5.drew W → Free.Bel w5 W := fun W hW => (show Below w5.heap.size w5 W from ((Below.refl _ w5).drew).trans hW)
        refine Free2.wp_free (R := Below w5.heap.size) (J := LL w5.heap.size [⟨9, 10, (.cells #[.int .i64 0, .int .i64 0] 29), (.cells #[.int .i64 r, .int .i64 s] 29)⟩]) (by kernel_rfl) (by kernel_rfl) (Below.refl _) (fun _ _ _ => Below.trans) (LL.start (Nat.le_refl _)) ?_
        refine Free2.Chain.ex ?_ 0 rfl [] [3] (by kernel_rfl) (by kernel_rfl) rfl (Below.refl _) (fun X W v h => LL.skip h 0 v (by simp)) ?_ ?_
        rotate_left
        · (intro ev W hb hR hO hD; have hS := hF W hR; obtain ⟨hb1, hb2, hb3⟩ := hb; simp only [Free.AllDeps, Free.AllOuts, Free.At, List.getElem?_cons_succ, List.getElem?_cons_zero, Array.getD_eq_getD_getElem?, List.getElem?_toArray, Option.getD_some, and_true] at hO hD; go_simp; rfl)
        simp only [List.nil_append, List.cons_append]
        refine Free2.Chain.ex ?_ 1 rfl [] [8] (by kernel_rfl) (by kernel_rfl) rfl (Below.refl _) (fun X W v h => LL.skip h 1 v (by simp)) ?_ ?_
        rotate_left
        · (intro ev W hb hR hO hD; have hS := hF W hR; obtain ⟨hb1, hb2, hb3⟩ := hb; simp only [Free.AllDeps, Free.AllOuts, Free.At, List.getElem?_cons_succ, List.getElem?_cons_zero, Array.getD_eq_getD_getElem?, List.getElem?_toArray, Option.getD_some, and_true] at hO hD; go_simp; rfl)
        simp only [List.nil_append, List.cons_append]
        refine Free2.Chain.ex ?_ 2 rfl [] [9] (by kernel_rfl) (by kernel_rfl) rfl (Below.refl _) (fun X W v h => LL.skip h 2 v (by simp)) ?_ ?_
        rotate_left
        · (intro ev W hb hR hO hD; have hS := hF W hR; obtain ⟨hb1, hb2, hb3⟩ := hb; simp only [Free.AllDeps, Free.AllOuts, Free.At, List.getElem?_cons_succ, List.getElem?_cons_zero, Array.getD_eq_getD_getElem?, List.getElem?_toArray, Option.getD_some, and_true] at hO hD; go_simp; rfl)
        simp only [List.nil_append, List.cons_append]
        refine Free2.Chain.ex ?_ 3 rfl [] [13] (by kernel_rfl) (by kernel_rfl) rfl (Below.refl _) (fun X W v h => LL.skip h 3 v (by simp)) ?_ ?_
        rotate_left
        · (intro ev W hb hR hO hD; have hS := hF W hR; obtain ⟨hb1, hb2, hb3⟩ := hb; simp only [Free.AllDeps, Free.AllOuts, Free.At, List.getElem?_cons_succ, List.getElem?_cons_zero, Array.getD_eq_getD_getElem?, List.getElem?_toArray, Option.getD_some, and_true] at hO hD; go_simp; rfl)
        simp only [List.nil_append, List.cons_append]
        refine Free2.Chain.pr (fun v _ => v = i2 n j) 4 rfl [(2, 63), (3, 64)] [] (by kernel_rfl) (by kernel_rfl) rfl (fun _ _ _ _ h => h) ?_ ?_
        · (intro ev W X hb hR hO hD hj hx hax; have hS := hF W hR; obtain ⟨hb1, hb2, hb3⟩ := hb; simp only [Free.AllDeps, Free.AllOuts, Free.At, List.getElem?_cons_succ, List.getElem?_cons_zero, Array.getD_eq_getD_getElem?, List.getElem?_toArray, Option.getD_some, and_true] at hO hD; simp only [Free2.AllX, and_true] at hax; go_simp; refine yields_enter ?_; (with_reducible refine (drawn_any n j _).mono ?_); rintro e W2 ⟨rfl, hB2⟩; exact ⟨_, rfl, hB2.mono hj.size, rfl, (hj.bel hB2).skip 4 _ (by simp)⟩)
        simp only [List.nil_append, List.cons_append]
        refine Free2.Chain.pr (fun v _ => v = .tuple #[i2 r s, .int .i64 0]) 5 rfl [(0, 61), (1, 62), (4, 65), (4, 65)] [] (by kernel_rfl) (by kernel_rfl) rfl (fun _ _ _ _ h => h) ?_ ?_
        · (intro ev W X hb hR hO hD hj hx hax; have hS := hF W hR; obtain ⟨hb1, hb2, hb3⟩ := hb; simp only [Free.AllDeps, Free.AllOuts, Free.At, List.getElem?_cons_succ, List.getElem?_cons_zero, Array.getD_eq_getD_getElem?, List.getElem?_toArray, Option.getD_some, and_true] at hO hD; simp only [Free2.AllX, and_true] at hax; go_simp; refine yields_enter ?_; (with_reducible refine (atmost_ok N lo hi D n j r s _ hc (by omega) (by omega) HP2).mono ?_); rintro e W2 ⟨rfl, hB2⟩; exact ⟨_, rfl, hB2.mono hj.size, rfl, (hj.bel hB2).skip 5 _ (by simp)⟩)
        simp only [List.nil_append, List.cons_append]
        refine Free2.Chain.ex ?_ 6 rfl [(5, 66)] [] (by kernel_rfl) (by kernel_rfl) rfl (Below.refl _) (fun X W v h => LL.skip h 6 v (by simp)) ?_ ?_
        rotate_left
        · (intro ev W hb hR hO hD; have hS := hF W hR; obtain ⟨hb1, hb2, hb3⟩ := hb; simp only [Free.AllDeps, Free.AllOuts, Free.At, List.getElem?_cons_succ, List.getElem?_cons_zero, Array.getD_eq_getD_getElem?, List.getElem?_toArray, Option.getD_some, and_true] at hO hD; go_simp; rfl)
        simp only [List.nil_append, List.cons_append]
        refine Free2.Chain.ex ?_ 7 rfl [(6, 60)] [] (by kernel_rfl) (by kernel_rfl) rfl (Below.refl _) (fun X W v h => LL.skip h 7 v (by simp)) ?_ ?_
        rotate_left
        · (intro ev W hb hR hO hD; have hS := hF W hR; obtain ⟨hb1, hb2, hb3⟩ := hb; simp only [Free.AllDeps, Free.AllOuts, Free.At, List.getElem?_cons_succ, List.getElem?_cons_zero, Array.getD_eq_getD_getElem?, List.getElem?_toArray, Option.getD_some, and_true] at hO hD; go_simp; rfl)
        simp only [List.nil_append, List.cons_append]
        refine Free2.Chain.ex ?_ 8 rfl [(6, 60)] [] (by kernel_rfl) (by kernel_rfl) rfl (Below.refl _) (fun X W v h => LL.skip h 8 v (by simp)) ?_ ?_
        rotate_left
        · (intro ev W hb hR hO hD; have hS := hF W hR; obtain ⟨hb1, hb2, hb3⟩ := hb; simp only [Free.AllDeps, Free.AllOuts, Free.At, List.getElem?_cons_succ, List.getElem?_cons_zero, Array.getD_eq_getD_getElem?, List.getElem?_toArray, Option.getD_some, and_true] at hO hD; go_simp; rfl)
        simp only [List.nil_append, List.cons_append]
        refine Free2.Chain.pr (fun v _ => ∃ b, v = ptr b) 9 rfl [] [] (by kernel_rfl) (by kernel_rfl) rfl (fun _ _ _ _ h => h) ?_ ?_
        · (intro ev W X hb hR hO hD hj hx hax; have hS := hF W hR; obtain ⟨hb1, hb2, hb3⟩ := hb; simp only [Free.AllDeps, Free.AllOuts, Free.At, List.getElem?_cons_succ, List.getElem?_cons_zero, Array.getD_eq_getD_getElem?, List.getElem?_toArray, Option.getD_some, and_true] at hO hD; simp only [Free2.AllX, and_true] at hax; go_simp; exact ⟨(Below.refl _ W).alloc hj.size _, ⟨_, rfl⟩, hj.new ⟨9, 10, (.cells #[.int .i64 0, .int .i64 0] 29), (.cells #[.int .i64 r, .int .i64 s] 29)⟩ (by simp) (by simp) hx⟩)
        simp only [List.nil_append, List.cons_append]
        refine Free2.Chain.pr (fun _ _ => True) 10 rfl [(9, 16), (7, 67), (5, 66), (0, 61), (1, 62), (2, 63), (3, 64), (4, 65), (5, 66), (6, 60), (7, 67), (9, 16)] [] (by kernel_rfl) (by kernel_rfl) rfl (fun _ _ _ _ h => h) ?_ ?_
        · (intro ev W X hb hR hO hD hj hx hax; have hS := hF W hR; obtain ⟨hb1, hb2, hb3⟩ := hb; simp only [Free.AllDeps, Free.AllOuts, Free.At, List.getElem?_cons_succ, List.getElem?_cons_zero, Array.getD_eq_getD_getElem?, List.getElem?_toArray, Option.getD_some, and_true] at hO hD; simp only [Free2.AllX, and_true] at hax; obtain ⟨b, hb9, hs0, hbl⟩ := hj.at_ ⟨9, 10, (.cells #[.int .i64 0, .int .i64 0] 29), (.cells #[.int .i64 r, .int .i64 s] 29)⟩ (by simp) hax.1 hx; have hX := hax.1; rw [hb9] at hX; have hp := hj.puts ⟨9, 10, (.cells #[.int .i64 0, .int .i64 0] 29), (.cells #[.int .i64 r, .int .i64 s] 29)⟩ (by simp) (by simp) hX hs0 hbl [(0, .int .i64 r), (1, .int .i64 s)] rfl; have q0 : W.cell? ⟨b, 0, none⟩ = some (.int .i64 0) := cell_of_heap (o := 0) hbl rfl; have q1 : W.cell? ⟨b, 1, none⟩ = some (.int .i64 0) := cell_of_heap (o := 1) hbl rfl; have p0 : ∀ o, W.frozen? ⟨b, o, none⟩ = false := fun o => frozen_of_heap (o := o) hbl; go_simp; exact ⟨(hp undef).1, (hp _).2⟩)
        simp only [List.nil_append, List.cons_append]
        refine Free2.Chain.ex ?_ 11 rfl [(8, 68), (0, 61), (1, 62), (2, 63), (3, 64), (4, 65), (5, 66), (6, 60), (7, 67), (8, 68), (9, 16)] [] (by kernel_rfl) (by kernel_rfl) rfl (Below.refl _) (fun X W v h => LL.skip h 11 v (by simp)) ?_ ?_
        rotate_left
        · (intro ev W hb hR hO hD; have hS := hF W hR; obtain ⟨hb1, hb2, hb3⟩ := hb; simp only [Free.AllDeps, Free.AllOuts, Free.At, List.getElem?_cons_succ, List.getElem?_cons_zero, Array.getD_eq_getD_getElem?, List.getElem?_toArray, Option.getD_some, and_true] at hO hD; go_simp; rfl)
        simp only [List.nil_append, List.cons_append]
        intro xs w6 hR hV hX
        obtain ⟨X, hj, hxx⟩ := hX
        obtain ⟨b11, hp_b11, hs_b11, hl_b11⟩ := hj.done ⟨9, 10, (.cells #[.int .i64 0, .int .i64 0] 29), (.cells #[.int .i64 r, .int .i64 s] 29)⟩ (by simp) (hxx 9 (show (9 : Nat) < 12 by decide)) (hxx 10 (show (10 : Nat) < 12 by decide))
        simp only [Free.AllV, Free.At, List.length_cons, List.length_nil, Nat.reduceAdd, List.getElem?_cons_succ, List.getElem?_cons_zero, true_and, and_true] at hV
        simp only [Free.putsFrom, Act.put, Nat.zero_add, Nat.reduceAdd, hV, hp_b11, List.setIfInBounds_toArray, List.set_cons_succ, List.set_cons_zero]
        have hN := hF w6 hR
        have HB_w6 := Lib.hid (HB_w5.out.trans ((hN).mono hz_w5))
        have hz_w6 : bb ≤ w6.heap.size := Nat.le_trans hz_w5 (hN).size
        have HL_w6 : Free.Bel w4 w6 := Free.Bel.trans _ _ _ HL_w5 (hN)
        clear HL_w5
        have FN : ∀ W, Free.Bel w6 W → W.cell? ⟨0, 0, none⟩ = some (dblF 130) ∧ W.cell? ⟨0, 1, none⟩ = some (dblF 131) ∧ W.cell? ⟨0, 2, none⟩ = some (dblF 132) ∧ W.cell? ⟨bb, 0, none⟩ = some (.int .i64 N) ∧ W.cell? ⟨bb, 1, none⟩ = some (.int .i64 lo) ∧ W.cell? ⟨bb, 2, none⟩ = some (.int .i64 hi) ∧ bb + 1 ≤ W.heap.size ∧ bb ≤ W.heap.size ∧ W.cell? ⟨b10, 0, none⟩ = some (.int .i64 p) ∧ W.cell? ⟨b10, 1, none⟩ = some (.int .i64 q) ∧ W.cell? ⟨b11, 0, none⟩ = some (.int .i64 r) ∧ W.cell? ⟨b11, 1, none⟩ = some (.int .i64 s) := fun W hW => by
          obtain ⟨a0, a1, a2, a3, a4, a5, a6, a7, a8, a9⟩ := FA W (Free.Bel.trans _ _ _ (hN) hW)
          exact ⟨a0, a1, a2, a3, a4, a5, a6, a7, a8, a9, keepsB hW (cell_of_heap (o := 0) hl_b11 rfl), keepsB hW (cell_of_heap (o := 1) hl_b11 rfl)⟩
        clear FA HB_w5 hz_w5 KR
        have FA := FN
        clear FN
        have KR : Free.Bel w6 w6 := Free.Bel.refl _
        clear hR hF hj hxx hV hN hp_b11 hs_b11 hl_b11
        go_wp2_with fail
        refine (over_any wy al p q _ (by omega) (by omega) (by omega) (by omega) HO).mono ?_
        rintro e w7 ⟨rfl, hB⟩
        have HB_w7 := Lib.hid (HB_w6.out.trans ((hB).mono hz_w6))
        have hz_w7 : bb ≤ w7.heap.size := Nat.le_trans hz_w6 (hB).size
        have HL_w7 : Free.Bel w4 w7 := Free.Bel.trans _ _ _ HL_w6 (hB)
        clear HL_w6
        have FN : ∀ W, Free.Bel w7 W → W.cell? ⟨0, 0, none⟩ = some (dblF 130) ∧ W.cell? ⟨0, 1, none⟩ = some (dblF 131) ∧ W.cell? ⟨0, 2, none⟩ = some (dblF 132) ∧ W.cell? ⟨bb, 0, none⟩ = some (.int .i64 N) ∧ W.cell? ⟨bb, 1, none⟩ = some (.int .i64 lo) ∧ W.cell? ⟨bb, 2, none⟩ = some (.int .i64 hi) ∧ bb + 1 ≤ W.heap.size ∧ bb ≤ W.heap.size ∧ W.cell? ⟨b10, 0, none⟩ = some (.int .i64 p) ∧ W.cell? ⟨b10, 1, none⟩ = some (.int .i64 q) ∧ W.cell? ⟨b11, 0, none⟩ = some (.int .i64 r) ∧ W.cell? ⟨b11, 1, none⟩ = some (.int .i64 s) := fun W hW => by
          obtain ⟨a0, a1, a2, a3, a4, a5, a6, a7, a8, a9, a10, a11⟩ := FA W (Free.Bel.trans _ _ _ (hB) hW)
          exact ⟨a0, a1, a2, a3, a4, a5, a6, a7, a8, a9, a10, a11⟩
        clear FA HB_w6 hz_w6 KR
        have FA := FN
        clear FN
        have KR : Free.Bel w7 w7 := Free.Bel.refl _
        clear hB
        go_wp2_with fail
        refine (over_any (F0 + wy) al r s _ (by omega) (by omega) (by omega) (by omega) HO2).mono ?_
        rintro e w8 ⟨rfl, hB⟩
        have HB_w8 := Lib.hid (HB_w7.out.trans ((hB).mono hz_w7))
        have hz_w8 : bb ≤ w8.heap.size := Nat.le_trans hz_w7 (hB).size
        have HL_w8 : Free.Bel w4 w8 := Free.Bel.trans _ _ _ HL_w7 (hB)
        clear HL_w7
        have FN : ∀ W, Free.Bel w8 W → W.cell? ⟨0, 0, none⟩ = some (dblF 130) ∧ W.cell? ⟨0, 1, none⟩ = some (dblF 131) ∧ W.cell? ⟨0, 2, none⟩ = some (dblF 132) ∧ W.cell? ⟨bb, 0, none⟩ = some (.int .i64 N) ∧ W.cell? ⟨bb, 1, none⟩ = some (.int .i64 lo) ∧ W.cell? ⟨bb, 2, none⟩ = some (.int .i64 hi) ∧ bb + 1 ≤ W.heap.size ∧ bb ≤ W.heap.size ∧ W.cell? ⟨b10, 0, none⟩ = some (.int .i64 p) ∧ W.cell? ⟨b10, 1, none⟩ = some (.int .i64 q) ∧ W.cell? ⟨b11, 0, none⟩ = some (.int .i64 r) ∧ W.cell? ⟨b11, 1, none⟩ = some (.int .i64 s) := fun W hW => by
          obtain ⟨a0, a1, a2, a3, a4, a5, a6, a7, a8, a9, a10, a11⟩ := FA W (Free.Bel.trans _ _ _ (hB) hW)
          exact ⟨a0, a1, a2, a3, a4, a5, a6, a7, a8, a9, a10, a11⟩
        clear FA HB_w7 hz_w7 KR
        have FA := FN
        clear FN
        have KR : Free.Bel w8 w8 := Free.Bel.refl _
        clear hB
        go_wp2_with fail
        go_roundw
        case rel => exact ⟨j + 1, by omega, by go_num, by rw [HFS.out.1], by rw [HFS.out.2], HL_w8⟩
        case measure => first | (simp [intOf]; done) | (simp [intOf]; omega)
      · obtain rfl : j = n.toNat + 1 := by omega
        rw [HFE.out]
        obtain ⟨p, q, hpq⟩ : ∃ p q, partV (D * n).toNat N.toNat = i2 p q := ⟨_, _, rfl⟩
        have HP := Lib.hid hpq
        have hmm := mean_mid N D n (by omega) (by omega) (by omega)
        rw [hpq, show (n + 1).toNat = n.toNat + 1 by omega, HAL.out] at hmm
        have HP2 := Lib.hid hmm
        clear hpq hmm
        have hmi := midI_bound N D n (fun k => k) (by omega) (by omega) (by omega) (n.toNat + 1) (fun k hk => by constructor <;> omega)
        obtain ⟨M0, hM0⟩ : ∃ x, midI N D n (fun k => k) (n.toNat + 1) = x := ⟨_, rfl⟩
        rw [hM0] at hmi HP2 ⊢
        clear hM0
        have dn0 : 0 ≤ D * n := Int.mul_nonneg (by omega) (by omega)
        have dn1 : D * n ≤ 36 * 36 := Int.mul_le_mul (by omega) (by omega) (by omega) (by omega)
        have u4 : IntKind.i64.wrap (D * n) = D * n := IntWalk.i64_in _ (by omega)
        go_wp2_with fail
        refine (mean_ok N lo hi D n p q _ hc (by omega) (by omega) HP).mono ?_
        rintro e w9 ⟨rfl, hB⟩
        have HB_w9 := Lib.hid (HB_wr.out.trans ((hB).mono hz_wr))
        have hz_w9 : bb ≤ w9.heap.size := Nat.le_trans hz_wr (hB).size
        have HL_w9 : Free.Bel w4 w9 := Free.Bel.trans _ _ _ HL_wr (hB)
        clear HL_wr
        have FN : ∀ W, Free.Bel w9 W → W.cell? ⟨0, 0, none⟩ = some (dblF 130) ∧ W.cell? ⟨0, 1, none⟩ = some (dblF 131) ∧ W.cell? ⟨0, 2, none⟩ = some (dblF 132) ∧ W.cell? ⟨bb, 0, none⟩ = some (.int .i64 N) ∧ W.cell? ⟨bb, 1, none⟩ = some (.int .i64 lo) ∧ W.cell? ⟨bb, 2, none⟩ = some (.int .i64 hi) ∧ bb + 1 ≤ W.heap.size ∧ bb ≤ W.heap.size := fun W hW => by
          obtain ⟨a0, a1, a2, a3, a4, a5, a6, a7⟩ := FA W (Free.Bel.trans _ _ _ (hB) hW)
          exact ⟨a0, a1, a2, a3, a4, a5, a6, a7⟩
        clear FA HB_wr hz_wr KR
        have FA := FN
        clear FN
        have KR : Free.Bel w9 w9 := Free.Bel.refl _
        clear hB
        have KA0 : Free.Bel w9 (w9.alloc (.cells #[.int .i64 p, .int .i64 q] 29)) := Bel.allocT (Free.Bel.refl _) _
        go_wp2_with fail
        clear KA0
        have hN : Free.Bel w9 (w9.alloc (.cells #[.int .i64 p, .int .i64 q] 29)) := (Bel.allocT (Free.Bel.refl w9) _)
        have n_g90_0 : (w9.alloc (.cells #[.int .i64 p, .int .i64 q] 29)).cell? ⟨w9.heap.size, 0, none⟩ = some (.int .i64 p) := by simp [go_sem]
        have n_g90_1 : (w9.alloc (.cells #[.int .i64 p, .int .i64 q] 29)).cell? ⟨w9.heap.size, 1, none⟩ = some (.int .i64 q) := by simp [go_sem]
        generalize (w9.alloc (.cells #[.int .i64 p, .int .i64 q] 29)) = w10 at *
        obtain ⟨g90, hgz⟩ : ∃ x, x = w9.heap.size := ⟨_, rfl⟩
        rw [← hgz] at n_g90_0 n_g90_1 ⊢
        clear hgz
        have HB_w10 := Lib.hid (HB_w9.out.trans ((hN).mono hz_w9))
        have hz_w10 : bb ≤ w10.heap.size := Nat.le_trans hz_w9 (hN).size
        have HL_w10 : Free.Bel w4 w10 := Free.Bel.trans _ _ _ HL_w9 (hN)
        clear HL_w9
        have FN : ∀ W, Free.Bel w10 W → W.cell? ⟨0, 0, none⟩ = some (dblF 130) ∧ W.cell? ⟨0, 1, none⟩ = some (dblF 131) ∧ W.cell? ⟨0, 2, none⟩ = some (dblF 132) ∧ W.cell? ⟨bb, 0, none⟩ = some (.int .i64 N) ∧ W.cell? ⟨bb, 1, none⟩ = some (.int .i64 lo) ∧ W.cell? ⟨bb, 2, none⟩ = some (.int .i64 hi) ∧ bb + 1 ≤ W.heap.size ∧ bb ≤ W.heap.size ∧ W.cell? ⟨g90, 0, none⟩ = some (.int .i64 p) ∧ W.cell? ⟨g90, 1, none⟩ = some (.int .i64 q) := fun W hW => by
          obtain ⟨a0, a1, a2, a3, a4, a5, a6, a7⟩ := FA W (Free.Bel.trans _ _ _ (hN) hW)
          exact ⟨a0, a1, a2, a3, a4, a5, a6, a7, keepsB hW n_g90_0, keepsB hW n_g90_1⟩
        clear FA HB_w9 hz_w9 KR
        have FA := FN
        clear FN
        have KR : Free.Bel w10 w10 := Free.Bel.refl _
        clear hN n_g90_0 n_g90_1
        have hF : ∀ W, Free.Bel w10.drew W → Free.Bel w10 W := fun W hW => Free.Bel.trans _ _ _ (Bel.drewT (Free.Bel.refl _)) hW
        refine Free.wp_free (R := Free.Bel) (by kernel_rfl) (by kernel_rfl) Free.Bel.refl Free.Bel.trans ?_
        refine Free.Chain.ex ?_ [] [7] (by kernel_rfl) (by kernel_rfl) rfl Free.Bel.refl ?_ ?_
        rotate_left
        · (intro ev W hb hR hO hD; have hS := hF W hR; obtain ⟨hb1, hb2, hb3⟩ := hb; simp only [Free.AllDeps, Free.AllOuts, Free.At, List.getElem?_cons_succ, List.getElem?_cons_zero, Array.getD_eq_getD_getElem?, List.getElem?_toArray, Option.getD_some, and_true] at hO hD; go_simp; rfl)
        simp only [List.nil_append, List.cons_append]
        refine Free.Chain.ex ?_ [(0, 114)] [] (by kernel_rfl) (by kernel_rfl) rfl Free.Bel.refl ?_ ?_
        rotate_left
        · (intro ev W hb hR hO hD; have hS := hF W hR; obtain ⟨hb1, hb2, hb3⟩ := hb; simp only [Free.AllDeps, Free.AllOuts, Free.At, List.getElem?_cons_succ, List.getElem?_cons_zero, Array.getD_eq_getD_getElem?, List.getElem?_toArray, Option.getD_some, and_true] at hO hD; go_simp; rfl)
        simp only [List.nil_append, List.cons_append]
        refine Free.Chain.exG ?_ [(1, 115)] [11] 1 true 115 (by kernel_rfl) (by kernel_rfl) rfl (by kernel_rfl) Free.Bel.refl ?_ ?_
        rotate_left
        · (intro ev W hb hR hO hD; have hS := hF W hR; obtain ⟨hb1, hb2, hb3⟩ := hb; simp only [Free.AllDeps, Free.AllOuts, Free.At, List.getElem?_cons_succ, List.getElem?_cons_zero, Array.getD_eq_getD_getElem?, List.getElem?_toArray, Option.getD_some, and_true] at hO hD; refine ⟨by simp [hD], ?_⟩; go_simp; rfl)
        simp only [List.nil_append, List.cons_append]
        refine Free.Chain.exG ?_ [(1, 115)] [10] 1 true 115 (by kernel_rfl) (by kernel_rfl) rfl (by kernel_rfl) Free.Bel.refl ?_ ?_
        rotate_left
        · (intro ev W hb hR hO hD; have hS := hF W hR; obtain ⟨hb1, hb2, hb3⟩ := hb; simp only [Free.AllDeps, Free.AllOuts, Free.At, List.getElem?_cons_succ, List.getElem?_cons_zero, Array.getD_eq_getD_getElem?, List.getElem?_toArray, Option.getD_some, and_true] at hO hD; refine ⟨by simp [hD], ?_⟩; go_simp; rfl)
        simp only [List.nil_append, List.cons_append]
        refine Free.Chain.exG ?_ [(2, 116), (3, 117), (1, 115)] [] 1 true 115 (by kernel_rfl) (by kernel_rfl) rfl (by kernel_rfl) Free.Bel.refl ?_ ?_
        rotate_left
        · (intro ev W hb hR hO hD; have hS := hF W hR; obtain ⟨hb1, hb2, hb3⟩ := hb; simp only [Free.AllDeps, Free.AllOuts, Free.At, List.getElem?_cons_succ, List.getElem?_cons_zero, Array.getD_eq_getD_getElem?, List.getElem?_toArray, Option.getD_some, and_true] at hO hD; refine ⟨by simp [hD], ?_⟩; go_simp; rfl)
        simp only [List.nil_append, List.cons_append]
        refine Free.Chain.ex ?_ [(1, 115), (4, 118)] [] (by kernel_rfl) (by kernel_rfl) rfl Free.Bel.refl ?_ ?_
        rotate_left
        · (intro ev W hb hR hO hD; have hS := hF W hR; obtain ⟨hb1, hb2, hb3⟩ := hb; simp only [Free.AllDeps, Free.AllOuts, Free.At, List.getElem?_cons_succ, List.getElem?_cons_zero, Array.getD_eq_getD_getElem?, List.getElem?_toArray, Option.getD_some, and_true] at hO hD; go_simp; rfl)
        simp only [List.nil_append, List.cons_append]
        refine Free.Chain.ex ?_ [(5, 119), (1, 115)] [] (by kernel_rfl) (by kernel_rfl) rfl Free.Bel.refl ?_ ?_
        rotate_left
        · (intro ev W hb hR hO hD; have hS := hF W hR; obtain ⟨hb1, hb2, hb3⟩ := hb; simp only [Free.AllDeps, Free.AllOuts, Free.At, List.getElem?_cons_succ, List.getElem?_cons_zero, Array.getD_eq_getD_getElem?, List.getElem?_toArray, Option.getD_some, and_true] at hO hD; go_simp; rfl)
        simp only [List.nil_append, List.cons_append]
        refine Free.Chain.exG ?_ [(6, 120)] [23] 6 true 120 (by kernel_rfl) (by kernel_rfl) rfl (by kernel_rfl) Free.Bel.refl ?_ ?_
        rotate_left
        · (intro ev W hb hR hO hD; have hS := hF W hR; obtain ⟨hb1, hb2, hb3⟩ := hb; simp only [Free.AllDeps, Free.AllOuts, Free.At, List.getElem?_cons_succ, List.getElem?_cons_zero, Array.getD_eq_getD_getElem?, List.getElem?_toArray, Option.getD_some, and_true] at hO hD; refine ⟨by simp [hD], ?_⟩; go_simp; rfl)
        simp only [List.nil_append, List.cons_append]
        refine Free.Chain.exG ?_ [(7, 121), (6, 120)] [] 6 true 120 (by kernel_rfl) (by kernel_rfl) rfl (by kernel_rfl) Free.Bel.refl ?_ ?_
        rotate_left
        · (intro ev W hb hR hO hD; have hS := hF W hR; obtain ⟨hb1, hb2, hb3⟩ := hb; simp only [Free.AllDeps, Free.AllOuts, Free.At, List.getElem?_cons_succ, List.getElem?_cons_zero, Array.getD_eq_getD_getElem?, List.getElem?_toArray, Option.getD_some, and_true] at hO hD; refine ⟨by simp [hD], ?_⟩; go_simp; rfl)
        simp only [List.nil_append, List.cons_append]
        refine Free.Chain.ex ?_ [(6, 120), (8, 122)] [] (by kernel_rfl) (by kernel_rfl) rfl Free.Bel.refl ?_ ?_
        rotate_left
        · (intro ev W hb hR hO hD; have hS := hF W hR; obtain ⟨hb1, hb2, hb3⟩ := hb; simp only [Free.AllDeps, Free.AllOuts, Free.At, List.getElem?_cons_succ, List.getElem?_cons_zero, Array.getD_eq_getD_getElem?, List.getElem?_toArray, Option.getD_some, and_true] at hO hD; go_simp; rfl)
        simp only [List.nil_append, List.cons_append]
        refine Free.Chain.ex ?_ [(9, 123), (6, 120)] [] (by kernel_rfl) (by kernel_rfl) rfl Free.Bel.refl ?_ ?_
        rotate_left
        · (intro ev W hb hR hO hD; have hS := hF W hR; obtain ⟨hb1, hb2, hb3⟩ := hb; simp only [Free.AllDeps, Free.AllOuts, Free.At, List.getElem?_cons_succ, List.getElem?_cons_zero, Array.getD_eq_getD_getElem?, List.getElem?_toArray, Option.getD_some, and_true] at hO hD; go_simp; rfl)
        simp only [List.nil_append, List.cons_append]
        refine Free.Chain.exG ?_ [(10, 124)] [22] 10 true 124 (by kernel_rfl) (by kernel_rfl) rfl (by kernel_rfl) Free.Bel.refl ?_ ?_
        rotate_left
        · (intro ev W hb hR hO hD; have hS := hF W hR; obtain ⟨hb1, hb2, hb3⟩ := hb; simp only [Free.AllDeps, Free.AllOuts, Free.At, List.getElem?_cons_succ, List.getElem?_cons_zero, Array.getD_eq_getD_getElem?, List.getElem?_toArray, Option.getD_some, and_true] at hO hD; refine ⟨by simp [hD], ?_⟩; go_simp; rfl)
        simp only [List.nil_append, List.cons_append]
        refine Free.Chain.exG ?_ [(10, 124)] [12] 10 true 124 (by kernel_rfl) (by kernel_rfl) rfl (by kernel_rfl) Free.Bel.refl ?_ ?_
        rotate_left
        · (intro ev W hb hR hO hD; have hS := hF W hR; obtain ⟨hb1, hb2, hb3⟩ := hb; simp only [Free.AllDeps, Free.AllOuts, Free.At, List.getElem?_cons_succ, List.getElem?_cons_zero, Array.getD_eq_getD_getElem?, List.getElem?_toArray, Option.getD_some, and_true] at hO hD; refine ⟨by simp [hD], ?_⟩; go_simp; rfl)
        simp only [List.nil_append, List.cons_append]
        refine Free.Chain.exG ?_ [(10, 124)] [10] 10 true 124 (by kernel_rfl) (by kernel_rfl) rfl (by kernel_rfl) Free.Bel.refl ?_ ?_
        rotate_left
        · (intro ev W hb hR hO hD; have hS := hF W hR; obtain ⟨hb1, hb2, hb3⟩ := hb; simp only [Free.AllDeps, Free.AllOuts, Free.At, List.getElem?_cons_succ, List.getElem?_cons_zero, Array.getD_eq_getD_getElem?, List.getElem?_toArray, Option.getD_some, and_true] at hO hD; refine ⟨by simp [hD], ?_⟩; go_simp; rfl)
        simp only [List.nil_append, List.cons_append]
        refine Free.Chain.prG (fun v _ => v = i2 p q) [(12, 126), (13, 127), (10, 124), (10, 124)] [] 10 true 124 (by kernel_rfl) (by kernel_rfl) rfl (by kernel_rfl) (fun _ _ _ _ h => h) ?_ ?_
        · (intro ev W hb hR hO hD; have hS := hF W hR; obtain ⟨hb1, hb2, hb3⟩ := hb; simp only [Free.AllDeps, Free.AllOuts, Free.At, List.getElem?_cons_succ, List.getElem?_cons_zero, Array.getD_eq_getD_getElem?, List.getElem?_toArray, Option.getD_some, and_true] at hO hD; refine ⟨by simp [hD], ?_⟩; go_simp; refine yields_enter ?_; (with_reducible refine (least_int M0 al (by omega) (by omega) (by omega) (by omega) _ HP2.out _).mono ?_); rintro e W2 ⟨rfl, hB2⟩; exact ⟨_, rfl, hB2, rfl⟩)
        simp only [List.nil_append, List.cons_append]
        refine Free.Chain.exG ?_ [(11, 125), (14, 128), (10, 124)] [] 10 true 124 (by kernel_rfl) (by kernel_rfl) rfl (by kernel_rfl) Free.Bel.refl ?_ ?_
        rotate_left
        · (intro ev W hb hR hO hD; have hS := hF W hR; obtain ⟨hb1, hb2, hb3⟩ := hb; simp only [Free.AllDeps, Free.AllOuts, Free.At, List.getElem?_cons_succ, List.getElem?_cons_zero, Array.getD_eq_getD_getElem?, List.getElem?_toArray, Option.getD_some, and_true] at hO hD; refine ⟨by simp [hD], ?_⟩; go_simp; rfl)
        simp only [List.nil_append, List.cons_append]
        refine Free.Chain.ex ?_ [(10, 124), (15, 129)] [] (by kernel_rfl) (by kernel_rfl) rfl Free.Bel.refl ?_ ?_
        rotate_left
        · (intro ev W hb hR hO hD; have hS := hF W hR; obtain ⟨hb1, hb2, hb3⟩ := hb; simp only [Free.AllDeps, Free.AllOuts, Free.At, List.getElem?_cons_succ, List.getElem?_cons_zero, Array.getD_eq_getD_getElem?, List.getElem?_toArray, Option.getD_some, and_true] at hO hD; go_simp; rfl)
        simp only [List.nil_append, List.cons_append]
        refine Free.Chain.ex ?_ [(16, 130), (14, 128)] [] (by kernel_rfl) (by kernel_rfl) rfl Free.Bel.refl ?_ ?_
        rotate_left
        · (intro ev W hb hR hO hD; have hS := hF W hR; obtain ⟨hb1, hb2, hb3⟩ := hb; simp only [Free.AllDeps, Free.AllOuts, Free.At, List.getElem?_cons_succ, List.getElem?_cons_zero, Array.getD_eq_getD_getElem?, List.getElem?_toArray, Option.getD_some, and_true] at hO hD; go_simp; rfl)
        simp only [List.nil_append, List.cons_append]
        refine Free.Chain.exG ?_ [(17, 131)] [22] 17 true 131 (by kernel_rfl) (by kernel_rfl) rfl (by kernel_rfl) Free.Bel.refl ?_ ?_
        rotate_left
        · (intro ev W hb hR hO hD; have hS := hF W hR; obtain ⟨hb1, hb2, hb3⟩ := hb; simp only [Free.AllDeps, Free.AllOuts, Free.At, List.getElem?_cons_succ, List.getElem?_cons_zero, Array.getD_eq_getD_getElem?, List.getElem?_toArray, Option.getD_some, and_true] at hO hD; refine ⟨by simp [hD], ?_⟩; go_simp; rfl)
        simp only [List.nil_append, List.cons_append]
        refine Free.Chain.exG ?_ [(17, 131)] [8] 17 true 131 (by kernel_rfl) (by kernel_rfl) rfl (by kernel_rfl) Free.Bel.refl ?_ ?_
        rotate_left
        · (intro ev W hb hR hO hD; have hS := hF W hR; obtain ⟨hb1, hb2, hb3⟩ := hb; simp only [Free.AllDeps, Free.AllOuts, Free.At, List.getElem?_cons_succ, List.getElem?_cons_zero, Array.getD_eq_getD_getElem?, List.getElem?_toArray, Option.getD_some, and_true] at hO hD; refine ⟨by simp [hD], ?_⟩; go_simp; rfl)
        simp only [List.nil_append, List.cons_append]
        refine Free.Chain.exG ?_ [(17, 131)] [9] 17 true 131 (by kernel_rfl) (by kernel_rfl) rfl (by kernel_rfl) Free.Bel.refl ?_ ?_
        rotate_left
        · (intro ev W hb hR hO hD; have hS := hF W hR; obtain ⟨hb1, hb2, hb3⟩ := hb; simp only [Free.AllDeps, Free.AllOuts, Free.At, List.getElem?_cons_succ, List.getElem?_cons_zero, Array.getD_eq_getD_getElem?, List.getElem?_toArray, Option.getD_some, and_true] at hO hD; refine ⟨by simp [hD], ?_⟩; go_simp; rfl)
        simp only [List.nil_append, List.cons_append]
        refine Free.Chain.exG ?_ [(19, 133), (20, 134), (17, 131)] [] 17 true 131 (by kernel_rfl) (by kernel_rfl) rfl (by kernel_rfl) Free.Bel.refl ?_ ?_
        rotate_left
        · (intro ev W hb hR hO hD; have hS := hF W hR; obtain ⟨hb1, hb2, hb3⟩ := hb; simp only [Free.AllDeps, Free.AllOuts, Free.At, List.getElem?_cons_succ, List.getElem?_cons_zero, Array.getD_eq_getD_getElem?, List.getElem?_toArray, Option.getD_some, and_true] at hO hD; refine ⟨by simp [hD], ?_⟩; go_simp; rfl)
        simp only [List.nil_append, List.cons_append]
        refine Free.Chain.exG ?_ [(17, 131)] [3] 17 true 131 (by kernel_rfl) (by kernel_rfl) rfl (by kernel_rfl) Free.Bel.refl ?_ ?_
        rotate_left
        · (intro ev W hb hR hO hD; have hS := hF W hR; obtain ⟨hb1, hb2, hb3⟩ := hb; simp only [Free.AllDeps, Free.AllOuts, Free.At, List.getElem?_cons_succ, List.getElem?_cons_zero, Array.getD_eq_getD_getElem?, List.getElem?_toArray, Option.getD_some, and_true] at hO hD; refine ⟨by simp [hD], ?_⟩; go_simp; rfl)
        simp only [List.nil_append, List.cons_append]
        refine Free.Chain.exG ?_ [(22, 136), (17, 131)] [] 17 true 131 (by kernel_rfl) (by kernel_rfl) rfl (by kernel_rfl) Free.Bel.refl ?_ ?_
        rotate_left
        · (intro ev W hb hR hO hD; have hS := hF W hR; obtain ⟨hb1, hb2, hb3⟩ := hb; simp only [Free.AllDeps, Free.AllOuts, Free.At, List.getElem?_cons_succ, List.getElem?_cons_zero, Array.getD_eq_getD_getElem?, List.getElem?_toArray, Option.getD_some, and_true] at hO hD; refine ⟨by simp [hD], ?_⟩; go_simp; rfl)
        simp only [List.nil_append, List.cons_append]
        refine Free.Chain.prG (fun v _ => v = i2 p q) [(21, 135), (23, 137), (17, 131), (17, 131)] [] 17 true 131 (by kernel_rfl) (by kernel_rfl) rfl (by kernel_rfl) (fun _ _ _ _ h => h) ?_ ?_
        · (intro ev W hb hR hO hD; have hS := hF W hR; obtain ⟨hb1, hb2, hb3⟩ := hb; simp only [Free.AllDeps, Free.AllOuts, Free.At, List.getElem?_cons_succ, List.getElem?_cons_zero, Array.getD_eq_getD_getElem?, List.getElem?_toArray, Option.getD_some, and_true] at hO hD; refine ⟨by simp [hD], ?_⟩; go_simp; refine yields_enter ?_; (with_reducible refine (least_int (D * n) N (by omega) (by omega) (by omega) (by omega) _ HP.out _).mono ?_); rintro e W2 ⟨rfl, hB2⟩; exact ⟨_, rfl, hB2, rfl⟩)
        simp only [List.nil_append, List.cons_append]
        refine Free.Chain.exG ?_ [(18, 132), (24, 138), (17, 131)] [] 17 true 131 (by kernel_rfl) (by kernel_rfl) rfl (by kernel_rfl) Free.Bel.refl ?_ ?_
        rotate_left
        · (intro ev W hb hR hO hD; have hS := hF W hR; obtain ⟨hb1, hb2, hb3⟩ := hb; simp only [Free.AllDeps, Free.AllOuts, Free.At, List.getElem?_cons_succ, List.getElem?_cons_zero, Array.getD_eq_getD_getElem?, List.getElem?_toArray, Option.getD_some, and_true] at hO hD; refine ⟨by simp [hD], ?_⟩; go_simp; rfl)
        simp only [List.nil_append, List.cons_append]
        refine Free.Chain.ex ?_ [(17, 131), (25, 139)] [] (by kernel_rfl) (by kernel_rfl) rfl Free.Bel.refl ?_ ?_
        rotate_left
        · (intro ev W hb hR hO hD; have hS := hF W hR; obtain ⟨hb1, hb2, hb3⟩ := hb; simp only [Free.AllDeps, Free.AllOuts, Free.At, List.getElem?_cons_succ, List.getElem?_cons_zero, Array.getD_eq_getD_getElem?, List.getElem?_toArray, Option.getD_some, and_true] at hO hD; go_simp; rfl)
        simp only [List.nil_append, List.cons_append]
        refine Free.Chain.ex ?_ [(26, 140), (24, 138), (0, 114), (1, 115), (2, 116), (3, 117), (4, 118), (5, 119), (6, 120), (7, 121), (8, 122), (9, 123), (10, 124), (11, 125), (12, 126), (13, 127), (14, 128), (15, 129), (16, 130), (17, 131), (18, 132), (19, 133), (20, 134), (21, 135), (22, 136), (23, 137), (24, 138), (25, 139), (26, 140)] [] (by kernel_rfl) (by kernel_rfl) rfl Free.Bel.refl ?_ ?_
        rotate_left
        · (intro ev W hb hR hO hD; have hS := hF W hR; obtain ⟨hb1, hb2, hb3⟩ := hb; simp only [Free.AllDeps, Free.AllOuts, Free.At, List.getElem?_cons_succ, List.getElem?_cons_zero, Array.getD_eq_getD_getElem?, List.getElem?_toArray, Option.getD_some, and_true] at hO hD; go_simp; rfl)
        simp only [List.nil_append, List.cons_append]
        intro xs w11 hR hV
        simp only [Free.AllV, Free.At, List.length_cons, List.length_nil, Nat.reduceAdd, List.getElem?_cons_succ, List.getElem?_cons_zero, true_and, and_true] at hV
        simp only [Free.putsFrom, Act.put, Nat.zero_add, Nat.reduceAdd, hV, List.setIfInBounds_toArray, List.set_cons_succ, List.set_cons_zero]
        have hN := hF w11 hR
        clear hR hF
        have HB_w11 := Lib.hid (HB_w10.out.trans ((hN).mono hz_w10))
        have hz_w11 : bb ≤ w11.heap.size := Nat.le_trans hz_w10 (hN).size
        have HL_w11 : Free.Bel w4 w11 := Free.Bel.trans _ _ _ HL_w10 (hN)
        clear HL_w10
        have FN : ∀ W, Free.Bel w11 W → W.cell? ⟨0, 0, none⟩ = some (dblF 130) ∧ W.cell? ⟨0, 1, none⟩ = some (dblF 131) ∧ W.cell? ⟨0, 2, none⟩ = some (dblF 132) ∧ W.cell? ⟨bb, 0, none⟩ = some (.int .i64 N) ∧ W.cell? ⟨bb, 1, none⟩ = some (.int .i64 lo) ∧ W.cell? ⟨bb, 2, none⟩ = some (.int .i64 hi) ∧ bb + 1 ≤ W.heap.size ∧ bb ≤ W.heap.size ∧ W.cell? ⟨g90, 0, none⟩ = some (.int .i64 p) ∧ W.cell? ⟨g90, 1, none⟩ = some (.int .i64 q) := fun W hW => by
          obtain ⟨a0, a1, a2, a3, a4, a5, a6, a7, a8, a9⟩ := FA W (Free.Bel.trans _ _ _ (hN) hW)
          exact ⟨a0, a1, a2, a3, a4, a5, a6, a7, a8, a9⟩
        clear FA HB_w10 hz_w10 KR
        have FA := FN
        clear FN
        have KR : Free.Bel w11 w11 := Free.Bel.refl _
        clear hN hV
        go_wp2_with fail
        go_ret
        have hbb := HBB.out
        subst hbb
        exact ⟨rfl, HB_w11.out⟩
end Go.Proofs.YtdiclofeggkjcaaDoor

/- For every input the law SampleWhole returns true, and its arguments read behind the call as they read before; what a double rule is asked lies in the table as the program's text lays it (tied). Condition: that table. -/
namespace Go.Proofs.YtdiclofeggkjcaaDoor.lawSampleWhole
open Go Go.ChangeShapes Go.WideShapes Go.ChangeAt Go.RowKit
set_option linter.unusedVariables false
set_option linter.unusedSimpArgs false

set_option maxRecDepth 100000 in
theorem contract (H : Type) (enc : TypeId × Value → H) (W : World) (base : Nat) (args : Array Value) (ds gs : List (DataW H)) (before : List MemPlace)
    (hval : ∀ (j : Nat) t v, Tryd.f8.params[j]? = some t → args[j]? = some v → Value.okWide Tryd.prog W .any base t v)
    (hW : DataW.Whole enc Tryd.prog Tryd.f8.params.toList Rows.sampleWholeSpec.vars false W args.toList ds gs before) (hL : laidMetH Tryd.prog Rows.sampleWholeRow.laid W) :
    Calls Tryd.prog 8 args W fun e W' => ∃ v, e = .returned v ∧ Rows.sampleWholeSpec.post enc Tryd.prog Tryd.f8 false true false false W args v W' := by
  have hW' := hW
  obtain ⟨p, q, hA0, hV, rfl, hfz, hnd⟩ := hW
  have hA : DataW.TrodAll enc Tryd.prog W 0 (fun _ => true) true Tryd.f8.params.toList args.toList ds p := hA0
  have hAk := hA
  rw [Tryd.params8] at hA hval
  obtain ⟨v0, vs0, d0, ds0, p0, q0, hargs, rfl, rfl, h0, r0⟩ := trodAll_cons hA
  obtain ⟨v1, vs1, d1, ds1, p1, q1, rfl, rfl, rfl, h1, r1⟩ := trodAll_cons r0
  obtain ⟨v2, vs2, d2, ds2, p2, q2, rfl, rfl, rfl, h2, r2⟩ := trodAll_cons r1
  obtain ⟨rfl, rfl, rfl⟩ := trodAll_nil r2
  obtain rfl : args = #[v0, v1, v2] := by cases args; simp_all
  obtain ⟨rfl, rfl⟩ := trodVars_none hV
  have hlt : ∀ x ∈ p0 ++ (p1 ++ (p2 ++ ([]))), x.block < W.heap.size := fun x hx => by
    have := hW'.lt x (by simpa using hx)
    simpa using this
  obtain ⟨N, lo, hi, rfl⟩ := Law.shape12 Tryd.underlying26 (by kernel_rfl) Tryd.underlying3 rfl (by kernel_rfl) rfl (by kernel_rfl) Tryd.underlying24 Tryd.underlying3 Tryd.underlying3 rfl rfl (by kernel_rfl) (by kernel_rfl) (hval 0 26 _ rfl rfl) h0
  obtain ⟨x, rfl, _, hwf1⟩ := open_int Tryd.underlying5 (hval 1 5 _ rfl rfl) h1
  obtain ⟨y, rfl, _, hwf2⟩ := open_int Tryd.underlying5 (hval 2 5 _ rfl rfl) h2
  refine (whole_walk N lo hi x y W (Tab.of_laid hL) (u8_wf hwf1.2) (u8_wf hwf2.2)).mono fun e W' ⟨he, hg⟩ => ?_
  subst he
  refine ⟨_, rfl, _, _, _, [], p0 ++ (p1 ++ (p2 ++ ([]))), [], hW', ?_, ?_, ?_, hg.frame _, fun h => by cases h⟩
  · exact trodAll_cons_mk (shut_bool Tryd.underlying4 true) trodAll_mk0
  · exact Law.args_below Tab.laidOut (by kernel_rfl) hg hAk hlt
  · rfl

set_option maxRecDepth 100000 in
theorem lifted (os : Os) (started : os.Started) (H : Type) (enc : TypeId × Value → H) :
    ReturnsInHanded {} Tryd.checked os 8 .any (fun w args => (Rows.sampleWholeSpec.pre enc Tryd.prog Tryd.f8 [] false w args ∧ laidMetH Tryd.prog Rows.sampleWholeRow.laid w) ∧ sizedMet enc Tryd.prog Tryd.f8 (OpenSpec.ofChange Rows.sampleWholeSpec) false w args) (Rows.sampleWholeSpec.post enc Tryd.prog Tryd.f8 false true false false) := by
  refine returnsInHanded_of_change_and (C := Tryd.checked) (X := fun w _ => laidMetH Tryd.prog Rows.sampleWholeRow.laid w) (fun _ _ _ hh h => h.of_heap hh) Tab.own started (by kernel_rfl) Tryd.func8
    (ChangeSpec.witness_shaped (enc := enc) (C := Tryd.checked) (os := os) (X := fun w _ => laidMetH Tryd.prog Rows.sampleWholeRow.laid w) false (World.doorLaid Tryd.prog 17 os) #[.agg #[.int .i64 0, .int .i64 0, .int .i64 0], .int .u8 0, .int .u8 0] 8 rfl (World.shaped_of_RefB (by kernel_rfl) (by kernel_rfl)) (by kernel_rfl) (by kernel_rfl) (by kernel_rfl) (Tab.door_met os _)) ?_
  intro W base args ds gs before hval hW _ _ hL _
  exact contract H enc W base args ds gs before hval hW hL

theorem said : Rows.SampleWholeSaid :=
  OpenClaim.holds_of_wide 8 Tryd.f8 rfl rfl rfl rfl rfl rfl rfl ⟨rfl, rfl, rfl, rfl, rfl⟩ rfl rfl rfl rfl rfl (by kernel_rfl) Tryd.func8 (by kernel_rfl)
    (of_decide_eq_true (by kernel_rfl)) (by unfold Func.isWrapper; first | (rw [if_pos (by decide +kernel)]; kernel_rfl) | (rw [if_neg (by decide +kernel)]; exact ⟨rfl, rfl⟩))
    (fun os started H enc _ => lifted os started H enc)

theorem plain (f : FuncId) (fn : Func) (hf : Tryd.pinned.checked.prog.funcNamed "oilcake/oilcakelaw01.SampleWhole" = some f) (hfn : Tryd.pinned.checked.prog.funcs[f]? = some fn) :
    false = Tryd.pinned.checked.prog.looks [] ∧ ∀ (j : Nat) t, fn.params[j]? = some t → Tryd.pinned.checked.prog.wantsStandIn t = false := by
  obtain rfl : f = 8 := Option.some.inj ((show Tryd.prog.funcNamed "oilcake/oilcakelaw01.SampleWhole" = some 8 by kernel_rfl).symm.trans hf) |>.symm
  obtain rfl : fn = Tryd.f8 := (Option.some.inj (Tryd.func8.symm.trans hfn)).symm
  refine ⟨by kernel_rfl, fun j t ht => ?_⟩
  rw [Tryd.params8] at ht
  have hm := Array.mem_of_getElem? ht
  have hall : (Tryd.f8.params.toList.all fun u => !Tryd.prog.wantsStandIn u) = true := by kernel_rfl
  rw [Tryd.params8] at hall
  exact (show Tryd.prog.wantsStandIn t = false by simpa using List.all_eq_true.1 hall t (by simpa using hm))

theorem card : Rows.SampleWholeCardSaid :=
  Claim7.holds_tied_plain_at .later [] _ _ _ _ said (fun _ h => by cases h) (by kernel_rfl) (fun _ h => by cases h) sampleWhole_row_tie rfl ⟨rfl, rfl⟩ (by kernel_rfl) rfl plain (by kernel_rfl)
#print axioms card
end Go.Proofs.YtdiclofeggkjcaaDoor.lawSampleWhole

