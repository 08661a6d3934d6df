/- The reference of layer 1: the middle. -/
import Derived.Test.YtfdbegohjlijoaaSampRefC
import Derived.Test.YtfdbegohjlijoaaSampMean
namespace Go.Proofs.Ytfdbegohjlijoaa
set_option linter.unusedSimpArgs false
set_option linter.unusedVariables false
open Go.RowKit Go.Proofs.Ytfdbegohjlijoaa.ML Go.Proofs.Ytfdbegohjlijoaa.Samp

theorem waysI_nat (N D o k : Nat) (hD : D ≤ N) (hk : k ≤ o) : waysI N D o k = (Samp.ways D (N - D) o k : Nat) := by
  unfold waysI Samp.ways
  rw [if_pos hk, show (N : Int) - D = ((N - D : Nat) : Int) by omega, show (o : Int) - k = ((o - k : Nat) : Int) by omega, chI_nat, chI_nat]
  simp
theorem midI_id (N D o : Nat) (hD : D ≤ N) : ∀ n : Nat, n ≤ o + 1 → midI N D o (fun k => k) n = (sumTo (fun k => k * Samp.ways D (N - D) o k) n : Nat)
  | 0, _ => rfl
  | n + 1, h => by
    rw [midI, sumTo, midI_id N D o hD n (by omega), waysI_nat N D o n hD (by omega)]
    simp
theorem mean_eq (N D o : Int) (hN : 0 < N) (h0 : 0 ≤ D) (h1 : D ≤ N) (h2 : 0 ≤ o) (h3 : o ≤ N) : partV (midI N D o (fun k => k) (o + 1).toNat).toNat (chI N o).toNat = partV (D * o).toNat N.toNat := by
  obtain ⟨N, rfl⟩ := Int.eq_ofNat_of_zero_le (Int.le_of_lt hN)
  obtain ⟨D, rfl⟩ := Int.eq_ofNat_of_zero_le h0
  obtain ⟨o, rfl⟩ := Int.eq_ofNat_of_zero_le h2
  show partV (midI ((N : Nat) : Int) ((D : Nat) : Int) ((o : Nat) : Int) (fun k => k) (((o : Nat) : Int) + 1).toNat).toNat (chI ((N : Nat) : Int) ((o : Nat) : Int)).toNat = partV (((D : Nat) : Int) * ((o : Nat) : Int)).toNat (((N : Nat) : Int)).toNat
  rw [show (((o : Nat) : Int) + 1).toNat = o + 1 by omega, midI_id N D o (by omega) (o + 1) (by omega), chI_nat]
  have := lowest_mean D N o (by omega) (by omega) (by omega)
  unfold partV
  simp only [Int.toNat_natCast]
  rw [this, show ((D : Int) * (o : Int)).toNat = D * o from by rw [← Int.natCast_mul]; exact Int.toNat_natCast _]

set_option maxRecDepth 100000 in
set_option maxHeartbeats 2000000 in
theorem meanR_a (N lo hi D o : Int) (w : World) (hc : cargoB N lo hi = false) :
    Calls Try.prog 13 #[.agg #[.int .i64 N, .int .i64 lo, .int .i64 hi], .int .i64 D, .int .i64 o] w fun e w' => e = .returned (.tuple #[.agg #[.int .i64 0, .int .i64 0], .int .i64 10]) ∧ Below w.heap.size w w' := by
  have HC := Lib.hid hc
  clear hc
  have hB0 : Below w.heap.size w ((w.alloc (.cells #[.int .i64 N, .int .i64 lo, .int .i64 hi] 25)).alloc (.cells #[.int .i64 0, .int .i64 0] 34)) := ((Below.refl _ w).alloc (Nat.le_refl _) _).alloc (by simp) _
  have b0 : ((w.alloc (.cells #[.int .i64 N, .int .i64 lo, .int .i64 hi] 25)).alloc (.cells #[.int .i64 0, .int .i64 0] 34)).cell? ⟨w.heap.size, 0, none⟩ = some (.int .i64 N) := by simp [go_sem]
  have b1 : ((w.alloc (.cells #[.int .i64 N, .int .i64 lo, .int .i64 hi] 25)).alloc (.cells #[.int .i64 0, .int .i64 0] 34)).cell? ⟨w.heap.size, 1, none⟩ = some (.int .i64 lo) := by simp [go_sem]
  have b2 : ((w.alloc (.cells #[.int .i64 N, .int .i64 lo, .int .i64 hi] 25)).alloc (.cells #[.int .i64 0, .int .i64 0] 34)).cell? ⟨w.heap.size, 2, none⟩ = some (.int .i64 hi) := by simp [go_sem]
  have hT : Two (w.heap.size + 1) (.int .i64 0) (.int .i64 0) ((w.alloc (.cells #[.int .i64 N, .int .i64 lo, .int .i64 hi] 25)).alloc (.cells #[.int .i64 0, .int .i64 0] 34)) := ⟨by simp [go_sem], by simp [go_sem], by simp [go_sem], by simp [go_sem]⟩
  have HT0 := Lib.hid hT
  have HB0 := Lib.hid hB0
  clear hT hB0
  go_enter Try.func13, Try.ntmps13
  go_wp2_with fail
  generalize ((w.alloc (.cells #[.int .i64 N, .int .i64 lo, .int .i64 hi] 25)).alloc (.cells #[.int .i64 0, .int .i64 0] 34)) = W0 at *
  generalize hbb : w.heap.size = bb at *
  have HBB := Lib.hid hbb
  clear hbb
  have hs0 : bb + 1 < W0.heap.size := lt_of_cell HT0.out.c0
  refine (cargoR_any N lo hi false _ HC.out).mono ?_
  rintro e w1 ⟨rfl, hB⟩
  have HT1 := Lib.hid (HT0.out.keeps hB)
  have b0 := keepsB hB b0
  have b1 := keepsB hB b1
  have b2 := keepsB hB b2
  have HB1 := Lib.hid (HB0.out.trans (hB.mono (by omega)))
  have hs1 : bb + 1 < w1.heap.size := Nat.lt_of_lt_of_le hs0 hB.size
  clear hB
  have T1 := HT1.out
  have r0 := T1.c0
  have r1 := T1.c1
  have r2 := T1.f0
  have r3 := T1.f1
  obtain ⟨s0, s1⟩ := two_stores (w := w1) (b := bb + 1) (.int .i64 0) (.int .i64 0) r0 r1
  have hB9 := Lib.hid ((HB1.out.setCell (p := ⟨bb + 1, 0, none⟩) (by show bb ≤ bb + 1; omega) (.int .i64 0)).setCell (p := ⟨bb + 1, 1, none⟩) (by show bb ≤ bb + 1; omega) (.int .i64 0))
  go_wp2_with fail
  refine bodyPost_ret (v := .tuple #[.agg #[.int .i64 0, .int .i64 0], .int .i64 10]) ?_ rfl ⟨rfl, ?_⟩
  · simp [results, Try.results13, go_sem, s0, s1]
  · have hbb := HBB.out
    subst hbb
    exact hB9.out

set_option maxRecDepth 100000 in
set_option maxHeartbeats 2000000 in
theorem meanR_b (N lo hi D o : Int) (w : World) (hc : cargoB N lo hi = true) (hm : inB lo hi [D] = false) :
    Calls Try.prog 13 #[.agg #[.int .i64 N, .int .i64 lo, .int .i64 hi], .int .i64 D, .int .i64 o] w fun e w' => e = .returned (.tuple #[.agg #[.int .i64 0, .int .i64 0], .int .i64 2]) ∧ Below w.heap.size w w' := by
  have HC := Lib.hid hc
  have HM := Lib.hid hm
  clear hc hm
  have hB0 : Below w.heap.size w ((w.alloc (.cells #[.int .i64 N, .int .i64 lo, .int .i64 hi] 25)).alloc (.cells #[.int .i64 0, .int .i64 0] 34)) := ((Below.refl _ w).alloc (Nat.le_refl _) _).alloc (by simp) _
  have b0 : ((w.alloc (.cells #[.int .i64 N, .int .i64 lo, .int .i64 hi] 25)).alloc (.cells #[.int .i64 0, .int .i64 0] 34)).cell? ⟨w.heap.size, 0, none⟩ = some (.int .i64 N) := by simp [go_sem]
  have b1 : ((w.alloc (.cells #[.int .i64 N, .int .i64 lo, .int .i64 hi] 25)).alloc (.cells #[.int .i64 0, .int .i64 0] 34)).cell? ⟨w.heap.size, 1, none⟩ = some (.int .i64 lo) := by simp [go_sem]
  have b2 : ((w.alloc (.cells #[.int .i64 N, .int .i64 lo, .int .i64 hi] 25)).alloc (.cells #[.int .i64 0, .int .i64 0] 34)).cell? ⟨w.heap.size, 2, none⟩ = some (.int .i64 hi) := by simp [go_sem]
  have hT : Two (w.heap.size + 1) (.int .i64 0) (.int .i64 0) ((w.alloc (.cells #[.int .i64 N, .int .i64 lo, .int .i64 hi] 25)).alloc (.cells #[.int .i64 0, .int .i64 0] 34)) := ⟨by simp [go_sem], by simp [go_sem], by simp [go_sem], by simp [go_sem]⟩
  have HT0 := Lib.hid hT
  have HB0 := Lib.hid hB0
  clear hT hB0
  go_enter Try.func13, Try.ntmps13
  go_wp2_with fail
  generalize ((w.alloc (.cells #[.int .i64 N, .int .i64 lo, .int .i64 hi] 25)).alloc (.cells #[.int .i64 0, .int .i64 0] 34)) = W0 at *
  generalize hbb : w.heap.size = bb at *
  have HBB := Lib.hid hbb
  clear hbb
  have hs0 : bb + 1 < W0.heap.size := lt_of_cell HT0.out.c0
  refine (cargoR_any N lo hi true _ HC.out).mono ?_
  rintro e w1 ⟨rfl, hB⟩
  have HT1 := Lib.hid (HT0.out.keeps hB)
  have b0 := keepsB hB b0
  have b1 := keepsB hB b1
  have b2 := keepsB hB b2
  have HB1 := Lib.hid (HB0.out.trans (hB.mono (by omega)))
  have hs1 : bb + 1 < w1.heap.size := Nat.lt_of_lt_of_le hs0 hB.size
  clear hB
  go_wp2_with fail
  refine (mayR_any N lo hi D false _ HM.out).mono ?_
  rintro e w2 ⟨rfl, hB⟩
  have HT2 := Lib.hid (HT1.out.keeps hB)
  have b0 := keepsB hB b0
  have b1 := keepsB hB b1
  have b2 := keepsB hB b2
  have HB2 := Lib.hid (HB1.out.trans (hB.mono (by omega)))
  have hs2 : bb + 1 < w2.heap.size := Nat.lt_of_lt_of_le hs1 hB.size
  clear hB
  have T1 := HT2.out
  have r0 := T1.c0
  have r1 := T1.c1
  have r2 := T1.f0
  have r3 := T1.f1
  obtain ⟨s0, s1⟩ := two_stores (w := w2) (b := bb + 1) (.int .i64 0) (.int .i64 0) r0 r1
  have hB9 := Lib.hid ((HB2.out.setCell (p := ⟨bb + 1, 0, none⟩) (by show bb ≤ bb + 1; omega) (.int .i64 0)).setCell (p := ⟨bb + 1, 1, none⟩) (by show bb ≤ bb + 1; omega) (.int .i64 0))
  go_wp2_with fail
  refine bodyPost_ret (v := .tuple #[.agg #[.int .i64 0, .int .i64 0], .int .i64 2]) ?_ rfl ⟨rfl, ?_⟩
  · simp [results, Try.results13, go_sem, s0, s1]
  · have hbb := HBB.out
    subst hbb
    exact hB9.out

set_option maxRecDepth 100000 in
set_option maxHeartbeats 2000000 in
theorem meanR_b2 (N lo hi D o : Int) (w : World) (hc : cargoB N lo hi = true) (hm : inB lo hi [D] = true) (hq : inB 0 N [o] = false) :
    Calls Try.prog 13 #[.agg #[.int .i64 N, .int .i64 lo, .int .i64 hi], .int .i64 D, .int .i64 o] w fun e w' => e = .returned (.tuple #[.agg #[.int .i64 0, .int .i64 0], .int .i64 2]) ∧ Below w.heap.size w w' := by
  have HC := Lib.hid hc
  have HM := Lib.hid hm
  have HQ := Lib.hid hq
  clear hc hm hq
  have hB0 : Below w.heap.size w ((w.alloc (.cells #[.int .i64 N, .int .i64 lo, .int .i64 hi] 25)).alloc (.cells #[.int .i64 0, .int .i64 0] 34)) := ((Below.refl _ w).alloc (Nat.le_refl _) _).alloc (by simp) _
  have b0 : ((w.alloc (.cells #[.int .i64 N, .int .i64 lo, .int .i64 hi] 25)).alloc (.cells #[.int .i64 0, .int .i64 0] 34)).cell? ⟨w.heap.size, 0, none⟩ = some (.int .i64 N) := by simp [go_sem]
  have b1 : ((w.alloc (.cells #[.int .i64 N, .int .i64 lo, .int .i64 hi] 25)).alloc (.cells #[.int .i64 0, .int .i64 0] 34)).cell? ⟨w.heap.size, 1, none⟩ = some (.int .i64 lo) := by simp [go_sem]
  have b2 : ((w.alloc (.cells #[.int .i64 N, .int .i64 lo, .int .i64 hi] 25)).alloc (.cells #[.int .i64 0, .int .i64 0] 34)).cell? ⟨w.heap.size, 2, none⟩ = some (.int .i64 hi) := by simp [go_sem]
  have hT : Two (w.heap.size + 1) (.int .i64 0) (.int .i64 0) ((w.alloc (.cells #[.int .i64 N, .int .i64 lo, .int .i64 hi] 25)).alloc (.cells #[.int .i64 0, .int .i64 0] 34)) := ⟨by simp [go_sem], by simp [go_sem], by simp [go_sem], by simp [go_sem]⟩
  have HT0 := Lib.hid hT
  have HB0 := Lib.hid hB0
  clear hT hB0
  go_enter Try.func13, Try.ntmps13
  go_wp2_with fail
  generalize ((w.alloc (.cells #[.int .i64 N, .int .i64 lo, .int .i64 hi] 25)).alloc (.cells #[.int .i64 0, .int .i64 0] 34)) = W0 at *
  generalize hbb : w.heap.size = bb at *
  have HBB := Lib.hid hbb
  clear hbb
  have hs0 : bb + 1 < W0.heap.size := lt_of_cell HT0.out.c0
  refine (cargoR_any N lo hi true _ HC.out).mono ?_
  rintro e w1 ⟨rfl, hB⟩
  have HT1 := Lib.hid (HT0.out.keeps hB)
  have b0 := keepsB hB b0
  have b1 := keepsB hB b1
  have b2 := keepsB hB b2
  have HB1 := Lib.hid (HB0.out.trans (hB.mono (by omega)))
  have hs1 : bb + 1 < w1.heap.size := Nat.lt_of_lt_of_le hs0 hB.size
  clear hB
  go_wp2_with fail
  refine (mayR_any N lo hi D true _ HM.out).mono ?_
  rintro e w2 ⟨rfl, hB⟩
  have HT2 := Lib.hid (HT1.out.keeps hB)
  have b0 := keepsB hB b0
  have b1 := keepsB hB b1
  have b2 := keepsB hB b2
  have HB2 := Lib.hid (HB1.out.trans (hB.mono (by omega)))
  have hs2 : bb + 1 < w2.heap.size := Nat.lt_of_lt_of_le hs1 hB.size
  clear hB
  go_wp2_with fail
  refine (within_any o 0 N false _ HQ.out).mono ?_
  rintro e w3 ⟨rfl, rfl⟩
  have T1 := HT2.out
  have r0 := T1.c0
  have r1 := T1.c1
  have r2 := T1.f0
  have r3 := T1.f1
  obtain ⟨s0, s1⟩ := two_stores (w := w2) (b := bb + 1) (.int .i64 0) (.int .i64 0) r0 r1
  have hB9 := Lib.hid ((HB2.out.setCell (p := ⟨bb + 1, 0, none⟩) (by show bb ≤ bb + 1; omega) (.int .i64 0)).setCell (p := ⟨bb + 1, 1, none⟩) (by show bb ≤ bb + 1; omega) (.int .i64 0))
  go_wp2_with fail
  refine bodyPost_ret (v := .tuple #[.agg #[.int .i64 0, .int .i64 0], .int .i64 2]) ?_ rfl ⟨rfl, ?_⟩
  · simp [results, Try.results13, go_sem, s0, s1]
  · have hbb := HBB.out
    subst hbb
    exact hB9.out

set_option maxRecDepth 100000 in
set_option maxHeartbeats 2000000 in
theorem meanR_c (N lo hi D o : Int) (w : World) (hc : cargoB N lo hi = true) (hm : inB lo hi [D] = true) (hq : inB 0 N [o] = true) :
    Calls Try.prog 13 #[.agg #[.int .i64 N, .int .i64 lo, .int .i64 hi], .int .i64 D, .int .i64 o] w fun e w' => e = .returned (.tuple #[partV (D * o).toNat N.toNat, .int .i64 0]) ∧ Below w.heap.size w w' := by
  have hN := (cargoB_iff N lo hi).1 hc
  have hM : lo ≤ D ∧ D ≤ hi := by simpa [inB] using hm
  have hO : 0 ≤ o ∧ o ≤ N := by simpa [inB] using hq
  have HC := Lib.hid hc
  have HM := Lib.hid hm
  have HQ := Lib.hid hq
  have hsum : Hid (∀ n : Nat, (n : Int) ≤ o + 1 → 0 ≤ midI N D o (fun k => k) n ∧ midI N D o (fun k => k) n ≤ n * 68719476736000000) := fun n hn => midI_bound N D o _ (by omega) (by omega) (by omega) n fun k hk => by constructor <;> omega
  have hA : Hid (1 ≤ chI N o ∧ chI N o ≤ 68719476736) := chI_pos N o (by omega) hN.2.1 hO.1 hO.2
  obtain ⟨px, py, hp⟩ : ∃ px py : Int, partV (midI N D o (fun k => k) (o + 1).toNat).toNat (chI N o).toNat = .agg #[.int .i64 px, .int .i64 py] := ⟨_, _, rfl⟩
  have HP0 : Hid (partV (D * o).toNat N.toNat = .agg #[.int .i64 px, .int .i64 py]) := by
    show _ = _
    rw [← hp, mean_eq N D o (by omega) (by omega) (by omega) (by omega) (by omega)]
  have HP := Lib.hid hp
  clear hp hc hm hq
  have hB0 : Below w.heap.size w ((w.alloc (.cells #[.int .i64 N, .int .i64 lo, .int .i64 hi] 25)).alloc (.cells #[.int .i64 0, .int .i64 0] 34)) := ((Below.refl _ w).alloc (Nat.le_refl _) _).alloc (by simp) _
  have b0 : ((w.alloc (.cells #[.int .i64 N, .int .i64 lo, .int .i64 hi] 25)).alloc (.cells #[.int .i64 0, .int .i64 0] 34)).cell? ⟨w.heap.size, 0, none⟩ = some (.int .i64 N) := by simp [go_sem]
  have b1 : ((w.alloc (.cells #[.int .i64 N, .int .i64 lo, .int .i64 hi] 25)).alloc (.cells #[.int .i64 0, .int .i64 0] 34)).cell? ⟨w.heap.size, 1, none⟩ = some (.int .i64 lo) := by simp [go_sem]
  have b2 : ((w.alloc (.cells #[.int .i64 N, .int .i64 lo, .int .i64 hi] 25)).alloc (.cells #[.int .i64 0, .int .i64 0] 34)).cell? ⟨w.heap.size, 2, none⟩ = some (.int .i64 hi) := by simp [go_sem]
  have hT : Two (w.heap.size + 1) (.int .i64 0) (.int .i64 0) ((w.alloc (.cells #[.int .i64 N, .int .i64 lo, .int .i64 hi] 25)).alloc (.cells #[.int .i64 0, .int .i64 0] 34)) := ⟨by simp [go_sem], by simp [go_sem], by simp [go_sem], by simp [go_sem]⟩
  have HT0 := Lib.hid hT
  have HB0 := Lib.hid hB0
  clear hT hB0
  go_enter Try.func13, Try.ntmps13
  go_wp2_with fail
  generalize ((w.alloc (.cells #[.int .i64 N, .int .i64 lo, .int .i64 hi] 25)).alloc (.cells #[.int .i64 0, .int .i64 0] 34)) = W0 at *
  generalize hbb : w.heap.size = bb at *
  have HBB := Lib.hid hbb
  clear hbb
  have hs0 : bb + 1 < W0.heap.size := lt_of_cell HT0.out.c0
  refine (cargoR_any N lo hi true _ HC.out).mono ?_
  rintro e w1 ⟨rfl, hB⟩
  have HT1 := Lib.hid (HT0.out.keeps hB)
  have b0 := keepsB hB b0
  have b1 := keepsB hB b1
  have b2 := keepsB hB b2
  have HB1 := Lib.hid (HB0.out.trans (hB.mono (by omega)))
  have hs1 : bb + 1 < w1.heap.size := Nat.lt_of_lt_of_le hs0 hB.size
  clear hB
  go_wp2_with fail
  refine (mayR_any N lo hi D true _ HM.out).mono ?_
  rintro e w2 ⟨rfl, hB⟩
  have HT2 := Lib.hid (HT1.out.keeps hB)
  have b0 := keepsB hB b0
  have b1 := keepsB hB b1
  have b2 := keepsB hB b2
  have HB2 := Lib.hid (HB1.out.trans (hB.mono (by omega)))
  have hs2 : bb + 1 < w2.heap.size := Nat.lt_of_lt_of_le hs1 hB.size
  clear hB
  go_wp2_with fail
  refine (within_any o 0 N true _ HQ.out).mono ?_
  rintro e w3 ⟨rfl, rfl⟩
  go_wp2_with fail
  go_loop [8, 9] (fun s i => ∃ k : Nat, (k : Int) ≤ o + 1 ∧ i = .int .i64 k ∧ s = .int .i64 (midI N D o (fun k => k) k)) (fun _ i => (o + 1 - intOf i).toNat)
  case atStart => exact ⟨0, by omega, rfl, rfl⟩
  case round =>
    obtain ⟨k, hk, rfl, rfl⟩ := hrel
    by_cases hlt : (k : Int) ≤ o
    · have hw := waysI_bound N D o k (by omega) (by omega) (by omega)
      have hp : 0 ≤ (k : Int) * waysI N D o k ∧ (k : Int) * waysI N D o k ≤ 36 * 68719476736 :=
        ⟨Int.mul_nonneg (by omega) hw.1, Int.mul_le_mul (by omega) hw.2 hw.1 (by omega)⟩
      have hs := hsum.out k hk
      have hstep : Hid (midI N D o (fun k => k) (k + 1) = midI N D o (fun k => k) k + (k : Int) * waysI N D o k) := rfl
      have hc := Lib.hid (countR_any N D o k w2 (by omega) (by omega) (by omega) (by omega) (by omega) (by omega))
      generalize midI N D o (fun k => k) k = S at *
      generalize waysI N D o k = G at *
      go_wp2_with fail
      refine hc.out.mono ?_
      rintro e w4 ⟨rfl, rfl⟩
      go_wp2_with fail
      go_round
      case rel => exact ⟨k + 1, by omega, by go_num, by rw [hstep.out]⟩
      case measure => simp [intOf]; omega
    · have hkn : Hid (k = (o + 1).toNat) := by show k = _; omega
      have hs := hsum.out k hk
      have hpk : Hid (partV (midI N D o (fun k => k) k).toNat (chI N o).toNat = .agg #[.int .i64 px, .int .i64 py]) := by
        show _ = _
        rw [hkn.out]; exact HP.out
      have hcc : Hid (∀ W, Calls Try.prog 37 #[.int .i64 N, .int .i64 o] W fun e w' => e = .returned (.int .i64 (chI N o)) ∧ W = w') := fun W => choose_any N o W (by omega) (by omega) (by omega)
      generalize midI N D o (fun k => k) k = S at *
      generalize chI N o = A at *
      go_wp2_with fail
      refine (hcc.out _).mono ?_
      rintro e w5 ⟨rfl, rfl⟩
      go_wp2_with fail
      refine (least_int S A (by omega) (by have := hA.out; omega) (by omega) (by have := hA.out; omega) _ hpk.out _).mono ?_
      rintro e w3 ⟨rfl, hB⟩
      have HT3 := Lib.hid (HT2.out.keeps hB)
      have b0 := keepsB hB b0
      have b1 := keepsB hB b1
      have b2 := keepsB hB b2
      have HB3 := Lib.hid (HB2.out.trans (hB.mono (by omega)))
      have hs3 : bb + 1 < w3.heap.size := Nat.lt_of_lt_of_le hs2 hB.size
      clear hB
      have T1 := HT3.out
      have r0 := T1.c0
      have r1 := T1.c1
      have r2 := T1.f0
      have r3 := T1.f1
      obtain ⟨s0, s1⟩ := two_stores (w := w3) (b := bb + 1) (.int .i64 px) (.int .i64 py) r0 r1
      have hB9 := Lib.hid ((HB3.out.setCell (p := ⟨bb + 1, 0, none⟩) (by show bb ≤ bb + 1; omega) (.int .i64 px)).setCell (p := ⟨bb + 1, 1, none⟩) (by show bb ≤ bb + 1; omega) (.int .i64 py))
      go_wp2_with fail
      refine bodyPost_ret (v := .tuple #[.agg #[.int .i64 px, .int .i64 py], .int .i64 0]) ?_ rfl ⟨by rw [HP0.out], ?_⟩
      · simp [results, Try.results13, go_sem, s0, s1]
      · have hbb := HBB.out
        subst hbb
        exact hB9.out

theorem meanR_any (N lo hi D o : Int) (w : World) :
    Calls Try.prog 13 #[.agg #[.int .i64 N, .int .i64 lo, .int .i64 hi], .int .i64 D, .int .i64 o] w fun e w' => e = .returned (.tuple (if cargoB N lo hi = false then #[zeroPart, .int .i64 10] else if meanE N lo hi D o ≠ 0 then #[zeroPart, .int .i64 (meanE N lo hi D o)] else #[partV (D * o).toNat N.toNat, .int .i64 0])) ∧ Below w.heap.size w w' := by
  cases hc : cargoB N lo hi
  · simpa [zeroPart] using meanR_a N lo hi D o w hc
  · cases hm : inB lo hi [D]
    · simpa [zeroPart, meanE, hm, unlessV, firstE] using meanR_b N lo hi D o w hc hm
    · cases hq : inB 0 N [o]
      · simpa [zeroPart, meanE, hm, hq, unlessV, firstE] using meanR_b2 N lo hi D o w hc hm hq
      · simpa [zeroPart, meanE, hm, hq, unlessV, firstE] using meanR_c N lo hi D o w hc hm hq
end Go.Proofs.Ytfdbegohjlijoaa
