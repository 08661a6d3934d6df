/- For every input the law SampleFind returns true, and its arguments read behind the call as they read before; what a double rule is asked lies in the table as the program's text lays it (tied). Condition: that table. -/
/- The law about the fewest bags that find a dirty one: its walk. -/
import Derived.Test.YtdiclofeggkjcaaDoorB7
namespace Go.Proofs.YtdiclofeggkjcaaDoor
set_option linter.unusedSimpArgs false
set_option linter.unusedVariables false
open Go.RowKit Go.Proofs.YtdiclofeggkjcaaDoor.ML Go.Proofs.YtdiclofeggkjcaaDoor.Samp

theorem find_ok (N lo hi D n d : Int) (w : World) (hc : 1 ≤ N ∧ N ≤ 36 ∧ 0 ≤ lo ∧ lo ≤ hi ∧ hi ≤ N) (hm : lo ≤ D ∧ D ≤ hi) (hg : 1 ≤ d ∧ d ≤ 1000 ∧ 0 ≤ n ∧ n ≤ d) :
    Calls Tryd.prog 29 #[.agg #[.int .i64 N, .int .i64 lo, .int .i64 hi], .int .i64 D, i2 n d] w fun e w' => (∃ k q : Int, e = .returned (.tuple #[.int .i64 k, .int .i64 q]) ∧ FindIs (findB N D n d) N k q) ∧ Below w.heap.size w w' := by
  refine (find_any N lo hi D n d w).mono ?_
  rintro e w' ⟨⟨k, q, he, h⟩, hB⟩
  have h1 : inB lo hi [D] = true := by simp [inB]; omega
  have h2 : givenB n d = true := (givenB_iff n d).2 hg
  rw [FindAll, if_neg (by simp [cargoB_ok hc]), if_neg (by simp [findE, h1, h2, unlessV, firstE])] at h
  exact ⟨⟨k, q, he, h⟩, hB⟩
theorem chI_out0 (n k : Int) (h : n < k) (hk : 0 ≤ n) : chI n k = 0 := by rw [chI_out n k (by omega) (by omega)]
theorem chI_self (n : Int) (h : 0 ≤ n) : chI n n = 1 := by rw [chI_natT n n h h, nCk_self]; rfl
/-- None is found only if no bag is dirty. -/
theorem find_none (N D n d : Int) (hN : 1 ≤ N) (h0 : 0 ≤ D) (h1 : D ≤ N) (hg : 1 ≤ d ∧ 0 ≤ n ∧ n ≤ d) (h : ∀ j : Nat, (j : Int) ≤ N → findB N D n d j = false) : D = 0 ∧ 0 < n := by
  have h2 := h N.toNat (by omega)
  rw [findB, show ((N.toNat : Nat) : Int) = N by omega, mostI_none N D N (by omega), chI_self N (by omega), decide_eq_false_iff_not] at h2
  by_cases hD : D = 0
  · refine ⟨hD, ?_⟩
    rw [hD, Int.sub_zero, chI_self N (by omega)] at h2
    omega
  · rw [chI_out0 (N - D) N (by omega) (by omega)] at h2
    omega

set_option maxRecDepth 100000 in
set_option maxHeartbeats 4000000 in
theorem findL_walk (N lo hi x n d : Int) (w : World) (hT : TabD w) (hx : 0 ≤ x ∧ x ≤ 255) (hn : 0 ≤ n ∧ n ≤ 65535) (hd : 0 ≤ d ∧ d ≤ 65535) :
    Calls Tryd.prog 5 #[.agg #[.int .i64 N, .int .i64 lo, .int .i64 hi], .int .u8 x, .int .u16 n, .int .u16 d] w fun e w' => e = .returned (.bool true) ∧ Below w.heap.size w w' := by
  have hB0 : Below w.heap.size w (w.alloc (.cells #[.int .i64 N, .int .i64 lo, .int .i64 hi] 26)) := (Below.refl _ w).alloc (Nat.le_refl _) _
  have c0_0 : (w.alloc (.cells #[.int .i64 N, .int .i64 lo, .int .i64 hi] 26)).cell? ⟨w.heap.size, 0, none⟩ = some (.int .i64 N) := by simp [go_sem]
  have c0_1 : (w.alloc (.cells #[.int .i64 N, .int .i64 lo, .int .i64 hi] 26)).cell? ⟨w.heap.size, 1, none⟩ = some (.int .i64 lo) := by simp [go_sem]
  have c0_2 : (w.alloc (.cells #[.int .i64 N, .int .i64 lo, .int .i64 hi] 26)).cell? ⟨w.heap.size, 2, none⟩ = some (.int .i64 hi) := by simp [go_sem]
  have t0 := keepsB hB0 hT.1
  have t1 := keepsB hB0 hT.2.1
  have t2 := keepsB hB0 hT.2.2
  clear hT
  go_enter Tryd.func5, Tryd.ntmps5
  go_wp2_with fail
  refine (alive_any _ (tabD_mk t0 t1 t2)).mono ?_
  rintro e w1 ⟨rfl, hB1⟩
  have hBz : Below w.heap.size w w1 := hB0.trans (hB1.mono (by simp))
  have hzz : w.heap.size ≤ w1.heap.size := hBz.size
  have hzn : w.heap.size + 1 ≤ w1.heap.size := by have := hB1.size; simp at this; omega
  have kc0_0 := keepsB hB1 c0_0
  have kc0_1 := keepsB hB1 c0_1
  have kc0_2 := keepsB hB1 c0_2
  have kt0 := keepsB hB1 t0
  have kt1 := keepsB hB1 t1
  have kt2 := keepsB hB1 t2
  clear hB0 hB1 t0 t1 t2 c0_0 c0_1 c0_2
  generalize hbb : w.heap.size = bb at *
  have HBB := Lib.hid hbb
  clear hbb
  have HB_w1 := Lib.hid (show Below bb w w1 from hBz)
  have hz_w1 : bb ≤ w1.heap.size := hzz
  have FA : ∀ W, Free.Bel w1 W → W.cell? ⟨0, 0, none⟩ = some (dblF 130) ∧ W.cell? ⟨0, 1, none⟩ = some (dblF 131) ∧ W.cell? ⟨0, 2, none⟩ = some (dblF 132) ∧ W.cell? ⟨bb, 0, none⟩ = some (.int .i64 N) ∧ W.cell? ⟨bb, 1, none⟩ = some (.int .i64 lo) ∧ W.cell? ⟨bb, 2, none⟩ = some (.int .i64 hi) ∧ bb + 1 ≤ W.heap.size ∧ bb ≤ W.heap.size := fun W hW => ⟨keepsB hW kt0, keepsB hW kt1, keepsB hW kt2, keepsB hW kc0_0, keepsB hW kc0_1, keepsB hW kc0_2, Nat.le_trans hzn hW.size, Nat.le_trans hz_w1 hW.size⟩
  have KR : Free.Bel w1 w1 := Free.Bel.refl _
  clear hBz hzz kt0 kt1 kt2 kc0_0 kc0_1 kc0_2 hzn
  go_wp2_with fail
  cases hc0 : cargoB N lo hi
  · have HC0 := hc0
    refine (cargoR_any N lo hi false _ hc0).mono ?_
    rintro e w2 ⟨rfl, hB⟩
    have HB_w2 := Lib.hid (HB_w1.out.trans ((hB).mono hz_w1))
    have hz_w2 : bb ≤ w2.heap.size := Nat.le_trans hz_w1 (hB).size
    have FN : ∀ W, Free.Bel w2 W → W.cell? ⟨0, 0, none⟩ = some (dblF 130) ∧ W.cell? ⟨0, 1, none⟩ = some (dblF 131) ∧ W.cell? ⟨0, 2, none⟩ = some (dblF 132) ∧ W.cell? ⟨bb, 0, none⟩ = some (.int .i64 N) ∧ W.cell? ⟨bb, 1, none⟩ = some (.int .i64 lo) ∧ W.cell? ⟨bb, 2, none⟩ = some (.int .i64 hi) ∧ bb + 1 ≤ W.heap.size ∧ bb ≤ W.heap.size := fun W hW => by
      obtain ⟨a0, a1, a2, a3, a4, a5, a6, a7⟩ := FA W (Free.Bel.trans _ _ _ (hB) hW)
      exact ⟨a0, a1, a2, a3, a4, a5, a6, a7⟩
    clear FA HB_w1 hz_w1 KR
    have FA := FN
    clear FN
    have KR : Free.Bel w2 w2 := Free.Bel.refl _
    clear hB
    go_wp2_with fail
    go_ret
    have hbb := HBB.out
    subst hbb
    exact ⟨rfl, HB_w2.out⟩
  · have hc := (cargoB_iff N lo hi).1 hc0
    refine (cargoR_any N lo hi true _ hc0).mono ?_
    rintro e w3 ⟨rfl, hB⟩
    have HB_w3 := Lib.hid (HB_w1.out.trans ((hB).mono hz_w1))
    have hz_w3 : bb ≤ w3.heap.size := Nat.le_trans hz_w1 (hB).size
    have FN : ∀ W, Free.Bel w3 W → W.cell? ⟨0, 0, none⟩ = some (dblF 130) ∧ W.cell? ⟨0, 1, none⟩ = some (dblF 131) ∧ W.cell? ⟨0, 2, none⟩ = some (dblF 132) ∧ W.cell? ⟨bb, 0, none⟩ = some (.int .i64 N) ∧ W.cell? ⟨bb, 1, none⟩ = some (.int .i64 lo) ∧ W.cell? ⟨bb, 2, none⟩ = some (.int .i64 hi) ∧ bb + 1 ≤ W.heap.size ∧ bb ≤ W.heap.size := fun W hW => by
      obtain ⟨a0, a1, a2, a3, a4, a5, a6, a7⟩ := FA W (Free.Bel.trans _ _ _ (hB) hW)
      exact ⟨a0, a1, a2, a3, a4, a5, a6, a7⟩
    clear FA HB_w1 hz_w1 KR
    have FA := FN
    clear FN
    have KR : Free.Bel w3 w3 := Free.Bel.refl _
    clear hB
    clear hc0
    go_wp2_with fail
    refine (some_any N lo hi x _ (by omega) hx).mono ?_
    rintro e w4 ⟨⟨D, rfl, hD⟩, hB⟩
    have HB_w4 := Lib.hid (HB_w3.out.trans ((hB).mono hz_w3))
    have hz_w4 : bb ≤ w4.heap.size := Nat.le_trans hz_w3 (hB).size
    have FN : ∀ W, Free.Bel w4 W → W.cell? ⟨0, 0, none⟩ = some (dblF 130) ∧ W.cell? ⟨0, 1, none⟩ = some (dblF 131) ∧ W.cell? ⟨0, 2, none⟩ = some (dblF 132) ∧ W.cell? ⟨bb, 0, none⟩ = some (.int .i64 N) ∧ W.cell? ⟨bb, 1, none⟩ = some (.int .i64 lo) ∧ W.cell? ⟨bb, 2, none⟩ = some (.int .i64 hi) ∧ bb + 1 ≤ W.heap.size ∧ bb ≤ W.heap.size := fun W hW => by
      obtain ⟨a0, a1, a2, a3, a4, a5, a6, a7⟩ := FA W (Free.Bel.trans _ _ _ (hB) hW)
      exact ⟨a0, a1, a2, a3, a4, a5, a6, a7⟩
    clear FA HB_w3 hz_w3 KR
    have FA := FN
    clear FN
    have KR : Free.Bel w4 w4 := Free.Bel.refl _
    clear hB
    have md00 : 0 ≤ d % 1000 := Int.emod_nonneg _ (by omega)
    have md01 : d % 1000 < 1000 := Int.emod_lt_of_pos _ (by omega)
    have cd0 : IntKind.i64.wrap d = d := IntWalk.i64_in _ (by omega)
    have dd0 : d.tmod 1000 = d % 1000 := Int.tmod_eq_emod_of_nonneg (by omega)
    obtain ⟨d0, hd0⟩ : ∃ v9, d % 1000 = v9 := ⟨_, rfl⟩
    rw [hd0] at md00 md01 dd0
    clear hd0
    have ed0 : IntKind.i64.wrap d0 = d0 := IntWalk.i64_in _ (by omega)
    have w1 : IntKind.i64.wrap (1 + d0) = 1 + d0 := IntWalk.i64_in _ (by omega)
    obtain ⟨pd, hpd⟩ : ∃ v9, 1 + d0 = v9 := ⟨_, rfl⟩
    have hpb : 1 ≤ pd ∧ pd ≤ 1000 := by omega
    rw [hpd] at w1
    have w1 : IntKind.i64.wrap (1 + d0) = pd := by rw [hpd]; exact w1
    have w2 : IntKind.i64.wrap (pd + 1) = pd + 1 := IntWalk.i64_in _ (by omega)
    have w3 : (pd + 1 != 0) = true := by simp; omega
    have mpn0 : 0 ≤ n % (pd + 1) := Int.emod_nonneg _ (by omega)
    have mpn1 : n % (pd + 1) < (pd + 1) := Int.emod_lt_of_pos _ (by omega)
    have cpn : IntKind.i64.wrap n = n := IntWalk.i64_in _ (by omega)
    have dpn : n.tmod (pd + 1) = n % (pd + 1) := Int.tmod_eq_emod_of_nonneg (by omega)
    obtain ⟨pn, hpn⟩ : ∃ v9, n % (pd + 1) = v9 := ⟨_, rfl⟩
    rw [hpn] at mpn0 mpn1 dpn
    clear hpn
    have epn : IntKind.i64.wrap pn = pn := IntWalk.i64_in _ (by omega)
    go_wp2_with fail
    refine (partL_any 0 pd _).mono ?_
    rintro e w5 ⟨rfl, hB⟩
    have HB_w5 := Lib.hid (HB_w4.out.trans ((hB).mono hz_w4))
    have hz_w5 : bb ≤ w5.heap.size := Nat.le_trans hz_w4 (hB).size
    have FN : ∀ W, Free.Bel w5 W → W.cell? ⟨0, 0, none⟩ = some (dblF 130) ∧ W.cell? ⟨0, 1, none⟩ = some (dblF 131) ∧ W.cell? ⟨0, 2, none⟩ = some (dblF 132) ∧ W.cell? ⟨bb, 0, none⟩ = some (.int .i64 N) ∧ W.cell? ⟨bb, 1, none⟩ = some (.int .i64 lo) ∧ W.cell? ⟨bb, 2, none⟩ = some (.int .i64 hi) ∧ bb + 1 ≤ W.heap.size ∧ bb ≤ W.heap.size := fun W hW => by
      obtain ⟨a0, a1, a2, a3, a4, a5, a6, a7⟩ := FA W (Free.Bel.trans _ _ _ (hB) hW)
      exact ⟨a0, a1, a2, a3, a4, a5, a6, a7⟩
    clear FA HB_w4 hz_w4 KR
    have FA := FN
    clear FN
    have KR : Free.Bel w5 w5 := Free.Bel.refl _
    clear hB
    have KA0 : Free.Bel w5 (w5.alloc (.cells #[.int .i64 pn, .int .i64 pd] 29)) := Bel.allocT (Free.Bel.refl _) _
    go_wp2_with fail
    clear KA0
    have hN : Free.Bel w5 (w5.alloc (.cells #[.int .i64 pn, .int .i64 pd] 29)) := (Bel.allocT (Free.Bel.refl w5) _)
    have n_g50_0 : (w5.alloc (.cells #[.int .i64 pn, .int .i64 pd] 29)).cell? ⟨w5.heap.size, 0, none⟩ = some (.int .i64 pn) := by simp [go_sem]
    have n_g50_1 : (w5.alloc (.cells #[.int .i64 pn, .int .i64 pd] 29)).cell? ⟨w5.heap.size, 1, none⟩ = some (.int .i64 pd) := by simp [go_sem]
    generalize (w5.alloc (.cells #[.int .i64 pn, .int .i64 pd] 29)) = w6 at *
    obtain ⟨g50, hgz⟩ : ∃ x, x = w5.heap.size := ⟨_, rfl⟩
    rw [← hgz] at n_g50_0 n_g50_1 ⊢
    clear hgz
    have HB_w6 := Lib.hid (HB_w5.out.trans ((hN).mono hz_w5))
    have hz_w6 : bb ≤ w6.heap.size := Nat.le_trans hz_w5 (hN).size
    have FN : ∀ W, Free.Bel w6 W → W.cell? ⟨0, 0, none⟩ = some (dblF 130) ∧ W.cell? ⟨0, 1, none⟩ = some (dblF 131) ∧ W.cell? ⟨0, 2, none⟩ = some (dblF 132) ∧ W.cell? ⟨bb, 0, none⟩ = some (.int .i64 N) ∧ W.cell? ⟨bb, 1, none⟩ = some (.int .i64 lo) ∧ W.cell? ⟨bb, 2, none⟩ = some (.int .i64 hi) ∧ bb + 1 ≤ W.heap.size ∧ bb ≤ W.heap.size ∧ W.cell? ⟨g50, 0, none⟩ = some (.int .i64 pn) ∧ W.cell? ⟨g50, 1, none⟩ = some (.int .i64 pd) := fun W hW => by
      obtain ⟨a0, a1, a2, a3, a4, a5, a6, a7⟩ := FA W (Free.Bel.trans _ _ _ (hN) hW)
      exact ⟨a0, a1, a2, a3, a4, a5, a6, a7, keepsB hW n_g50_0, keepsB hW n_g50_1⟩
    clear FA HB_w5 hz_w5 KR
    have FA := FN
    clear FN
    have KR : Free.Bel w6 w6 := Free.Bel.refl _
    clear hN n_g50_0 n_g50_1
    refine (find_ok N lo hi D pn pd _ hc (by omega) (by omega)).mono ?_
    rintro e w7 ⟨⟨k, q, rfl, hF⟩, hB⟩
    have HB_w7 := Lib.hid (HB_w6.out.trans ((hB).mono hz_w6))
    have hz_w7 : bb ≤ w7.heap.size := Nat.le_trans hz_w6 (hB).size
    have FN : ∀ W, Free.Bel w7 W → W.cell? ⟨0, 0, none⟩ = some (dblF 130) ∧ W.cell? ⟨0, 1, none⟩ = some (dblF 131) ∧ W.cell? ⟨0, 2, none⟩ = some (dblF 132) ∧ W.cell? ⟨bb, 0, none⟩ = some (.int .i64 N) ∧ W.cell? ⟨bb, 1, none⟩ = some (.int .i64 lo) ∧ W.cell? ⟨bb, 2, none⟩ = some (.int .i64 hi) ∧ bb + 1 ≤ W.heap.size ∧ bb ≤ W.heap.size ∧ W.cell? ⟨g50, 0, none⟩ = some (.int .i64 pn) ∧ W.cell? ⟨g50, 1, none⟩ = some (.int .i64 pd) := fun W hW => by
      obtain ⟨a0, a1, a2, a3, a4, a5, a6, a7, a8, a9⟩ := FA W (Free.Bel.trans _ _ _ (hB) hW)
      exact ⟨a0, a1, a2, a3, a4, a5, a6, a7, a8, a9⟩
    clear FA HB_w6 hz_w6 KR
    have FA := FN
    clear FN
    have KR : Free.Bel w7 w7 := Free.Bel.refl _
    clear hB
    rcases hF with ⟨rfl, m, rfl, hkN, hPm, hall⟩ | ⟨rfl, rfl, hall⟩
    · have HPM := Lib.hid hPm
      have HALL := Lib.hid hall
      clear hPm hall
      have c1 : decide ((m : Int) < 0) = false := decide_eq_false (by omega)
      have c2 : decide (N < (m : Int)) = false := decide_eq_false (by omega)
      have hw1 : IntKind.i64.wrap ((m : Int) + 1) = ((m + 1 : Nat) : Int) := by rw [IntWalk.i64_in _ (by omega)]; rfl
      go_wp2_with fail
      go_loopw [81] (fun i wr => ∃ j : Nat, j ≤ m + 1 ∧ i = .int .i64 j ∧ Free.Bel w7 wr) (fun i _ => m + 1 - (intOf i).toNat)
      case atStart => exact ⟨0, by omega, rfl, Free.Bel.refl _⟩
      case round =>
        obtain ⟨j, hj, rfl, HKr⟩ := hrel
        have HB_wr := Lib.hid (HB_w7.out.trans ((HKr).mono hz_w7))
        have hz_wr : bb ≤ wr.heap.size := Nat.le_trans hz_w7 (HKr).size
        have FN : ∀ W, Free.Bel wr W → W.cell? ⟨0, 0, none⟩ = some (dblF 130) ∧ W.cell? ⟨0, 1, none⟩ = some (dblF 131) ∧ W.cell? ⟨0, 2, none⟩ = some (dblF 132) ∧ W.cell? ⟨bb, 0, none⟩ = some (.int .i64 N) ∧ W.cell? ⟨bb, 1, none⟩ = some (.int .i64 lo) ∧ W.cell? ⟨bb, 2, none⟩ = some (.int .i64 hi) ∧ bb + 1 ≤ W.heap.size ∧ bb ≤ W.heap.size ∧ W.cell? ⟨g50, 0, none⟩ = some (.int .i64 pn) ∧ W.cell? ⟨g50, 1, none⟩ = some (.int .i64 pd) := fun W hW => by
          obtain ⟨a0, a1, a2, a3, a4, a5, a6, a7, a8, a9⟩ := FA W (Free.Bel.trans _ _ _ (HKr) hW)
          exact ⟨a0, a1, a2, a3, a4, a5, a6, a7, a8, a9⟩
        clear FA HB_w7 hz_w7 KR
        have FA := FN
        clear FN
        have KR : Free.Bel wr wr := Free.Bel.refl _
        have HL_wr : Free.Bel w7 wr := HKr
        clear HKr
        by_cases hlt : j < m + 1
        · have hjm : (j : Int) < ((m + 1 : Nat) : Int) := by omega
          have hjN : (0 : Int) ≤ j ∧ (j : Int) ≤ N := by omega
          obtain ⟨p, q, hpq⟩ : ∃ p q, mostV N D j 0 = i2 p q := ⟨_, _, rfl⟩
          have HP := Lib.hid hpq
          have HO := Lib.hid (show partV (mostI N D j 0).toNat (chI N j).toNat = .agg #[.int .i64 p, .int .i64 q] from hpq)
          clear hpq
          have hml := mostI_le N D j 0 (by omega) (by omega) (by omega) hjN.1
          have hcp := chI_pos N j (by omega) (by omega) hjN.1 hjN.2
          have HFB := Lib.hid (show decide (pn * chI N j ≤ (chI N j - mostI N D j 0) * pd) = decide (j = m) by
            by_cases e : j = m
            · subst e; rw [decide_eq_true rfl]; exact HPM.out
            · rw [decide_eq_false e]; exact HALL.out j (by omega))
          obtain ⟨al, hal⟩ : ∃ al, chI N j = al := ⟨_, rfl⟩
          obtain ⟨mi, hmi⟩ : ∃ mi, mostI N D j 0 = mi := ⟨_, rfl⟩
          have HAL := Lib.hid hal
          have HMI := Lib.hid hmi
          rw [hal, hmi] at HFB HO hml
          rw [hal] at hcp
          rw [Int.mul_comm pn al] at HFB
          clear hal hmi
          have q1 : 0 ≤ (al - mi) * pd := Int.mul_nonneg (by omega) (by omega)
          have q2 : (al - mi) * pd ≤ 68719476736 * 1000 := Int.mul_le_mul (by omega) (by omega) (by omega) (by omega)
          have q3 : 0 ≤ al * pn := Int.mul_nonneg (by omega) (by omega)
          have q4 : al * pn ≤ 68719476736 * 1000 := Int.mul_le_mul (by omega) (by omega) (by omega) (by omega)
          have v1 : IntKind.i64.wrap (al - mi) = al - mi := IntWalk.i64_in _ (by omega)
          have v2 : IntKind.i64.wrap ((al - mi) * pd) = (al - mi) * pd := IntWalk.i64_in _ (by omega)
          have v3 : IntKind.i64.wrap (al * pn) = al * pn := IntWalk.i64_in _ (by omega)
          go_wp2_with fail
          have hF : ∀ W, Below wr.heap.size wr.drew W → Free.Bel wr W := fun W hW => (show Below wr.heap.size wr W from ((Below.refl _ wr).drew).trans hW)
          refine Free2.wp_free (R := Below wr.heap.size) (J := LL wr.heap.size [⟨8, 9, (.cells #[.int .i64 0, .int .i64 0] 29), (.cells #[.int .i64 p, .int .i64 q] 29)⟩]) (by kernel_rfl) (by kernel_rfl) (Below.refl _) (fun _ _ _ => Below.trans) (LL.start (Nat.le_refl _)) ?_
          refine Free2.Chain.ex ?_ 0 rfl [] [4] (by kernel_rfl) (by kernel_rfl) rfl (Below.refl _) (fun X W v h => LL.skip h 0 v (by simp)) ?_ ?_
          rotate_left
          · (intro ev W hb hR hO hD; have hS := hF W hR; obtain ⟨hb1, hb2, hb3⟩ := hb; simp only [Free.AllDeps, Free.AllOuts, Free.At, List.getElem?_cons_succ, List.getElem?_cons_zero, Array.getD_eq_getD_getElem?, List.getElem?_toArray, Option.getD_some, and_true] at hO hD; go_simp; rfl)
          simp only [List.nil_append, List.cons_append]
          refine Free2.Chain.ex ?_ 1 rfl [] [10] (by kernel_rfl) (by kernel_rfl) rfl (Below.refl _) (fun X W v h => LL.skip h 1 v (by simp)) ?_ ?_
          rotate_left
          · (intro ev W hb hR hO hD; have hS := hF W hR; obtain ⟨hb1, hb2, hb3⟩ := hb; simp only [Free.AllDeps, Free.AllOuts, Free.At, List.getElem?_cons_succ, List.getElem?_cons_zero, Array.getD_eq_getD_getElem?, List.getElem?_toArray, Option.getD_some, and_true] at hO hD; go_simp; rfl)
          simp only [List.nil_append, List.cons_append]
          refine Free2.Chain.ex ?_ 2 rfl [] [14] (by kernel_rfl) (by kernel_rfl) rfl (Below.refl _) (fun X W v h => LL.skip h 2 v (by simp)) ?_ ?_
          rotate_left
          · (intro ev W hb hR hO hD; have hS := hF W hR; obtain ⟨hb1, hb2, hb3⟩ := hb; simp only [Free.AllDeps, Free.AllOuts, Free.At, List.getElem?_cons_succ, List.getElem?_cons_zero, Array.getD_eq_getD_getElem?, List.getElem?_toArray, Option.getD_some, and_true] at hO hD; go_simp; rfl)
          simp only [List.nil_append, List.cons_append]
          refine Free2.Chain.pr (fun v _ => v = i2 j 0) 3 rfl [(2, 87)] [] (by kernel_rfl) (by kernel_rfl) rfl (fun _ _ _ _ h => h) ?_ ?_
          · (intro ev W X hb hR hO hD hj hx hax; have hS := hF W hR; obtain ⟨hb1, hb2, hb3⟩ := hb; simp only [Free.AllDeps, Free.AllOuts, Free.At, List.getElem?_cons_succ, List.getElem?_cons_zero, Array.getD_eq_getD_getElem?, List.getElem?_toArray, Option.getD_some, and_true] at hO hD; simp only [Free2.AllX, and_true] at hax; go_simp; refine yields_enter ?_; (with_reducible refine (drawn_any j 0 _).mono ?_); rintro e W2 ⟨rfl, hB2⟩; exact ⟨_, rfl, hB2.mono hj.size, rfl, (hj.bel hB2).skip 3 _ (by simp)⟩)
          simp only [List.nil_append, List.cons_append]
          refine Free2.Chain.pr (fun v _ => v = .tuple #[i2 p q, .int .i64 0]) 4 rfl [(0, 85), (1, 86), (3, 88), (3, 88)] [] (by kernel_rfl) (by kernel_rfl) rfl (fun _ _ _ _ h => h) ?_ ?_
          · (intro ev W X hb hR hO hD hj hx hax; have hS := hF W hR; obtain ⟨hb1, hb2, hb3⟩ := hb; simp only [Free.AllDeps, Free.AllOuts, Free.At, List.getElem?_cons_succ, List.getElem?_cons_zero, Array.getD_eq_getD_getElem?, List.getElem?_toArray, Option.getD_some, and_true] at hO hD; simp only [Free2.AllX, and_true] at hax; go_simp; refine yields_enter ?_; (with_reducible refine (atmost_ok N lo hi D j 0 p q _ hc (by omega) (by omega) HP).mono ?_); rintro e W2 ⟨rfl, hB2⟩; exact ⟨_, rfl, hB2.mono hj.size, rfl, (hj.bel hB2).skip 4 _ (by simp)⟩)
          simp only [List.nil_append, List.cons_append]
          refine Free2.Chain.ex ?_ 5 rfl [(4, 89)] [] (by kernel_rfl) (by kernel_rfl) rfl (Below.refl _) (fun X W v h => LL.skip h 5 v (by simp)) ?_ ?_
          rotate_left
          · (intro ev W hb hR hO hD; have hS := hF W hR; obtain ⟨hb1, hb2, hb3⟩ := hb; simp only [Free.AllDeps, Free.AllOuts, Free.At, List.getElem?_cons_succ, List.getElem?_cons_zero, Array.getD_eq_getD_getElem?, List.getElem?_toArray, Option.getD_some, and_true] at hO hD; go_simp; rfl)
          simp only [List.nil_append, List.cons_append]
          refine Free2.Chain.ex ?_ 6 rfl [(5, 84)] [] (by kernel_rfl) (by kernel_rfl) rfl (Below.refl _) (fun X W v h => LL.skip h 6 v (by simp)) ?_ ?_
          rotate_left
          · (intro ev W hb hR hO hD; have hS := hF W hR; obtain ⟨hb1, hb2, hb3⟩ := hb; simp only [Free.AllDeps, Free.AllOuts, Free.At, List.getElem?_cons_succ, List.getElem?_cons_zero, Array.getD_eq_getD_getElem?, List.getElem?_toArray, Option.getD_some, and_true] at hO hD; go_simp; rfl)
          simp only [List.nil_append, List.cons_append]
          refine Free2.Chain.ex ?_ 7 rfl [(5, 84)] [] (by kernel_rfl) (by kernel_rfl) rfl (Below.refl _) (fun X W v h => LL.skip h 7 v (by simp)) ?_ ?_
          rotate_left
          · (intro ev W hb hR hO hD; have hS := hF W hR; obtain ⟨hb1, hb2, hb3⟩ := hb; simp only [Free.AllDeps, Free.AllOuts, Free.At, List.getElem?_cons_succ, List.getElem?_cons_zero, Array.getD_eq_getD_getElem?, List.getElem?_toArray, Option.getD_some, and_true] at hO hD; go_simp; rfl)
          simp only [List.nil_append, List.cons_append]
          refine Free2.Chain.pr (fun v _ => ∃ b, v = ptr b) 8 rfl [] [] (by kernel_rfl) (by kernel_rfl) rfl (fun _ _ _ _ h => h) ?_ ?_
          · (intro ev W X hb hR hO hD hj hx hax; have hS := hF W hR; obtain ⟨hb1, hb2, hb3⟩ := hb; simp only [Free.AllDeps, Free.AllOuts, Free.At, List.getElem?_cons_succ, List.getElem?_cons_zero, Array.getD_eq_getD_getElem?, List.getElem?_toArray, Option.getD_some, and_true] at hO hD; simp only [Free2.AllX, and_true] at hax; go_simp; exact ⟨(Below.refl _ W).alloc hj.size _, ⟨_, rfl⟩, hj.new ⟨8, 9, (.cells #[.int .i64 0, .int .i64 0] 29), (.cells #[.int .i64 p, .int .i64 q] 29)⟩ (by simp) (by simp) hx⟩)
          simp only [List.nil_append, List.cons_append]
          refine Free2.Chain.pr (fun _ _ => True) 9 rfl [(8, 15), (6, 90), (4, 89), (0, 85), (1, 86), (2, 87), (3, 88), (4, 89), (5, 84), (6, 90), (8, 15)] [] (by kernel_rfl) (by kernel_rfl) rfl (fun _ _ _ _ h => h) ?_ ?_
          · (intro ev W X hb hR hO hD hj hx hax; have hS := hF W hR; obtain ⟨hb1, hb2, hb3⟩ := hb; simp only [Free.AllDeps, Free.AllOuts, Free.At, List.getElem?_cons_succ, List.getElem?_cons_zero, Array.getD_eq_getD_getElem?, List.getElem?_toArray, Option.getD_some, and_true] at hO hD; simp only [Free2.AllX, and_true] at hax; obtain ⟨b, hb9, hs0, hbl⟩ := hj.at_ ⟨8, 9, (.cells #[.int .i64 0, .int .i64 0] 29), (.cells #[.int .i64 p, .int .i64 q] 29)⟩ (by simp) hax.1 hx; have hX := hax.1; rw [hb9] at hX; have hp := hj.puts ⟨8, 9, (.cells #[.int .i64 0, .int .i64 0] 29), (.cells #[.int .i64 p, .int .i64 q] 29)⟩ (by simp) (by simp) hX hs0 hbl [(0, .int .i64 p), (1, .int .i64 q)] rfl; have q0 : W.cell? ⟨b, 0, none⟩ = some (.int .i64 0) := cell_of_heap (o := 0) hbl rfl; have q1 : W.cell? ⟨b, 1, none⟩ = some (.int .i64 0) := cell_of_heap (o := 1) hbl rfl; have p0 : ∀ o, W.frozen? ⟨b, o, none⟩ = false := fun o => frozen_of_heap (o := o) hbl; go_simp; exact ⟨(hp undef).1, (hp _).2⟩)
          simp only [List.nil_append, List.cons_append]
          refine Free2.Chain.ex ?_ 10 rfl [(7, 91), (0, 85), (1, 86), (2, 87), (3, 88), (4, 89), (5, 84), (6, 90), (7, 91), (8, 15)] [] (by kernel_rfl) (by kernel_rfl) rfl (Below.refl _) (fun X W v h => LL.skip h 10 v (by simp)) ?_ ?_
          rotate_left
          · (intro ev W hb hR hO hD; have hS := hF W hR; obtain ⟨hb1, hb2, hb3⟩ := hb; simp only [Free.AllDeps, Free.AllOuts, Free.At, List.getElem?_cons_succ, List.getElem?_cons_zero, Array.getD_eq_getD_getElem?, List.getElem?_toArray, Option.getD_some, and_true] at hO hD; go_simp; rfl)
          simp only [List.nil_append, List.cons_append]
          intro xs w8 hR hV hX
          obtain ⟨X, hj, hxx⟩ := hX
          obtain ⟨b15, hp_b15, hs_b15, hl_b15⟩ := hj.done ⟨8, 9, (.cells #[.int .i64 0, .int .i64 0] 29), (.cells #[.int .i64 p, .int .i64 q] 29)⟩ (by simp) (hxx 8 (show (8 : Nat) < 11 by decide)) (hxx 9 (show (9 : Nat) < 11 by decide))
          simp only [Free.AllV, Free.At, List.length_cons, List.length_nil, Nat.reduceAdd, List.getElem?_cons_succ, List.getElem?_cons_zero, true_and, and_true] at hV
          simp only [Free.putsFrom, Act.put, Nat.zero_add, Nat.reduceAdd, hV, hp_b15, List.setIfInBounds_toArray, List.set_cons_succ, List.set_cons_zero]
          have hN := hF w8 hR
          have HB_w8 := Lib.hid (HB_wr.out.trans ((hN).mono hz_wr))
          have hz_w8 : bb ≤ w8.heap.size := Nat.le_trans hz_wr (hN).size
          have HL_w8 : Free.Bel w7 w8 := Free.Bel.trans _ _ _ HL_wr (hN)
          clear HL_wr
          have FN : ∀ W, Free.Bel w8 W → W.cell? ⟨0, 0, none⟩ = some (dblF 130) ∧ W.cell? ⟨0, 1, none⟩ = some (dblF 131) ∧ W.cell? ⟨0, 2, none⟩ = some (dblF 132) ∧ W.cell? ⟨bb, 0, none⟩ = some (.int .i64 N) ∧ W.cell? ⟨bb, 1, none⟩ = some (.int .i64 lo) ∧ W.cell? ⟨bb, 2, none⟩ = some (.int .i64 hi) ∧ bb + 1 ≤ W.heap.size ∧ bb ≤ W.heap.size ∧ W.cell? ⟨g50, 0, none⟩ = some (.int .i64 pn) ∧ W.cell? ⟨g50, 1, none⟩ = some (.int .i64 pd) ∧ W.cell? ⟨b15, 0, none⟩ = some (.int .i64 p) ∧ W.cell? ⟨b15, 1, none⟩ = some (.int .i64 q) := fun W hW => by
            obtain ⟨a0, a1, a2, a3, a4, a5, a6, a7, a8, a9⟩ := FA W (Free.Bel.trans _ _ _ (hN) hW)
            exact ⟨a0, a1, a2, a3, a4, a5, a6, a7, a8, a9, keepsB hW (cell_of_heap (o := 0) hl_b15 rfl), keepsB hW (cell_of_heap (o := 1) hl_b15 rfl)⟩
          clear FA HB_wr hz_wr KR
          have FA := FN
          clear FN
          have KR : Free.Bel w8 w8 := Free.Bel.refl _
          clear hR hF hj hxx hV hN hp_b15 hs_b15 hl_b15
          go_wp2_with fail
          refine (choose_any N j _ (by omega) (by omega) (by omega)).mono ?_
          rintro e _ ⟨rfl, rfl⟩
          rw [HAL.out]
          go_wp2_with fail
          refine (over_any mi al p q _ (by omega) (by omega) (by omega) (by omega) HO).mono ?_
          rintro e w9 ⟨rfl, hB⟩
          have HB_w9 := Lib.hid (HB_w8.out.trans ((hB).mono hz_w8))
          have hz_w9 : bb ≤ w9.heap.size := Nat.le_trans hz_w8 (hB).size
          have HL_w9 : Free.Bel w7 w9 := Free.Bel.trans _ _ _ HL_w8 (hB)
          clear HL_w8
          have FN : ∀ W, Free.Bel w9 W → W.cell? ⟨0, 0, none⟩ = some (dblF 130) ∧ W.cell? ⟨0, 1, none⟩ = some (dblF 131) ∧ W.cell? ⟨0, 2, none⟩ = some (dblF 132) ∧ W.cell? ⟨bb, 0, none⟩ = some (.int .i64 N) ∧ W.cell? ⟨bb, 1, none⟩ = some (.int .i64 lo) ∧ W.cell? ⟨bb, 2, none⟩ = some (.int .i64 hi) ∧ bb + 1 ≤ W.heap.size ∧ bb ≤ W.heap.size ∧ W.cell? ⟨g50, 0, none⟩ = some (.int .i64 pn) ∧ W.cell? ⟨g50, 1, none⟩ = some (.int .i64 pd) ∧ W.cell? ⟨b15, 0, none⟩ = some (.int .i64 p) ∧ W.cell? ⟨b15, 1, none⟩ = some (.int .i64 q) := fun W hW => by
            obtain ⟨a0, a1, a2, a3, a4, a5, a6, a7, a8, a9, a10, a11⟩ := FA W (Free.Bel.trans _ _ _ (hB) hW)
            exact ⟨a0, a1, a2, a3, a4, a5, a6, a7, a8, a9, a10, a11⟩
          clear FA HB_w8 hz_w8 KR
          have FA := FN
          clear FN
          have KR : Free.Bel w9 w9 := Free.Bel.refl _
          clear hB
          by_cases e : j = m
          · subst e
            have e1 : decide (al * pn ≤ (al - mi) * pd) = true := by rw [HFB.out]; simp
            go_wp2_with fail
            go_roundw
            case rel => exact ⟨j + 1, by omega, by go_num, HL_w9⟩
            case measure => first | (simp [intOf]; done) | (simp [intOf]; omega)
          · have e1 : decide (al * pn ≤ (al - mi) * pd) = false := by rw [HFB.out]; simp [e]
            have e2 : ((j : Int) == (m : Int)) = false := by simp; omega
            go_wp2_with fail
            go_roundw
            case rel => exact ⟨j + 1, by omega, by go_num, HL_w9⟩
            case measure => first | (simp [intOf]; done) | (simp [intOf]; omega)
        · obtain rfl : j = m + 1 := by omega
          go_wp2_with fail
          go_ret
          have hbb := HBB.out
          subst hbb
          exact ⟨rfl, HB_wr.out⟩
    · have hno := find_none N D pn pd (by omega) (by omega) (by omega) (by omega) hall
      clear hall
      obtain ⟨rfl, hpn⟩ := hno
      have e1 : decide (0 < pn) = true := decide_eq_true hpn
      go_wp2_with fail
      go_ret
      have hbb := HBB.out
      subst hbb
      exact ⟨rfl, HB_w7.out⟩
end Go.Proofs.YtdiclofeggkjcaaDoor

/- For every input the law SampleFind returns true, and its arguments read behind the call as they read before; what a double rule is asked lies in the table as the program's text lays it (tied). Condition: that table. -/
namespace Go.Proofs.YtdiclofeggkjcaaDoor.lawSampleFind
open Go Go.ChangeShapes Go.WideShapes Go.ChangeAt Go.RowKit
set_option linter.unusedVariables false
set_option linter.unusedSimpArgs false

set_option maxRecDepth 100000 in
theorem contract (H : Type) (enc : TypeId × Value → H) (W : World) (base : Nat) (args : Array Value) (ds gs : List (DataW H)) (before : List MemPlace)
    (hval : ∀ (j : Nat) t v, Tryd.f5.params[j]? = some t → args[j]? = some v → Value.okWide Tryd.prog W .any base t v)
    (hW : DataW.Whole enc Tryd.prog Tryd.f5.params.toList Rows.sampleFindSpec.vars false W args.toList ds gs before) (hL : laidMetH Tryd.prog Rows.sampleFindRow.laid W) :
    Calls Tryd.prog 5 args W fun e W' => ∃ v, e = .returned v ∧ Rows.sampleFindSpec.post enc Tryd.prog Tryd.f5 false true false false W args v W' := by
  have hW' := hW
  obtain ⟨p, q, hA0, hV, rfl, hfz, hnd⟩ := hW
  have hA : DataW.TrodAll enc Tryd.prog W 0 (fun _ => true) true Tryd.f5.params.toList args.toList ds p := hA0
  have hAk := hA
  rw [Tryd.params5] at hA hval
  obtain ⟨v0, vs0, d0, ds0, p0, q0, hargs, rfl, rfl, h0, r0⟩ := trodAll_cons hA
  obtain ⟨v1, vs1, d1, ds1, p1, q1, rfl, rfl, rfl, h1, r1⟩ := trodAll_cons r0
  obtain ⟨v2, vs2, d2, ds2, p2, q2, rfl, rfl, rfl, h2, r2⟩ := trodAll_cons r1
  obtain ⟨v3, vs3, d3, ds3, p3, q3, rfl, rfl, rfl, h3, r3⟩ := trodAll_cons r2
  obtain ⟨rfl, rfl, rfl⟩ := trodAll_nil r3
  obtain rfl : args = #[v0, v1, v2, v3] := by cases args; simp_all
  obtain ⟨rfl, rfl⟩ := trodVars_none hV
  have hlt : ∀ x ∈ p0 ++ (p1 ++ (p2 ++ (p3 ++ ([])))), x.block < W.heap.size := fun x hx => by
    have := hW'.lt x (by simpa using hx)
    simpa using this
  obtain ⟨N, lo, hi, rfl⟩ := Law.shape12 Tryd.underlying26 (by kernel_rfl) Tryd.underlying3 rfl (by kernel_rfl) rfl (by kernel_rfl) Tryd.underlying24 Tryd.underlying3 Tryd.underlying3 rfl rfl (by kernel_rfl) (by kernel_rfl) (hval 0 26 _ rfl rfl) h0
  obtain ⟨x, rfl, _, hwf1⟩ := open_int Tryd.underlying5 (hval 1 5 _ rfl rfl) h1
  obtain ⟨n, rfl, _, hwf2⟩ := open_int Tryd.underlying37 (hval 2 37 _ rfl rfl) h2
  obtain ⟨d, rfl, _, hwf3⟩ := open_int Tryd.underlying37 (hval 3 37 _ rfl rfl) h3
  refine (findL_walk N lo hi x n d W (Tab.of_laid hL) (u8_wf hwf1.2) (u16_wf hwf2.2) (u16_wf hwf3.2)).mono fun e W' ⟨he, hg⟩ => ?_
  subst he
  refine ⟨_, rfl, _, _, _, [], p0 ++ (p1 ++ (p2 ++ (p3 ++ ([])))), [], hW', ?_, ?_, ?_, hg.frame _, fun h => by cases h⟩
  · exact trodAll_cons_mk (shut_bool Tryd.underlying4 true) trodAll_mk0
  · exact Law.args_below Tab.laidOut (by kernel_rfl) hg hAk hlt
  · rfl

set_option maxRecDepth 100000 in
theorem lifted (os : Os) (started : os.Started) (H : Type) (enc : TypeId × Value → H) :
    ReturnsInHanded {} Tryd.checked os 5 .any (fun w args => (Rows.sampleFindSpec.pre enc Tryd.prog Tryd.f5 [] false w args ∧ laidMetH Tryd.prog Rows.sampleFindRow.laid w) ∧ sizedMet enc Tryd.prog Tryd.f5 (OpenSpec.ofChange Rows.sampleFindSpec) false w args) (Rows.sampleFindSpec.post enc Tryd.prog Tryd.f5 false true false false) := by
  refine returnsInHanded_of_change_and (C := Tryd.checked) (X := fun w _ => laidMetH Tryd.prog Rows.sampleFindRow.laid w) (fun _ _ _ hh h => h.of_heap hh) Tab.own started (by kernel_rfl) Tryd.func5
    (ChangeSpec.witness_shaped (enc := enc) (C := Tryd.checked) (os := os) (X := fun w _ => laidMetH Tryd.prog Rows.sampleFindRow.laid w) false (World.doorLaid Tryd.prog 17 os) #[.agg #[.int .i64 0, .int .i64 0, .int .i64 0], .int .u8 0, .int .u16 0, .int .u16 0] 8 rfl (World.shaped_of_RefB (by kernel_rfl) (by kernel_rfl)) (by kernel_rfl) (by kernel_rfl) (by kernel_rfl) (Tab.door_met os _)) ?_
  intro W base args ds gs before hval hW _ _ hL _
  exact contract H enc W base args ds gs before hval hW hL

theorem said : Rows.SampleFindSaid :=
  OpenClaim.holds_of_wide 5 Tryd.f5 rfl rfl rfl rfl rfl rfl rfl ⟨rfl, rfl, rfl, rfl, rfl⟩ rfl rfl rfl rfl rfl (by kernel_rfl) Tryd.func5 (by kernel_rfl)
    (of_decide_eq_true (by kernel_rfl)) (by unfold Func.isWrapper; first | (rw [if_pos (by decide +kernel)]; kernel_rfl) | (rw [if_neg (by decide +kernel)]; exact ⟨rfl, rfl⟩))
    (fun os started H enc _ => lifted os started H enc)

theorem plain (f : FuncId) (fn : Func) (hf : Tryd.pinned.checked.prog.funcNamed "oilcake/oilcakelaw01.SampleFind" = some f) (hfn : Tryd.pinned.checked.prog.funcs[f]? = some fn) :
    false = Tryd.pinned.checked.prog.looks [] ∧ ∀ (j : Nat) t, fn.params[j]? = some t → Tryd.pinned.checked.prog.wantsStandIn t = false := by
  obtain rfl : f = 5 := Option.some.inj ((show Tryd.prog.funcNamed "oilcake/oilcakelaw01.SampleFind" = some 5 by kernel_rfl).symm.trans hf) |>.symm
  obtain rfl : fn = Tryd.f5 := (Option.some.inj (Tryd.func5.symm.trans hfn)).symm
  refine ⟨by kernel_rfl, fun j t ht => ?_⟩
  rw [Tryd.params5] at ht
  have hm := Array.mem_of_getElem? ht
  have hall : (Tryd.f5.params.toList.all fun u => !Tryd.prog.wantsStandIn u) = true := by kernel_rfl
  rw [Tryd.params5] at hall
  exact (show Tryd.prog.wantsStandIn t = false by simpa using List.all_eq_true.1 hall t (by simpa using hm))

theorem card : Rows.SampleFindCardSaid :=
  Claim7.holds_tied_plain_at .later [] _ _ _ _ said (fun _ h => by cases h) (by kernel_rfl) (fun _ h => by cases h) sampleFind_row_tie rfl ⟨rfl, rfl⟩ (by kernel_rfl) rfl plain (by kernel_rfl)
#print axioms card
end Go.Proofs.YtdiclofeggkjcaaDoor.lawSampleFind

