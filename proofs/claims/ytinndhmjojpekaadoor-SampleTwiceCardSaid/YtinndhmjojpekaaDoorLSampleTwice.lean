/- For every input the law SampleTwice returns true, and its arguments read behind the call as they read before; what a double rule is asked lies in the table as the program's text lays it (tied). Condition: that table. -/
/- A number of the span, told ahead. -/
import Derived.Test.YtinndhmjojpekaaDoorB7
namespace Go.Proofs.YtinndhmjojpekaaDoor
set_option linter.unusedSimpArgs false
set_option linter.unusedVariables false
open Go.RowKit

set_option maxRecDepth 100000 in
set_option maxHeartbeats 2000000 in
theorem some_v (N lo hi x D : Int) (w : World) (hlo : 0 ≤ lo ∧ lo ≤ hi ∧ hi ≤ 36) (hx : 0 ≤ x ∧ x ≤ 255) (hD : Hid (lo + x % (hi - lo + 1) = D)) :
    Calls Tryd.prog 6 #[.agg #[.int .i64 N, .int .i64 lo, .int .i64 hi], .int .u8 x] w fun e w' => e = .returned (.int .i64 D) ∧ Below w.heap.size w w' := by
  have hm0 : 0 ≤ x % (hi - lo + 1) := Int.emod_nonneg _ (by omega)
  have hm1 : x % (hi - lo + 1) < hi - lo + 1 := Int.emod_lt_of_pos _ (by omega)
  have hc : IntKind.i64.wrap x = x := IntWalk.i64_in _ (by omega)
  have hs : IntKind.i64.wrap (hi - lo) = hi - lo := IntWalk.i64_in _ (by omega)
  have hs2 : IntKind.i64.wrap (hi - lo + 1) = hi - lo + 1 := IntWalk.i64_in _ (by omega)
  have hne : (hi - lo + 1 != 0) = true := by simp; omega
  have ht : x.tmod (hi - lo + 1) = x % (hi - lo + 1) := Int.tmod_eq_emod_of_nonneg hx.1
  have hs3 : IntKind.i64.wrap (x % (hi - lo + 1)) = x % (hi - lo + 1) := IntWalk.i64_in _ (by omega)
  have hs4 : IntKind.i64.wrap (lo + x % (hi - lo + 1)) = lo + x % (hi - lo + 1) := IntWalk.i64_in _ (by omega)
  have hB0 : Below w.heap.size w (w.alloc (.cells #[.int .i64 N, .int .i64 lo, .int .i64 hi] 25)) := (Below.refl _ w).alloc (Nat.le_refl _) _
  have c0_0 : (w.alloc (.cells #[.int .i64 N, .int .i64 lo, .int .i64 hi] 25)).cell? ⟨w.heap.size, 0, none⟩ = some (.int .i64 N) := by simp [go_sem]
  have c0_1 : (w.alloc (.cells #[.int .i64 N, .int .i64 lo, .int .i64 hi] 25)).cell? ⟨w.heap.size, 1, none⟩ = some (.int .i64 lo) := by simp [go_sem]
  have c0_2 : (w.alloc (.cells #[.int .i64 N, .int .i64 lo, .int .i64 hi] 25)).cell? ⟨w.heap.size, 2, none⟩ = some (.int .i64 hi) := by simp [go_sem]
  go_enter Tryd.func6, Tryd.ntmps6
  go_wp2_with fail
  generalize (w.alloc (.cells #[.int .i64 N, .int .i64 lo, .int .i64 hi] 25)) = W0 at *
  go_quiet (fail)
  go_wp2_with fail
  go_ret
  exact ⟨by rw [← hD.out]; rfl, belDrewN hB0 _⟩
theorem some_bounds (lo hi x : Int) (hlo : lo ≤ hi) : ∃ D, Hid (lo + x % (hi - lo + 1) = D) ∧ lo ≤ D ∧ D ≤ hi := by
  have hm0 : 0 ≤ x % (hi - lo + 1) := Int.emod_nonneg _ (by omega)
  have hm1 : x % (hi - lo + 1) < hi - lo + 1 := Int.emod_lt_of_pos _ (by omega)
  exact ⟨_, rfl, by omega, by omega⟩
end Go.Proofs.YtinndhmjojpekaaDoor

/- Double rules lie between two rules. No walk here. -/
namespace Go.Proofs.YtinndhmjojpekaaDoor
set_option linter.unusedSimpArgs false
set_option linter.unusedVariables false
open Go.RowKit Go.Proofs.YtinndhmjojpekaaDoor.ML Go.Proofs.YtinndhmjojpekaaDoor.Samp

theorem restI_le (N D F A S T : Int) (k : Nat) (h0 : 0 ≤ D) (h1 : D ≤ N) (hF : 0 ≤ F ∧ F ≤ N) (hS : 0 ≤ S) (hw : waysI N D F k ≠ 0) : 0 ≤ restI N D F A S T k ∧ restI N D F A S T k ≤ chI (N - F) S := by
  have h := ways_ne N D F k h0 h1 hw
  unfold restI
  split
  · exact ⟨(chI_pow (N - F) S (by omega)).1, Int.le_refl _⟩
  · exact fewI_le (N - F) (D - k) S (by omega) (by omega) hS _
/-- What a double rule accepts is at most what its last number does. -/
theorem accI_few (N D F A S T : Int) (h0 : 0 ≤ D) (h1 : D ≤ N) (hF : 0 ≤ F ∧ F ≤ N) (hS : 0 ≤ S) : ∀ k : Nat, 0 ≤ accI N D F A S T k ∧ accI N D F A S T k ≤ fewI N D F k * chI (N - F) S
  | 0 => by simp [accI, fewI, midI]
  | k + 1 => by
    obtain ⟨a1, a2⟩ := accI_few N D F A S T h0 h1 hF hS k
    have hw := waysI_nonneg N D F k h0 h1
    rw [accI, fewI_succ, Int.add_mul]
    by_cases h : waysI N D F k = 0
    · rw [h]; simp; omega
    · have hr := restI_le N D F A S T k h0 h1 hF hS h
      have m1 := Int.mul_nonneg hw hr.1
      have m2 := Int.mul_le_mul_of_nonneg_left hr.2 hw
      omega
/-- .. and at least what its first number does. -/
theorem accI_least (N D F A S T : Int) (h0 : 0 ≤ D) (h1 : D ≤ N) (hF : 0 ≤ F ∧ F ≤ N) (hS : 0 ≤ S) : ∀ k : Nat, fewI N D F (min k (A + 1).toNat) * chI (N - F) S ≤ accI N D F A S T k
  | 0 => by simp [accI, fewI, midI]
  | k + 1 => by
    have ih := accI_least N D F A S T h0 h1 hF hS k
    have hw := waysI_nonneg N D F k h0 h1
    rw [accI]
    by_cases hk : (k : Int) ≤ A
    · rw [show min (k + 1) (A + 1).toNat = k + 1 by omega, fewI_succ, Int.add_mul]
      rw [show min k (A + 1).toNat = k by omega] at ih
      have : restI N D F A S T k = chI (N - F) S := by rw [restI, if_pos hk]
      rw [this]; omega
    · rw [show min (k + 1) (A + 1).toNat = min k (A + 1).toNat by omega]
      by_cases h : waysI N D F k = 0
      · rw [h]; simp; exact ih
      · have hr := restI_le N D F A S T k h0 h1 hF hS h
        have m1 := Int.mul_nonneg hw hr.1
        omega
/-- Without second bags. -/
theorem accI_zero (N D F A T : Int) (h0 : 0 ≤ D) (h1 : D ≤ N) (hF : 0 ≤ F ∧ F ≤ N) (hA : 0 ≤ A) (hAT : A ≤ T) : ∀ k : Nat, accI N D F A 0 T k = fewI N D F (min k (T + 1).toNat)
  | 0 => by simp [accI, fewI, midI]
  | k + 1 => by
    rw [accI, accI_zero N D F A T h0 h1 hF hA hAT k]
    by_cases h : waysI N D F k = 0
    · rw [h, Int.zero_mul, Int.add_zero]
      by_cases hk : (k : Int) ≤ T
      · rw [show min (k + 1) (T + 1).toNat = k + 1 by omega, fewI_succ, h, show min k (T + 1).toNat = k by omega]; omega
      · rw [show min (k + 1) (T + 1).toNat = min k (T + 1).toNat by omega]
    · have hn := ways_ne N D F k h0 h1 h
      have hr : restI N D F A 0 T k = if (k : Int) ≤ T then 1 else 0 := by
        unfold restI
        by_cases hk : (k : Int) ≤ A
        · rw [if_pos hk, if_pos (by omega), chI_zero]
        · rw [if_neg hk]
          by_cases hk2 : (k : Int) ≤ T
          · rw [if_pos hk2, show (min 0 (T - (k : Int)) + 1).toNat = 0 + 1 by omega, fewI_succ]
            simp [fewI, midI, waysI, chI_zero]
          · rw [if_neg hk2, show (min 0 (T - (k : Int)) + 1).toNat = 0 by omega]
            simp [fewI, midI]
      rw [hr]
      by_cases hk : (k : Int) ≤ T
      · rw [if_pos hk, show min (k + 1) (T + 1).toNat = k + 1 by omega, fewI_succ, show min k (T + 1).toNat = k by omega]; omega
      · rw [if_neg hk, show min (k + 1) (T + 1).toNat = min k (T + 1).toNat by omega]; omega
theorem low_spec (m all p q : Int) (h0 : 0 ≤ m) (h2 : 0 < all) (hv : partV m.toNat all.toNat = i2 p q) : ∃ g, 0 < g ∧ m = g * p ∧ all = g * q ∧ 1 ≤ q ∧ q ≤ all ∧ 0 ≤ p ∧ p ≤ m := by
  obtain ⟨a, rfl⟩ := Int.eq_ofNat_of_zero_le h0
  obtain ⟨b, rfl⟩ := Int.eq_ofNat_of_zero_le (Int.le_of_lt h2)
  simp only [partV, lowest, Int.toNat_natCast, i2, Value.agg.injEq, Array.mk.injEq, List.cons.injEq, Value.int.injEq, true_and, and_true] at hv
  obtain ⟨rfl, rfl⟩ := hv
  have hb : 0 < b := by omega
  have hg : 0 < Nat.gcd a b := Nat.gcd_pos_of_pos_right a hb
  have hd1 := Nat.gcd_dvd_left a b
  have hd2 := Nat.gcd_dvd_right a b
  generalize hge : Nat.gcd a b = g at *
  obtain ⟨x, rfl⟩ := hd1
  obtain ⟨y, rfl⟩ := hd2
  rw [Nat.mul_div_cancel_left _ hg, Nat.mul_div_cancel_left _ hg]
  have hy : 0 < y := Nat.pos_of_mul_pos_left hb
  have hgy : y ≤ g * y := Nat.le_mul_of_pos_left y hg
  have hgx : x ≤ g * x := Nat.le_mul_of_pos_left x hg
  exact ⟨g, by omega, by simp, by simp, by omega, by exact_mod_cast hgy, by omega, by exact_mod_cast hgx⟩
theorem low_le {a b c d p q r s : Int} (ha : 0 ≤ a) (hb : 0 < b) (hc : 0 ≤ c) (hd : 0 < d) (h1 : partV a.toNat b.toNat = i2 p q) (h2 : partV c.toNat d.toNat = i2 r s) (h : a * d ≤ c * b) : p * s ≤ r * q := by
  obtain ⟨g, g1, rfl, rfl, _⟩ := low_spec a b p q ha hb h1
  obtain ⟨k, k1, rfl, rfl, _⟩ := low_spec c d r s hc hd h2
  refine Int.le_of_mul_le_mul_left ?_ (Int.mul_pos g1 k1)
  have e1 : g * k * (p * s) = g * p * (k * s) := by ac_rfl
  have e2 : g * k * (r * q) = k * r * (g * q) := by ac_rfl
  rw [e1, e2]
  exact h
theorem partV_one (n : Int) (h : 0 ≤ n) : partV n.toNat (1 : Int).toNat = i2 n 1 := by
  simp [partV, lowest, Nat.gcd_one_right]
  omega
theorem twice_math (N D F a R S T : Int) (hN : 1 ≤ N ∧ N ≤ 36) (hD : 0 ≤ D ∧ D ≤ N) (hF : 0 ≤ F ∧ F ≤ N) (hS : 0 ≤ S ∧ S ≤ N - F) (ha : 0 ≤ a ∧ a ≤ F) (hR : a + 1 ≤ R ∧ R ≤ F + 1) (hT : a ≤ T) :
    ∃ lp lq hp hq pp pq op oq np nq : Int, mostV N D F a = i2 lp lq ∧ mostV N D F (R - 1) = i2 hp hq ∧ twiceV1 N D F a R S T = i2 pp pq ∧ twiceV2 N D F a R S = i2 op oq ∧ mostV N D F (min (min T R) (R - 1)) = i2 np nq ∧ twiceV1 N D F a R 0 (min T R) = i2 np nq ∧ twiceV2 N D F a R 0 = i2 F 1 ∧
      (lp * pq ≤ pp * lq ∧ pp * hq ≤ hp * pq ∧ F * oq ≤ op * 1 ∧ op * 1 ≤ (F + S) * oq) ∧ ((0 ≤ lp ∧ lp ≤ 9000000000000000000) ∧ 1 ≤ lq ∧ lq ≤ 9000000000000000000) ∧ ((0 ≤ hp ∧ hp ≤ 9000000000000000000) ∧ 1 ≤ hq ∧ hq ≤ 9000000000000000000) ∧ ((0 ≤ pp ∧ pp ≤ 9000000000000000000) ∧ 1 ≤ pq ∧ pq ≤ 9000000000000000000) ∧ ((0 ≤ op ∧ op ≤ 9000000000000000000) ∧ 1 ≤ oq ∧ oq ≤ 9000000000000000000) := by
  have cN := chI_pos N F (by omega) (by omega) (by omega) (by omega)
  have cS := chI_pos (N - F) S (by omega) (by omega) (by omega) (by omega)
  have h33 := chI_three N F S (by omega) (by omega) (by omega)
  have hc12 : 0 < chI N F * chI (N - F) S := Int.mul_pos (by omega) (by omega)
  have hac := accI_few N D F a S T (by omega) (by omega) (by omega) (by omega) R.toNat
  have hal := accI_least N D F a S T (by omega) (by omega) (by omega) (by omega) R.toNat
  have hag := againI_le N D F a (by omega) (by omega) R.toNat
  have hfl := fewI_le N D F (by omega) (by omega) (by omega) R.toNat
  have ea : mostI N D F a = fewI N D F (min R.toNat (a + 1).toNat) := by rw [mostI_few N D F a (by omega) (by omega), show min R.toNat (a + 1).toNat = (a + 1).toNat by omega]
  have er : mostI N D F (R - 1) = fewI N D F R.toNat := by rw [mostI_few N D F (R - 1) (by omega) (by omega), show R - 1 + 1 = R by omega]
  have ml := mostI_le N D F a (by omega) (by omega) (by omega) (by omega)
  have mh := mostI_le N D F (R - 1) (by omega) (by omega) (by omega) (by omega)
  rw [← ea] at hal
  rw [← er] at hac hag hfl
  have hz := accI_zero N D F a (min T R) (by omega) (by omega) (by omega) (by omega) (by omega) R.toNat
  have ez : mostI N D F (min (min T R) (R - 1)) = accI N D F a 0 (min T R) R.toNat := by rw [hz, mostI_few N D F _ (by omega) (by omega)]; congr 1; omega
  obtain ⟨lp, lq, hlp⟩ : ∃ p q, mostV N D F a = i2 p q := ⟨_, _, rfl⟩
  obtain ⟨hp, hq, hhp⟩ : ∃ p q, mostV N D F (R - 1) = i2 p q := ⟨_, _, rfl⟩
  obtain ⟨pp, pq, hpp⟩ : ∃ p q, twiceV1 N D F a R S T = i2 p q := ⟨_, _, rfl⟩
  obtain ⟨op, oq, hop⟩ : ∃ p q, twiceV2 N D F a R S = i2 p q := ⟨_, _, rfl⟩
  obtain ⟨np, nq, hnp⟩ : ∃ p q, mostV N D F (min (min T R) (R - 1)) = i2 p q := ⟨_, _, rfl⟩
  have hnp2 : twiceV1 N D F a R 0 (min T R) = i2 np nq := by rw [← hnp, twiceV1, mostV, ez, chI_zero, Int.mul_one]
  have hsame : twiceV2 N D F a R 0 = i2 F 1 := by
    rw [twiceV2, Int.zero_mul, Int.add_zero, ← partV_one F (by omega)]
    exact partV_cross _ _ _ _ (Int.mul_nonneg (by omega) (by omega)) (by omega) (by omega) (by omega) (by rw [Int.mul_one])
  have k1 : lp * pq ≤ pp * lq := low_le ml.1 (by omega) hac.1 hc12 hlp hpp (by
    have := Int.mul_le_mul_of_nonneg_right hal (show 0 ≤ chI N F by omega)
    have e : mostI N D F a * (chI N F * chI (N - F) S) = mostI N D F a * chI (N - F) S * chI N F := by ac_rfl
    rw [e]; exact this)
  have k2 : pp * hq ≤ hp * pq := low_le hac.1 hc12 mh.1 (by omega) hpp hhp (by
    have := Int.mul_le_mul_of_nonneg_right hac.2 (show 0 ≤ chI N F by omega)
    have e : mostI N D F (R - 1) * (chI N F * chI (N - F) S) = mostI N D F (R - 1) * chI (N - F) S * chI N F := by ac_rfl
    rw [e]; exact this)
  have hsa := Int.mul_nonneg (show (0 : Int) ≤ S by omega) hag.1
  have hsb : S * againI N D F a R.toNat ≤ S * chI N F := Int.mul_le_mul_of_nonneg_left (by omega) (by omega)
  have hfc : 0 ≤ F * chI N F := Int.mul_nonneg (by omega) (by omega)
  have k3 : F * oq ≤ op * 1 := low_le (a := F) (b := 1) (by omega) (by omega) (show 0 ≤ F * chI N F + S * againI N D F a R.toNat by omega) (by omega) (partV_one F (by omega)) hop (by rw [Int.mul_one]; omega)
  have k4 : op * 1 ≤ (F + S) * oq := low_le (c := F + S) (d := 1) (show 0 ≤ F * chI N F + S * againI N D F a R.toNat by omega) (by omega) (by omega) (by omega) hop (partV_one (F + S) (by omega)) (by rw [Int.mul_one, Int.add_mul]; omega)
  obtain ⟨_, _, _, _, l1, l2, l3, l4⟩ := low_spec _ _ lp lq ml.1 (by omega) hlp
  obtain ⟨_, _, _, _, g1, g2, g3, g4⟩ := low_spec _ _ hp hq mh.1 (by omega) hhp
  obtain ⟨_, _, _, _, p1, p2, p3, p4⟩ := low_spec _ _ pp pq hac.1 hc12 hpp
  obtain ⟨_, _, _, _, o1, o2, o3, o4⟩ := low_spec _ _ op oq (show 0 ≤ F * chI N F + S * againI N D F a R.toNat by omega) (by omega) hop
  have hfb : F * chI N F ≤ 36 * 68719476736 := Int.mul_le_mul (by omega) (by omega) (by omega) (by omega)
  have hsc : S * chI N F ≤ 36 * 68719476736 := Int.mul_le_mul (by omega) (by omega) (by omega) (by omega)
  have hab : accI N D F a S T R.toNat ≤ 150094635296999121 := by
    have h1 := Int.mul_le_mul_of_nonneg_right mh.2 (show 0 ≤ chI (N - F) S by omega)
    omega
  have bl : (0 ≤ lp ∧ lp ≤ 9000000000000000000) ∧ 1 ≤ lq ∧ lq ≤ 9000000000000000000 := by omega
  have bh : (0 ≤ hp ∧ hp ≤ 9000000000000000000) ∧ 1 ≤ hq ∧ hq ≤ 9000000000000000000 := by omega
  have bp : (0 ≤ pp ∧ pp ≤ 9000000000000000000) ∧ 1 ≤ pq ∧ pq ≤ 9000000000000000000 := by omega
  have bo : (0 ≤ op ∧ op ≤ 9000000000000000000) ∧ 1 ≤ oq ∧ oq ≤ 9000000000000000000 := by omega
  exact ⟨lp, lq, hp, hq, pp, pq, op, oq, np, nq, hlp, hhp, hpp, hop, hnp, hnp2, hsame, ⟨k1, k2, k3, k4⟩, bl, bh, bp, bo⟩
end Go.Proofs.YtinndhmjojpekaaDoor

/- The law about double rules between two rules: its walk. -/
namespace Go.Proofs.YtinndhmjojpekaaDoor
set_option linter.unusedSimpArgs false
set_option linter.unusedVariables false
open Go.RowKit Go.Proofs.YtinndhmjojpekaaDoor.ML Go.Proofs.YtinndhmjojpekaaDoor.Samp

theorem rights_ok {N F A R S T : Int} (h : 0 ≤ F ∧ F ≤ N ∧ 0 ≤ S ∧ S ≤ N - F ∧ 0 ≤ A ∧ A ≤ F ∧ A + 1 ≤ R ∧ R ≤ F + 1 ∧ A ≤ T ∧ T ≤ R + S) : rightsB N F A R S T = true := by
  simp [rightsB, right1, right2, right3, inB]
  omega
theorem twice_ok (N lo hi F A R S T D p q r s : Int) (w : World) (hT : TabD w) (hc : 1 ≤ N ∧ N ≤ 36 ∧ 0 ≤ lo ∧ lo ≤ hi ∧ hi ≤ N) (hD : lo ≤ D ∧ D ≤ hi) (h : 0 ≤ F ∧ F ≤ N ∧ 0 ≤ S ∧ S ≤ N - F ∧ 0 ≤ A ∧ A ≤ F ∧ A + 1 ≤ R ∧ R ≤ F + 1 ∧ A ≤ T ∧ T ≤ R + S)
    (h1 : Hid (twiceV1 N D F A R S T = i2 p q)) (h2 : Hid (twiceV2 N D F A R S = i2 r s)) :
    Calls Tryd.prog 7 #[.agg #[.int .i64 N, .int .i64 lo, .int .i64 hi], .agg #[.int .i64 F, .int .i64 A, .int .i64 R, .int .i64 S, .int .i64 T], .int .i64 D] w fun e w' => e = .returned (.tuple #[i2 p q, i2 r s, .int .i64 0]) ∧ Below w.heap.size w w' := by
  have h0 := twice_any N lo hi F A R S T D w hT
  have hi : inB lo hi [D] = true := by simp [inB]; omega
  rw [twiceAll, cargoB_ok hc, if_neg (by decide), twiceR, rights_ok h, if_neg (by decide), hi, if_neg (by decide), h1.out, h2.out] at h0
  exact h0
theorem minOf2 (x y : Int) : (if y < x then y else x) = min x y := by split <;> omega

theorem storedT {bb g : Nat} {w cur : World} {N lo hi F a R S T m : Int} (hbg : bb < g) (hB : Below bb w cur) (hz : bb ≤ cur.heap.size)
    (q0 : cur.cell? ⟨0, 0, none⟩ = some (dblF 108)) (q1 : cur.cell? ⟨0, 1, none⟩ = some (dblF 109)) (q2 : cur.cell? ⟨0, 2, none⟩ = some (dblF 110)) (q3 : cur.cell? ⟨bb, 0, none⟩ = some (.int .i64 N)) (q4 : cur.cell? ⟨bb, 1, none⟩ = some (.int .i64 lo)) (q5 : cur.cell? ⟨bb, 2, none⟩ = some (.int .i64 hi)) (q6 : cur.cell? ⟨g, 0, none⟩ = some (.int .i64 F)) (q7 : cur.cell? ⟨g, 1, none⟩ = some (.int .i64 a)) (q8 : cur.cell? ⟨g, 2, none⟩ = some (.int .i64 R)) (q9 : cur.cell? ⟨g, 3, none⟩ = some (.int .i64 S)) (q10 : cur.cell? ⟨g, 4, none⟩ = some (.int .i64 T)) :
    Below bb w ((cur.setCell ⟨g, 4, none⟩ (.int .i64 m)).setCell ⟨g, 3, none⟩ (.int .i64 0)) ∧ bb ≤ (((cur.setCell ⟨g, 4, none⟩ (.int .i64 m)).setCell ⟨g, 3, none⟩ (.int .i64 0))).heap.size ∧ ((cur.setCell ⟨g, 4, none⟩ (.int .i64 m)).setCell ⟨g, 3, none⟩ (.int .i64 0)).cell? ⟨0, 0, none⟩ = some (dblF 108) ∧ ((cur.setCell ⟨g, 4, none⟩ (.int .i64 m)).setCell ⟨g, 3, none⟩ (.int .i64 0)).cell? ⟨0, 1, none⟩ = some (dblF 109) ∧ ((cur.setCell ⟨g, 4, none⟩ (.int .i64 m)).setCell ⟨g, 3, none⟩ (.int .i64 0)).cell? ⟨0, 2, none⟩ = some (dblF 110) ∧ ((cur.setCell ⟨g, 4, none⟩ (.int .i64 m)).setCell ⟨g, 3, none⟩ (.int .i64 0)).cell? ⟨bb, 0, none⟩ = some (.int .i64 N) ∧ ((cur.setCell ⟨g, 4, none⟩ (.int .i64 m)).setCell ⟨g, 3, none⟩ (.int .i64 0)).cell? ⟨bb, 1, none⟩ = some (.int .i64 lo) ∧ ((cur.setCell ⟨g, 4, none⟩ (.int .i64 m)).setCell ⟨g, 3, none⟩ (.int .i64 0)).cell? ⟨bb, 2, none⟩ = some (.int .i64 hi) ∧ ((cur.setCell ⟨g, 4, none⟩ (.int .i64 m)).setCell ⟨g, 3, none⟩ (.int .i64 0)).cell? ⟨g, 0, none⟩ = some (.int .i64 F) ∧ ((cur.setCell ⟨g, 4, none⟩ (.int .i64 m)).setCell ⟨g, 3, none⟩ (.int .i64 0)).cell? ⟨g, 1, none⟩ = some (.int .i64 a) ∧ ((cur.setCell ⟨g, 4, none⟩ (.int .i64 m)).setCell ⟨g, 3, none⟩ (.int .i64 0)).cell? ⟨g, 2, none⟩ = some (.int .i64 R) ∧ ((cur.setCell ⟨g, 4, none⟩ (.int .i64 m)).setCell ⟨g, 3, none⟩ (.int .i64 0)).cell? ⟨g, 3, none⟩ = some (.int .i64 0) ∧ ((cur.setCell ⟨g, 4, none⟩ (.int .i64 m)).setCell ⟨g, 3, none⟩ (.int .i64 0)).cell? ⟨g, 4, none⟩ = some (.int .i64 m) := by
  refine ⟨(hB.setCell (p := ⟨g, 4, none⟩) (by simp; omega) _).setCell (p := ⟨g, 3, none⟩) (by simp; omega) _, by simpa using hz, ?_, ?_, ?_, ?_, ?_, ?_, ?_, ?_, ?_, ?_, ?_⟩
  iterate 6 (first | (rw [World.cell?_setCell_far _ _ _ _ (by simp; omega), World.cell?_setCell_far _ _ _ _ (by simp; omega)]; first | exact q0 | exact q1 | exact q2 | exact q3 | exact q4 | exact q5) | skip)
  all_goals simp [go_sem, q6, q7, q8, q9, q10]

theorem twice_nums (N e1 e2 e3 e4 e5 : Int) (hN : 1 ≤ N ∧ N ≤ 36) (h1 : 0 ≤ e1 ∧ e1 ≤ 255) (h2 : 0 ≤ e2 ∧ e2 ≤ 255) (h3 : 0 ≤ e3 ∧ e3 ≤ 255) (h4 : 0 ≤ e4 ∧ e4 ≤ 255) (h5 : 0 ≤ e5 ∧ e5 ≤ 255) : ∃ F S a r0 R t0 T : Int, (IntKind.i64.wrap (N + 1) = N + 1) ∧ ((N + 1 != 0) = true) ∧ (¬ (N + 1 = 0)) ∧ (IntKind.i64.wrap e1 = e1) ∧ (e1.tmod (N + 1) = F) ∧ (IntKind.i64.wrap F = F) ∧ (IntKind.i64.wrap (N - F) = N - F) ∧ (IntKind.i64.wrap (N - F + 1) = N - F + 1) ∧ ((N - F + 1 != 0) = true) ∧ (¬ (N - F + 1 = 0)) ∧ (IntKind.i64.wrap e4 = e4) ∧ (e4.tmod (N - F + 1) = S) ∧ (IntKind.i64.wrap S = S) ∧ (IntKind.i64.wrap (F + 1) = F + 1) ∧ ((F + 1 != 0) = true) ∧ (¬ (F + 1 = 0)) ∧ (IntKind.i64.wrap e2 = e2) ∧ (e2.tmod (F + 1) = a) ∧ (IntKind.i64.wrap a = a) ∧ (IntKind.i64.wrap (a + 1) = a + 1) ∧ (IntKind.i64.wrap (F - a) = F - a) ∧ (IntKind.i64.wrap (F - a + 1) = F - a + 1) ∧ ((F - a + 1 != 0) = true) ∧ (¬ (F - a + 1 = 0)) ∧ (IntKind.i64.wrap e3 = e3) ∧ (e3.tmod (F - a + 1) = r0) ∧ (IntKind.i64.wrap r0 = r0) ∧ (IntKind.i64.wrap (a + 1 + r0) = R) ∧ (IntKind.i64.wrap (R + S) = R + S) ∧ (IntKind.i64.wrap (R + S - a) = R + S - a) ∧ (IntKind.i64.wrap (R + S - a + 1) = R + S - a + 1) ∧ ((R + S - a + 1 != 0) = true) ∧ (¬ (R + S - a + 1 = 0)) ∧ (IntKind.i64.wrap e5 = e5) ∧ (e5.tmod (R + S - a + 1) = t0) ∧ (IntKind.i64.wrap t0 = t0) ∧ (IntKind.i64.wrap (a + t0) = T) ∧ (IntKind.i64.wrap (R - 1) = R - 1) ∧ (IntKind.i64.wrap (F + S) = F + S) ∧ ((0 ≤ F ∧ F ≤ N) ∧ (0 ≤ S ∧ S ≤ N - F) ∧ (0 ≤ a ∧ a ≤ F) ∧ (a + 1 ≤ R ∧ R ≤ F + 1) ∧ (a ≤ T ∧ T ≤ R + S)) := by
  have v1 : IntKind.i64.wrap (N + 1) = N + 1 := IntWalk.i64_in _ (by omega)
  have v2 : (N + 1 != 0) = true := by simp; omega
  have v2b : ¬ (N + 1 = 0) := by omega
  have mF0 : 0 ≤ e1 % (N + 1) := Int.emod_nonneg _ (by omega)
  have mF1 : e1 % (N + 1) < (N + 1) := Int.emod_lt_of_pos _ (by omega)
  have cF : IntKind.i64.wrap e1 = e1 := IntWalk.i64_in _ (by omega)
  have dF : e1.tmod (N + 1) = e1 % (N + 1) := Int.tmod_eq_emod_of_nonneg (by omega)
  obtain ⟨F, hF⟩ : ∃ v9, e1 % (N + 1) = v9 := ⟨_, rfl⟩
  rw [hF] at mF0 mF1 dF
  clear hF
  have eF : IntKind.i64.wrap F = F := IntWalk.i64_in _ (by omega)
  have v3 : IntKind.i64.wrap (N - F) = N - F := IntWalk.i64_in _ (by omega)
  have v4 : IntKind.i64.wrap (N - F + 1) = N - F + 1 := IntWalk.i64_in _ (by omega)
  have v5 : (N - F + 1 != 0) = true := by simp; omega
  have v5b : ¬ (N - F + 1 = 0) := by omega
  have mS0 : 0 ≤ e4 % (N - F + 1) := Int.emod_nonneg _ (by omega)
  have mS1 : e4 % (N - F + 1) < (N - F + 1) := Int.emod_lt_of_pos _ (by omega)
  have cS : IntKind.i64.wrap e4 = e4 := IntWalk.i64_in _ (by omega)
  have dS : e4.tmod (N - F + 1) = e4 % (N - F + 1) := Int.tmod_eq_emod_of_nonneg (by omega)
  obtain ⟨S, hS⟩ : ∃ v9, e4 % (N - F + 1) = v9 := ⟨_, rfl⟩
  rw [hS] at mS0 mS1 dS
  clear hS
  have eS : IntKind.i64.wrap S = S := IntWalk.i64_in _ (by omega)
  have v6 : IntKind.i64.wrap (F + 1) = F + 1 := IntWalk.i64_in _ (by omega)
  have v7 : (F + 1 != 0) = true := by simp; omega
  have v7b : ¬ (F + 1 = 0) := by omega
  have ma0 : 0 ≤ e2 % (F + 1) := Int.emod_nonneg _ (by omega)
  have ma1 : e2 % (F + 1) < (F + 1) := Int.emod_lt_of_pos _ (by omega)
  have ca : IntKind.i64.wrap e2 = e2 := IntWalk.i64_in _ (by omega)
  have da : e2.tmod (F + 1) = e2 % (F + 1) := Int.tmod_eq_emod_of_nonneg (by omega)
  obtain ⟨a, ha⟩ : ∃ v9, e2 % (F + 1) = v9 := ⟨_, rfl⟩
  rw [ha] at ma0 ma1 da
  clear ha
  have ea : IntKind.i64.wrap a = a := IntWalk.i64_in _ (by omega)
  have v8 : IntKind.i64.wrap (a + 1) = a + 1 := IntWalk.i64_in _ (by omega)
  have v9 : IntKind.i64.wrap (F - a) = F - a := IntWalk.i64_in _ (by omega)
  have v10 : IntKind.i64.wrap (F - a + 1) = F - a + 1 := IntWalk.i64_in _ (by omega)
  have v11 : (F - a + 1 != 0) = true := by simp; omega
  have v11b : ¬ (F - a + 1 = 0) := by omega
  have mr00 : 0 ≤ e3 % (F - a + 1) := Int.emod_nonneg _ (by omega)
  have mr01 : e3 % (F - a + 1) < (F - a + 1) := Int.emod_lt_of_pos _ (by omega)
  have cr0 : IntKind.i64.wrap e3 = e3 := IntWalk.i64_in _ (by omega)
  have dr0 : e3.tmod (F - a + 1) = e3 % (F - a + 1) := Int.tmod_eq_emod_of_nonneg (by omega)
  obtain ⟨r0, hr0⟩ : ∃ v9, e3 % (F - a + 1) = v9 := ⟨_, rfl⟩
  rw [hr0] at mr00 mr01 dr0
  clear hr0
  have er0 : IntKind.i64.wrap r0 = r0 := IntWalk.i64_in _ (by omega)
  obtain ⟨R, hR⟩ : ∃ v9, a + 1 + r0 = v9 := ⟨_, rfl⟩
  have hRb : a + 1 ≤ R ∧ R ≤ F + 1 := by omega
  have v12 : IntKind.i64.wrap (a + 1 + r0) = R := by rw [hR]; exact IntWalk.i64_in _ (by omega)
  clear hR
  have v13 : IntKind.i64.wrap (R + S) = R + S := IntWalk.i64_in _ (by omega)
  have v14 : IntKind.i64.wrap (R + S - a) = R + S - a := IntWalk.i64_in _ (by omega)
  have v15 : IntKind.i64.wrap (R + S - a + 1) = R + S - a + 1 := IntWalk.i64_in _ (by omega)
  have v16 : (R + S - a + 1 != 0) = true := by simp; omega
  have v16b : ¬ (R + S - a + 1 = 0) := by omega
  have mt00 : 0 ≤ e5 % (R + S - a + 1) := Int.emod_nonneg _ (by omega)
  have mt01 : e5 % (R + S - a + 1) < (R + S - a + 1) := Int.emod_lt_of_pos _ (by omega)
  have ct0 : IntKind.i64.wrap e5 = e5 := IntWalk.i64_in _ (by omega)
  have dt0 : e5.tmod (R + S - a + 1) = e5 % (R + S - a + 1) := Int.tmod_eq_emod_of_nonneg (by omega)
  obtain ⟨t0, ht0⟩ : ∃ v9, e5 % (R + S - a + 1) = v9 := ⟨_, rfl⟩
  rw [ht0] at mt00 mt01 dt0
  clear ht0
  have et0 : IntKind.i64.wrap t0 = t0 := IntWalk.i64_in _ (by omega)
  obtain ⟨T, hT9⟩ : ∃ v9, a + t0 = v9 := ⟨_, rfl⟩
  have hTb : a ≤ T ∧ T ≤ R + S := by omega
  have v17 : IntKind.i64.wrap (a + t0) = T := by rw [hT9]; exact IntWalk.i64_in _ (by omega)
  clear hT9
  have y1 : IntKind.i64.wrap (R - 1) = R - 1 := IntWalk.i64_in _ (by omega)
  have y2 : IntKind.i64.wrap (F + S) = F + S := IntWalk.i64_in _ (by omega)
  have hFS : (0 ≤ F ∧ F ≤ N) ∧ (0 ≤ S ∧ S ≤ N - F) ∧ (0 ≤ a ∧ a ≤ F) ∧ (a + 1 ≤ R ∧ R ≤ F + 1) ∧ (a ≤ T ∧ T ≤ R + S) := ⟨by omega, by omega, by omega, by omega, by omega⟩
  exact ⟨F, S, a, r0, R, t0, T, v1, v2, v2b, cF, dF, eF, v3, v4, v5, v5b, cS, dS, eS, v6, v7, v7b, ca, da, ea, v8, v9, v10, v11, v11b, cr0, dr0, er0, v12, v13, v14, v15, v16, v16b, ct0, dt0, et0, v17, y1, y2, hFS⟩

theorem decs (p q : Int) (h : (0 ≤ p ∧ p ≤ 9000000000000000000) ∧ 1 ≤ q ∧ q ≤ 9000000000000000000) : decide (q < 1) = false ∧ decide (p < 0) = false := ⟨decide_eq_false (by omega), decide_eq_false (by omega)⟩
theorem smalls (N F S : Int) (hN : 1 ≤ N ∧ N ≤ 36) (hF : 0 ≤ F ∧ F ≤ N) (hS : 0 ≤ S ∧ S ≤ N - F) : ((0 : Int) ≤ F ∧ F ≤ 9000000000000000000) ∧ ((0 : Int) ≤ F + S ∧ F + S ≤ 9000000000000000000) ∧ ((1 : Int) ≤ 1 ∧ (1 : Int) ≤ 9000000000000000000) := ⟨by omega, by omega, by omega⟩
theorem sides (N F S a R T : Int) (h : (0 ≤ F ∧ F ≤ N) ∧ (0 ≤ S ∧ S ≤ N - F) ∧ (0 ≤ a ∧ a ≤ F) ∧ (a + 1 ≤ R ∧ R ≤ F + 1) ∧ (a ≤ T ∧ T ≤ R + S)) :
    (0 ≤ F ∧ F ≤ N ∧ 0 ≤ S ∧ S ≤ N - F ∧ 0 ≤ a ∧ a ≤ F ∧ a + 1 ≤ R ∧ R ≤ F + 1 ∧ a ≤ T ∧ T ≤ R + S) ∧
    (0 ≤ F ∧ F ≤ N ∧ (0 : Int) ≤ 0 ∧ 0 ≤ N - F ∧ 0 ≤ a ∧ a ≤ F ∧ a + 1 ≤ R ∧ R ≤ F + 1 ∧ a ≤ min T R ∧ min T R ≤ R + 0) ∧
    (0 ≤ F ∧ F ≤ N ∧ 0 ≤ a ∧ a ≤ F) ∧ (0 ≤ F ∧ F ≤ N ∧ 0 ≤ R - 1 ∧ R - 1 ≤ F) ∧ (0 ≤ F ∧ F ≤ N ∧ 0 ≤ min (min T R) (R - 1) ∧ min (min T R) (R - 1) ≤ F) := by omega

set_option maxRecDepth 100000 in
set_option maxHeartbeats 80000000 in
theorem twiceL_walk (N lo hi x e1 e2 e3 e4 e5 : Int) (w : World) (hT : TabD w) (hx : 0 ≤ x ∧ x ≤ 255) (h1 : 0 ≤ e1 ∧ e1 ≤ 255) (h2 : 0 ≤ e2 ∧ e2 ≤ 255) (h3 : 0 ≤ e3 ∧ e3 ≤ 255) (h4 : 0 ≤ e4 ∧ e4 ≤ 255) (h5 : 0 ≤ e5 ∧ e5 ≤ 255) :
    Calls Tryd.prog 3 #[.agg #[.int .i64 N, .int .i64 lo, .int .i64 hi], .int .u8 x, .int .u8 e1, .int .u8 e2, .int .u8 e3, .int .u8 e4, .int .u8 e5] w fun e w' => e = .returned (.bool true) ∧ Below w.heap.size w w' := by
  have hB0 : Below w.heap.size w (w.alloc (.cells #[.int .i64 N, .int .i64 lo, .int .i64 hi] 25)) := (Below.refl _ w).alloc (Nat.le_refl _) _
  have c0_0 : (w.alloc (.cells #[.int .i64 N, .int .i64 lo, .int .i64 hi] 25)).cell? ⟨w.heap.size, 0, none⟩ = some (.int .i64 N) := by simp [go_sem]
  have c0_1 : (w.alloc (.cells #[.int .i64 N, .int .i64 lo, .int .i64 hi] 25)).cell? ⟨w.heap.size, 1, none⟩ = some (.int .i64 lo) := by simp [go_sem]
  have c0_2 : (w.alloc (.cells #[.int .i64 N, .int .i64 lo, .int .i64 hi] 25)).cell? ⟨w.heap.size, 2, none⟩ = some (.int .i64 hi) := by simp [go_sem]
  have t0 := keepsB hB0 hT.1
  have t1 := keepsB hB0 hT.2.1
  have t2 := keepsB hB0 hT.2.2
  clear hT
  go_enter Tryd.func3, Tryd.ntmps3
  go_wp2_with fail
  refine (alive_any _ (tabD_mk t0 t1 t2)).mono ?_
  rintro e w1 ⟨rfl, hB1⟩
  have hBz : Below w.heap.size w w1 := hB0.trans (hB1.mono (by simp))
  have hzz : w.heap.size ≤ w1.heap.size := hBz.size
  have hzn : w.heap.size + 1 ≤ w1.heap.size := by have := hB1.size; simp at this; omega
  have kc0_0 := keepsB hB1 c0_0
  have kc0_1 := keepsB hB1 c0_1
  have kc0_2 := keepsB hB1 c0_2
  have kt0 := keepsB hB1 t0
  have kt1 := keepsB hB1 t1
  have kt2 := keepsB hB1 t2
  clear hB0 hB1 t0 t1 t2 c0_0 c0_1 c0_2
  generalize hbb : w.heap.size = bb at *
  have HBB := Lib.hid hbb
  clear hbb
  have HB_w1 := Lib.hid (show Below bb w w1 from hBz)
  have hz_w1 : bb ≤ w1.heap.size := hzz
  have FA : ∀ W, Free.Bel w1 W → W.cell? ⟨0, 0, none⟩ = some (dblF 108) ∧ W.cell? ⟨0, 1, none⟩ = some (dblF 109) ∧ W.cell? ⟨0, 2, none⟩ = some (dblF 110) ∧ W.cell? ⟨bb, 0, none⟩ = some (.int .i64 N) ∧ W.cell? ⟨bb, 1, none⟩ = some (.int .i64 lo) ∧ W.cell? ⟨bb, 2, none⟩ = some (.int .i64 hi) ∧ bb + 1 ≤ W.heap.size ∧ bb ≤ W.heap.size := fun W hW => ⟨keepsB hW kt0, keepsB hW kt1, keepsB hW kt2, keepsB hW kc0_0, keepsB hW kc0_1, keepsB hW kc0_2, Nat.le_trans hzn hW.size, Nat.le_trans hz_w1 hW.size⟩
  have KR : Free.Bel w1 w1 := Free.Bel.refl _
  clear hBz hzz kt0 kt1 kt2 kc0_0 kc0_1 kc0_2 hzn
  go_wp2_with fail
  cases hc0 : cargoB N lo hi
  · have HC0 := hc0
    refine (cargoR_any N lo hi false _ hc0).mono ?_
    rintro e w2 ⟨rfl, hB⟩
    have HB_w2 := Lib.hid (HB_w1.out.trans ((hB).mono hz_w1))
    have hz_w2 : bb ≤ w2.heap.size := Nat.le_trans hz_w1 (hB).size
    have FN := fun (W : World) (hW : Free.Bel w2 W) => FA W (Free.Bel.trans _ _ _ (hB) hW)
    clear FA HB_w1 hz_w1 KR
    have FA := FN
    clear FN
    have KR := Free.Bel.refl w2
    clear hB
    go_wp2_with fail
    go_ret
    have hbb := HBB.out
    subst hbb
    exact ⟨rfl, HB_w2.out⟩
  · have hc := (cargoB_iff N lo hi).1 hc0
    refine (cargoR_any N lo hi true _ hc0).mono ?_
    rintro e w3 ⟨rfl, hB⟩
    have HB_w3 := Lib.hid (HB_w1.out.trans ((hB).mono hz_w1))
    have hz_w3 : bb ≤ w3.heap.size := Nat.le_trans hz_w1 (hB).size
    have FN := fun (W : World) (hW : Free.Bel w3 W) => FA W (Free.Bel.trans _ _ _ (hB) hW)
    clear FA HB_w1 hz_w1 KR
    have FA := FN
    clear FN
    have KR := Free.Bel.refl w3
    clear hB
    clear hc0
    obtain ⟨F, S, a, r0, R, t0, T, v1, v2, v2b, cF, dF, eF, v3, v4, v5, v5b, cS, dS, eS, v6, v7, v7b, ca, da, ea, v8, v9, v10, v11, v11b, cr0, dr0, er0, v12, v13, v14, v15, v16, v16b, ct0, dt0, et0, v17, y1, y2, hFS⟩ := twice_nums N e1 e2 e3 e4 e5 ⟨hc.1, hc.2.1⟩ h1 h2 h3 h4 h5
    clear h1 h2 h3 h4 h5
    have hbn := (FA w3 (Free.Bel.refl _)).2.2.2.2.2.2.1
    have KAa : ∀ o, Free.Bel w3 (w3.alloc o) := fun o => belAlloc _ _
    go_wp2_with fail
    go_region
    go_wp2_with fail
    go_region
    have hN : Free.Bel w3 (w3.alloc (.cells #[.int .i64 F, .int .i64 a, .int .i64 R, .int .i64 S, .int .i64 T] 29)).drew.drew := Bel.drewT (Bel.drewT (Bel.allocT (Free.Bel.refl _) _))
    have n_0 : (w3.alloc (.cells #[.int .i64 F, .int .i64 a, .int .i64 R, .int .i64 S, .int .i64 T] 29)).drew.drew.cell? ⟨w3.heap.size, 0, none⟩ = some (.int .i64 F) := by simp [go_sem]
    have n_1 : (w3.alloc (.cells #[.int .i64 F, .int .i64 a, .int .i64 R, .int .i64 S, .int .i64 T] 29)).drew.drew.cell? ⟨w3.heap.size, 1, none⟩ = some (.int .i64 a) := by simp [go_sem]
    have n_2 : (w3.alloc (.cells #[.int .i64 F, .int .i64 a, .int .i64 R, .int .i64 S, .int .i64 T] 29)).drew.drew.cell? ⟨w3.heap.size, 2, none⟩ = some (.int .i64 R) := by simp [go_sem]
    have n_3 : (w3.alloc (.cells #[.int .i64 F, .int .i64 a, .int .i64 R, .int .i64 S, .int .i64 T] 29)).drew.drew.cell? ⟨w3.heap.size, 3, none⟩ = some (.int .i64 S) := by simp [go_sem]
    have n_4 : (w3.alloc (.cells #[.int .i64 F, .int .i64 a, .int .i64 R, .int .i64 S, .int .i64 T] 29)).drew.drew.cell? ⟨w3.heap.size, 4, none⟩ = some (.int .i64 T) := by simp [go_sem]
    have hgs : w3.heap.size < (w3.alloc (.cells #[.int .i64 F, .int .i64 a, .int .i64 R, .int .i64 S, .int .i64 T] 29)).drew.drew.heap.size := by simp
    have hfz : ∀ o, (w3.alloc (.cells #[.int .i64 F, .int .i64 a, .int .i64 R, .int .i64 S, .int .i64 T] 29)).drew.drew.frozen? ⟨w3.heap.size, o, none⟩ = false := fun o => by simp [go_sem]
    generalize (w3.alloc (.cells #[.int .i64 F, .int .i64 a, .int .i64 R, .int .i64 S, .int .i64 T] 29)).drew.drew = w4 at *
    have hbg := hz_w3
    obtain ⟨g30, hgz⟩ : ∃ x, x = w3.heap.size := ⟨_, rfl⟩
    rw [← hgz] at n_0 n_1 n_2 n_3 n_4 hbg hgs hfz hbn ⊢
    clear hgz
    have m_3 : w4.frozen? ⟨g30, 3, none⟩ = false := hfz 3
    have m_4 : w4.frozen? ⟨g30, 4, none⟩ = false := hfz 4
    have HB_w4 := Lib.hid (HB_w3.out.trans ((hN).mono hz_w3))
    have hz_w4 : bb ≤ w4.heap.size := Nat.le_trans hz_w3 (hN).size
    have FN := fun (W : World) (hW : Free.Bel w4 W) => And.intro (keepsB hW n_0) (And.intro (keepsB hW n_1) (And.intro (keepsB hW n_2) (And.intro (keepsB hW n_3) (And.intro (keepsB hW n_4) (And.intro ((hW.frozen (p := ⟨g30, 3, none⟩) hgs).trans m_3) (And.intro ((hW.frozen (p := ⟨g30, 4, none⟩) hgs).trans m_4) (FA W (Free.Bel.trans _ _ _ (hN) hW))))))))
    clear FA HB_w3 hz_w3 KR
    have FA := FN
    clear FN
    have KR := Free.Bel.refl w4
    clear hN n_0 n_1 n_2 n_3 n_4 m_3 m_4
    clear KAa
    clear v1 v2 v3 v4 v5 v6 v7 v8 v9 v10 v11 v12 v13 v14 v15 v16 v17 v2b v5b v7b v11b v16b cF dF eF cS dS eS ca da ea cr0 dr0 er0 ct0 dt0 et0
    obtain ⟨s1, s2, s3, s4, s5⟩ := sides N F S a R T hFS
    obtain ⟨hone, hone2, h11⟩ := smalls N F S ⟨hc.1, hc.2.1⟩ hFS.1 hFS.2.1
    obtain ⟨D, HD, hD⟩ := some_bounds lo hi x (by omega)
    obtain ⟨lp, lq, hp, hq, pp, pq, op, oq, np, nq, hlp, hhp, hpp, hop, hnp, hnp2, hsame, ⟨k1, k2, k3, k4⟩, bl, bh, bp, bo⟩ := twice_math N D F a R S T ⟨hc.1, hc.2.1⟩ ⟨Int.le_trans hc.2.2.1 hD.1, Int.le_trans hD.2 hc.2.2.2.2⟩ hFS.1 hFS.2.1 hFS.2.2.1 hFS.2.2.2.1 hFS.2.2.2.2.1
    have hmm : min (min T R) (R - 1) = min T (min R (R - 1)) := by omega
    rw [hmm] at s5 hnp
    clear hmm
    have HLP := Lib.hid hlp
    have HHP := Lib.hid hhp
    have HPP := Lib.hid hpp
    have HOP := Lib.hid hop
    have HNP := Lib.hid hnp
    have HNP2 := Lib.hid hnp2
    have HSA := Lib.hid hsame
    have HK := Lib.hid (And.intro (decide_eq_true k1) (And.intro (decide_eq_true k2) (And.intro (decide_eq_true k3) (decide_eq_true k4))))
    clear hlp hhp hpp hop hnp hnp2 hsame k1 k2 k3 k4
    obtain ⟨b1, b2⟩ := decs _ _ bl
    obtain ⟨b3, b4⟩ := decs _ _ bh
    obtain ⟨b5, b6⟩ := decs _ _ bp
    obtain ⟨b7, b8⟩ := decs _ _ bo
    go_wp2_with fail
    refine (some_v N lo hi x D _ ⟨hc.2.2.1, hc.2.2.2.1, Int.le_trans hc.2.2.2.2 hc.2.1⟩ hx HD).mono ?_
    rintro e w5 ⟨rfl, hB⟩
    have HB_w5 := Lib.hid (HB_w4.out.trans ((hB).mono hz_w4))
    have hz_w5 : bb ≤ w5.heap.size := Nat.le_trans hz_w4 (hB).size
    have FN := fun (W : World) (hW : Free.Bel w5 W) => FA W (Free.Bel.trans _ _ _ (hB) hW)
    clear FA HB_w4 hz_w4 KR
    have FA := FN
    clear FN
    have KR := Free.Bel.refl w5
    clear hB
    go_wp2_with fail
    refine (twice_ok N lo hi F a R S T D pp pq op oq _ (tabD_mk (FA w5 (Free.Bel.refl _)).2.2.2.2.2.2.2.1 (FA w5 (Free.Bel.refl _)).2.2.2.2.2.2.2.2.1 (FA w5 (Free.Bel.refl _)).2.2.2.2.2.2.2.2.2.1) hc hD s1 HPP HOP).mono ?_
    rintro e w6 ⟨rfl, hB⟩
    have HB_w6 := Lib.hid (HB_w5.out.trans ((hB).mono hz_w5))
    have hz_w6 : bb ≤ w6.heap.size := Nat.le_trans hz_w5 (hB).size
    have FN := fun (W : World) (hW : Free.Bel w6 W) => FA W (Free.Bel.trans _ _ _ (hB) hW)
    clear FA HB_w5 hz_w5 KR
    have FA := FN
    clear FN
    have KR := Free.Bel.refl w6
    clear hB
    have KA0 : Free.Bel w6 (w6.alloc (.cells #[.int .i64 pp, .int .i64 pq] 32)) := Bel.allocT (Free.Bel.refl _) _
    have KA1 : Free.Bel w6 ((w6.alloc (.cells #[.int .i64 pp, .int .i64 pq] 32)).alloc (.cells #[.int .i64 op, .int .i64 oq] 32)) := Bel.allocT KA0 _
    go_wp2_with fail
    clear KA0 KA1
    have hN : Free.Bel w6 ((w6.alloc (.cells #[.int .i64 pp, .int .i64 pq] 32)).alloc (.cells #[.int .i64 op, .int .i64 oq] 32)) := (Bel.allocT (Bel.allocT (Free.Bel.refl w6) _) _)
    have n_g60_0 : ((w6.alloc (.cells #[.int .i64 pp, .int .i64 pq] 32)).alloc (.cells #[.int .i64 op, .int .i64 oq] 32)).cell? ⟨w6.heap.size, 0, none⟩ = some (.int .i64 pp) := by simp [go_sem]
    have n_g60_1 : ((w6.alloc (.cells #[.int .i64 pp, .int .i64 pq] 32)).alloc (.cells #[.int .i64 op, .int .i64 oq] 32)).cell? ⟨w6.heap.size, 1, none⟩ = some (.int .i64 pq) := by simp [go_sem]
    have n_g61_0 : ((w6.alloc (.cells #[.int .i64 pp, .int .i64 pq] 32)).alloc (.cells #[.int .i64 op, .int .i64 oq] 32)).cell? ⟨w6.heap.size + 1, 0, none⟩ = some (.int .i64 op) := by simp [go_sem]
    have n_g61_1 : ((w6.alloc (.cells #[.int .i64 pp, .int .i64 pq] 32)).alloc (.cells #[.int .i64 op, .int .i64 oq] 32)).cell? ⟨w6.heap.size + 1, 1, none⟩ = some (.int .i64 oq) := by simp [go_sem]
    generalize ((w6.alloc (.cells #[.int .i64 pp, .int .i64 pq] 32)).alloc (.cells #[.int .i64 op, .int .i64 oq] 32)) = w7 at *
    obtain ⟨g60, hgz⟩ : ∃ x, x = w6.heap.size := ⟨_, rfl⟩
    rw [← hgz] at n_g60_0 n_g60_1 n_g61_0 n_g61_1 ⊢
    clear hgz
    have HB_w7 := Lib.hid (HB_w6.out.trans ((hN).mono hz_w6))
    have hz_w7 : bb ≤ w7.heap.size := Nat.le_trans hz_w6 (hN).size
    have FN := fun (W : World) (hW : Free.Bel w7 W) => And.intro (keepsB hW n_g60_0) (And.intro (keepsB hW n_g60_1) (And.intro (keepsB hW n_g61_0) (And.intro (keepsB hW n_g61_1) (FA W (Free.Bel.trans _ _ _ (hN) hW)))))
    clear FA HB_w6 hz_w6 KR
    have FA := FN
    clear FN
    have KR := Free.Bel.refl w7
    clear hN n_g60_0 n_g60_1 n_g61_0 n_g61_1
    refine (accept_ok N lo hi D F a lp lq _ hc s3 hD HLP).mono ?_
    rintro e w8 ⟨rfl, hB⟩
    have HB_w8 := Lib.hid (HB_w7.out.trans ((hB).mono hz_w7))
    have hz_w8 : bb ≤ w8.heap.size := Nat.le_trans hz_w7 (hB).size
    have FN := fun (W : World) (hW : Free.Bel w8 W) => FA W (Free.Bel.trans _ _ _ (hB) hW)
    clear FA HB_w7 hz_w7 KR
    have FA := FN
    clear FN
    have KR := Free.Bel.refl w8
    clear hB
    have KA0 : Free.Bel w8 (w8.alloc (.cells #[.int .i64 lp, .int .i64 lq] 32)) := Bel.allocT (Free.Bel.refl _) _
    go_wp2_with fail
    clear KA0
    have hN : Free.Bel w8 (w8.alloc (.cells #[.int .i64 lp, .int .i64 lq] 32)) := (Bel.allocT (Free.Bel.refl w8) _)
    have n_g80_0 : (w8.alloc (.cells #[.int .i64 lp, .int .i64 lq] 32)).cell? ⟨w8.heap.size, 0, none⟩ = some (.int .i64 lp) := by simp [go_sem]
    have n_g80_1 : (w8.alloc (.cells #[.int .i64 lp, .int .i64 lq] 32)).cell? ⟨w8.heap.size, 1, none⟩ = some (.int .i64 lq) := by simp [go_sem]
    generalize (w8.alloc (.cells #[.int .i64 lp, .int .i64 lq] 32)) = w9 at *
    obtain ⟨g80, hgz⟩ : ∃ x, x = w8.heap.size := ⟨_, rfl⟩
    rw [← hgz] at n_g80_0 n_g80_1 ⊢
    clear hgz
    have HB_w9 := Lib.hid (HB_w8.out.trans ((hN).mono hz_w8))
    have hz_w9 : bb ≤ w9.heap.size := Nat.le_trans hz_w8 (hN).size
    have FN := fun (W : World) (hW : Free.Bel w9 W) => And.intro (keepsB hW n_g80_0) (And.intro (keepsB hW n_g80_1) (FA W (Free.Bel.trans _ _ _ (hN) hW)))
    clear FA HB_w8 hz_w8 KR
    have FA := FN
    clear FN
    have KR := Free.Bel.refl w9
    clear hN n_g80_0 n_g80_1
    refine (accept_ok N lo hi D F (R - 1) hp hq _ hc s4 hD HHP).mono ?_
    rintro e w10 ⟨rfl, hB⟩
    have HB_w10 := Lib.hid (HB_w9.out.trans ((hB).mono hz_w9))
    have hz_w10 : bb ≤ w10.heap.size := Nat.le_trans hz_w9 (hB).size
    have FN := fun (W : World) (hW : Free.Bel w10 W) => FA W (Free.Bel.trans _ _ _ (hB) hW)
    clear FA HB_w9 hz_w9 KR
    have FA := FN
    clear FN
    have KR := Free.Bel.refl w10
    clear hB
    have KA0 : Free.Bel w10 (w10.alloc (.cells #[.int .i64 hp, .int .i64 hq] 32)) := Bel.allocT (Free.Bel.refl _) _
    have KA1 : Free.Bel w10 ((w10.alloc (.cells #[.int .i64 hp, .int .i64 hq] 32)).alloc (.cells #[.int .i64 pp, .int .i64 pq, .int .i64 op, .int .i64 oq, .int .i64 lp, .int .i64 lq, .int .i64 hp, .int .i64 hq] 32)) := Bel.allocT KA0 _
    go_wp2_with fail
    clear KA0 KA1
    have hN : Free.Bel w10 ((w10.alloc (.cells #[.int .i64 hp, .int .i64 hq] 32)).alloc (.cells #[.int .i64 pp, .int .i64 pq, .int .i64 op, .int .i64 oq, .int .i64 lp, .int .i64 lq, .int .i64 hp, .int .i64 hq] 32)) := (Bel.allocT (Bel.allocT (Free.Bel.refl w10) _) _)
    have n_g100_0 : ((w10.alloc (.cells #[.int .i64 hp, .int .i64 hq] 32)).alloc (.cells #[.int .i64 pp, .int .i64 pq, .int .i64 op, .int .i64 oq, .int .i64 lp, .int .i64 lq, .int .i64 hp, .int .i64 hq] 32)).cell? ⟨w10.heap.size, 0, none⟩ = some (.int .i64 hp) := by simp [go_sem]
    have n_g100_1 : ((w10.alloc (.cells #[.int .i64 hp, .int .i64 hq] 32)).alloc (.cells #[.int .i64 pp, .int .i64 pq, .int .i64 op, .int .i64 oq, .int .i64 lp, .int .i64 lq, .int .i64 hp, .int .i64 hq] 32)).cell? ⟨w10.heap.size, 1, none⟩ = some (.int .i64 hq) := by simp [go_sem]
    have n_g101_0 : ((w10.alloc (.cells #[.int .i64 hp, .int .i64 hq] 32)).alloc (.cells #[.int .i64 pp, .int .i64 pq, .int .i64 op, .int .i64 oq, .int .i64 lp, .int .i64 lq, .int .i64 hp, .int .i64 hq] 32)).cell? ⟨w10.heap.size + 1, 0, none⟩ = some (.int .i64 pp) := by simp [go_sem]
    have n_g101_1 : ((w10.alloc (.cells #[.int .i64 hp, .int .i64 hq] 32)).alloc (.cells #[.int .i64 pp, .int .i64 pq, .int .i64 op, .int .i64 oq, .int .i64 lp, .int .i64 lq, .int .i64 hp, .int .i64 hq] 32)).cell? ⟨w10.heap.size + 1, 1, none⟩ = some (.int .i64 pq) := by simp [go_sem]
    have n_g101_2 : ((w10.alloc (.cells #[.int .i64 hp, .int .i64 hq] 32)).alloc (.cells #[.int .i64 pp, .int .i64 pq, .int .i64 op, .int .i64 oq, .int .i64 lp, .int .i64 lq, .int .i64 hp, .int .i64 hq] 32)).cell? ⟨w10.heap.size + 1, 2, none⟩ = some (.int .i64 op) := by simp [go_sem]
    have n_g101_3 : ((w10.alloc (.cells #[.int .i64 hp, .int .i64 hq] 32)).alloc (.cells #[.int .i64 pp, .int .i64 pq, .int .i64 op, .int .i64 oq, .int .i64 lp, .int .i64 lq, .int .i64 hp, .int .i64 hq] 32)).cell? ⟨w10.heap.size + 1, 3, none⟩ = some (.int .i64 oq) := by simp [go_sem]
    have n_g101_4 : ((w10.alloc (.cells #[.int .i64 hp, .int .i64 hq] 32)).alloc (.cells #[.int .i64 pp, .int .i64 pq, .int .i64 op, .int .i64 oq, .int .i64 lp, .int .i64 lq, .int .i64 hp, .int .i64 hq] 32)).cell? ⟨w10.heap.size + 1, 4, none⟩ = some (.int .i64 lp) := by simp [go_sem]
    have n_g101_5 : ((w10.alloc (.cells #[.int .i64 hp, .int .i64 hq] 32)).alloc (.cells #[.int .i64 pp, .int .i64 pq, .int .i64 op, .int .i64 oq, .int .i64 lp, .int .i64 lq, .int .i64 hp, .int .i64 hq] 32)).cell? ⟨w10.heap.size + 1, 5, none⟩ = some (.int .i64 lq) := by simp [go_sem]
    have n_g101_6 : ((w10.alloc (.cells #[.int .i64 hp, .int .i64 hq] 32)).alloc (.cells #[.int .i64 pp, .int .i64 pq, .int .i64 op, .int .i64 oq, .int .i64 lp, .int .i64 lq, .int .i64 hp, .int .i64 hq] 32)).cell? ⟨w10.heap.size + 1, 6, none⟩ = some (.int .i64 hp) := by simp [go_sem]
    have n_g101_7 : ((w10.alloc (.cells #[.int .i64 hp, .int .i64 hq] 32)).alloc (.cells #[.int .i64 pp, .int .i64 pq, .int .i64 op, .int .i64 oq, .int .i64 lp, .int .i64 lq, .int .i64 hp, .int .i64 hq] 32)).cell? ⟨w10.heap.size + 1, 7, none⟩ = some (.int .i64 hq) := by simp [go_sem]
    generalize ((w10.alloc (.cells #[.int .i64 hp, .int .i64 hq] 32)).alloc (.cells #[.int .i64 pp, .int .i64 pq, .int .i64 op, .int .i64 oq, .int .i64 lp, .int .i64 lq, .int .i64 hp, .int .i64 hq] 32)) = w11 at *
    obtain ⟨g100, hgz⟩ : ∃ x, x = w10.heap.size := ⟨_, rfl⟩
    rw [← hgz] at n_g100_0 n_g100_1 n_g101_0 n_g101_1 n_g101_2 n_g101_3 n_g101_4 n_g101_5 n_g101_6 n_g101_7 ⊢
    clear hgz
    have HB_w11 := Lib.hid (HB_w10.out.trans ((hN).mono hz_w10))
    have hz_w11 : bb ≤ w11.heap.size := Nat.le_trans hz_w10 (hN).size
    have FN := fun (W : World) (hW : Free.Bel w11 W) => And.intro (keepsB hW n_g100_0) (And.intro (keepsB hW n_g100_1) (And.intro (keepsB hW n_g101_0) (And.intro (keepsB hW n_g101_1) (And.intro (keepsB hW n_g101_2) (And.intro (keepsB hW n_g101_3) (And.intro (keepsB hW n_g101_4) (And.intro (keepsB hW n_g101_5) (And.intro (keepsB hW n_g101_6) (And.intro (keepsB hW n_g101_7) (FA W (Free.Bel.trans _ _ _ (hN) hW)))))))))))
    clear FA HB_w10 hz_w10 KR
    have FA := FN
    clear FN
    have KR := Free.Bel.refl w11
    clear hN n_g100_0 n_g100_1 n_g101_0 n_g101_1 n_g101_2 n_g101_3 n_g101_4 n_g101_5 n_g101_6 n_g101_7
    go_loopw [145] (fun i wr => ∃ j : Nat, j ≤ 4 ∧ i = .int .i64 j ∧ Free.Bel w11 wr) (fun i _ => 4 - (intOf i).toNat)
    case atStart => exact ⟨0, by omega, rfl, Free.Bel.refl _⟩
    case round =>
      obtain ⟨j, hj, rfl, HKr⟩ := hrel
      have HB_wr := Lib.hid (HB_w11.out.trans ((HKr).mono hz_w11))
      have hz_wr : bb ≤ wr.heap.size := Nat.le_trans hz_w11 (HKr).size
      have FN := fun (W : World) (hW : Free.Bel wr W) => FA W (Free.Bel.trans _ _ _ (HKr) hW)
      clear FA HB_w11 hz_w11 KR
      have FA := FN
      clear FN
      have KR := Free.Bel.refl wr
      have HWR : Free.Bel wr wr := Free.Bel.refl _
      have HL_wr : Free.Bel w11 wr := HKr
      clear HKr
      rcases (show j = 0 ∨ j = 1 ∨ j = 2 ∨ j = 3 ∨ j = 4 by omega) with rfl | rfl | rfl | rfl | rfl
      · have KA : Free.Bel wr (wr.alloc (.cells #[.int .i64 pp, .int .i64 pq] 32)) := belAlloc _ _
        go_wp2_with fail
        go_roundw
        case rel => exact ⟨1, by omega, rfl, Free.Bel.trans _ _ _ HL_wr KA⟩
        case measure => simp [intOf]
      · have KA : Free.Bel wr (wr.alloc (.cells #[.int .i64 op, .int .i64 oq] 32)) := belAlloc _ _
        go_wp2_with fail
        go_roundw
        case rel => exact ⟨2, by omega, rfl, Free.Bel.trans _ _ _ HL_wr KA⟩
        case measure => simp [intOf]
      · have KA : Free.Bel wr (wr.alloc (.cells #[.int .i64 lp, .int .i64 lq] 32)) := belAlloc _ _
        go_wp2_with fail
        go_roundw
        case rel => exact ⟨3, by omega, rfl, Free.Bel.trans _ _ _ HL_wr KA⟩
        case measure => simp [intOf]
      · have KA : Free.Bel wr (wr.alloc (.cells #[.int .i64 hp, .int .i64 hq] 32)) := belAlloc _ _
        go_wp2_with fail
        go_roundw
        case rel => exact ⟨4, by omega, rfl, Free.Bel.trans _ _ _ HL_wr KA⟩
        case measure => simp [intOf]
      · skip
        go_wp2_with fail
        have hF : ∀ W, Free.Bel wr.drew W → Free.Bel wr W := fun W hW => Free.Bel.trans _ _ _ (Bel.drewT (Free.Bel.refl _)) hW
        refine Free.wp_free (R := Free.Bel) (by kernel_rfl) (by kernel_rfl) Free.Bel.refl Free.Bel.trans ?_
        refine Free.Chain.ex ?_ [] [21] (by kernel_rfl) (by kernel_rfl) rfl Free.Bel.refl ?_ ?_
        rotate_left
        · (intro ev W hb hR hO hD; have hS := hF W hR; obtain ⟨hb1, hb2, hb3⟩ := hb; simp only [Free.AllDeps, Free.AllOuts, Free.At, List.getElem?_cons_succ, List.getElem?_cons_zero, Array.getD_eq_getD_getElem?, List.getElem?_toArray, Option.getD_some, and_true] at hO hD; go_simp; rfl)
        simp only [List.nil_append, List.cons_append]
        refine Free.Chain.ex ?_ [] [18] (by kernel_rfl) (by kernel_rfl) rfl Free.Bel.refl ?_ ?_
        rotate_left
        · (intro ev W hb hR hO hD; have hS := hF W hR; obtain ⟨hb1, hb2, hb3⟩ := hb; simp only [Free.AllDeps, Free.AllOuts, Free.At, List.getElem?_cons_succ, List.getElem?_cons_zero, Array.getD_eq_getD_getElem?, List.getElem?_toArray, Option.getD_some, and_true] at hO hD; go_simp; rfl)
        simp only [List.nil_append, List.cons_append]
        refine Free.Chain.pr (fun v _ => v = .bool true) [(0, 158), (1, 159)] [] (by kernel_rfl) (by kernel_rfl) rfl (fun _ _ _ _ h => h) ?_ ?_
        · (intro ev W hb hR hO hD; have hS := hF W hR; obtain ⟨hb1, hb2, hb3⟩ := hb; simp only [Free.AllDeps, Free.AllOuts, Free.At, List.getElem?_cons_succ, List.getElem?_cons_zero, Array.getD_eq_getD_getElem?, List.getElem?_toArray, Option.getD_some, and_true] at hO hD; go_simp; refine yields_enter ?_; (with_reducible refine (atMostL_any lp lq pp pq _ bl.1 bl.2 bp.1 bp.2).mono ?_); rintro e W2 ⟨rfl, hB2⟩; exact ⟨_, rfl, hB2, by rw [HK.out.1]⟩)
        simp only [List.nil_append, List.cons_append]
        refine Free.Chain.ex ?_ [(2, 160)] [] (by kernel_rfl) (by kernel_rfl) rfl Free.Bel.refl ?_ ?_
        rotate_left
        · (intro ev W hb hR hO hD; have hS := hF W hR; obtain ⟨hb1, hb2, hb3⟩ := hb; simp only [Free.AllDeps, Free.AllOuts, Free.At, List.getElem?_cons_succ, List.getElem?_cons_zero, Array.getD_eq_getD_getElem?, List.getElem?_toArray, Option.getD_some, and_true] at hO hD; go_simp; rfl)
        simp only [List.nil_append, List.cons_append]
        refine Free.Chain.ex ?_ [(3, 161), (2, 160)] [] (by kernel_rfl) (by kernel_rfl) rfl Free.Bel.refl ?_ ?_
        rotate_left
        · (intro ev W hb hR hO hD; have hS := hF W hR; obtain ⟨hb1, hb2, hb3⟩ := hb; simp only [Free.AllDeps, Free.AllOuts, Free.At, List.getElem?_cons_succ, List.getElem?_cons_zero, Array.getD_eq_getD_getElem?, List.getElem?_toArray, Option.getD_some, and_true] at hO hD; go_simp; rfl)
        simp only [List.nil_append, List.cons_append]
        refine Free.Chain.exG ?_ [(4, 162)] [18] 4 false 162 (by kernel_rfl) (by kernel_rfl) rfl (by kernel_rfl) Free.Bel.refl ?_ ?_
        rotate_left
        · (intro ev W hb hR hO hD; have hS := hF W hR; obtain ⟨hb1, hb2, hb3⟩ := hb; simp only [Free.AllDeps, Free.AllOuts, Free.At, List.getElem?_cons_succ, List.getElem?_cons_zero, Array.getD_eq_getD_getElem?, List.getElem?_toArray, Option.getD_some, and_true] at hO hD; refine ⟨by simp [hD], ?_⟩; go_simp; rfl)
        simp only [List.nil_append, List.cons_append]
        refine Free.Chain.exG ?_ [(4, 162)] [23] 4 false 162 (by kernel_rfl) (by kernel_rfl) rfl (by kernel_rfl) Free.Bel.refl ?_ ?_
        rotate_left
        · (intro ev W hb hR hO hD; have hS := hF W hR; obtain ⟨hb1, hb2, hb3⟩ := hb; simp only [Free.AllDeps, Free.AllOuts, Free.At, List.getElem?_cons_succ, List.getElem?_cons_zero, Array.getD_eq_getD_getElem?, List.getElem?_toArray, Option.getD_some, and_true] at hO hD; refine ⟨by simp [hD], ?_⟩; go_simp; rfl)
        simp only [List.nil_append, List.cons_append]
        refine Free.Chain.prG (fun v _ => v = .bool true) [(5, 163), (6, 164), (4, 162), (4, 162)] [] 4 false 162 (by kernel_rfl) (by kernel_rfl) rfl (by kernel_rfl) (fun _ _ _ _ h => h) ?_ ?_
        · (intro ev W hb hR hO hD; have hS := hF W hR; obtain ⟨hb1, hb2, hb3⟩ := hb; simp only [Free.AllDeps, Free.AllOuts, Free.At, List.getElem?_cons_succ, List.getElem?_cons_zero, Array.getD_eq_getD_getElem?, List.getElem?_toArray, Option.getD_some, and_true] at hO hD; refine ⟨by simp [hD], ?_⟩; go_simp; refine yields_enter ?_; (with_reducible refine (atMostL_any pp pq hp hq _ bp.1 bp.2 bh.1 bh.2).mono ?_); rintro e W2 ⟨rfl, hB2⟩; exact ⟨_, rfl, hB2, by rw [HK.out.2.1]⟩)
        simp only [List.nil_append, List.cons_append]
        refine Free.Chain.exG ?_ [(7, 165), (4, 162)] [] 4 false 162 (by kernel_rfl) (by kernel_rfl) rfl (by kernel_rfl) Free.Bel.refl ?_ ?_
        rotate_left
        · (intro ev W hb hR hO hD; have hS := hF W hR; obtain ⟨hb1, hb2, hb3⟩ := hb; simp only [Free.AllDeps, Free.AllOuts, Free.At, List.getElem?_cons_succ, List.getElem?_cons_zero, Array.getD_eq_getD_getElem?, List.getElem?_toArray, Option.getD_some, and_true] at hO hD; refine ⟨by simp [hD], ?_⟩; go_simp; rfl)
        simp only [List.nil_append, List.cons_append]
        refine Free.Chain.ex ?_ [(4, 162), (8, 166)] [] (by kernel_rfl) (by kernel_rfl) rfl Free.Bel.refl ?_ ?_
        rotate_left
        · (intro ev W hb hR hO hD; have hS := hF W hR; obtain ⟨hb1, hb2, hb3⟩ := hb; simp only [Free.AllDeps, Free.AllOuts, Free.At, List.getElem?_cons_succ, List.getElem?_cons_zero, Array.getD_eq_getD_getElem?, List.getElem?_toArray, Option.getD_some, and_true] at hO hD; go_simp; rfl)
        simp only [List.nil_append, List.cons_append]
        refine Free.Chain.ex ?_ [(9, 167), (7, 165)] [] (by kernel_rfl) (by kernel_rfl) rfl Free.Bel.refl ?_ ?_
        rotate_left
        · (intro ev W hb hR hO hD; have hS := hF W hR; obtain ⟨hb1, hb2, hb3⟩ := hb; simp only [Free.AllDeps, Free.AllOuts, Free.At, List.getElem?_cons_succ, List.getElem?_cons_zero, Array.getD_eq_getD_getElem?, List.getElem?_toArray, Option.getD_some, and_true] at hO hD; go_simp; rfl)
        simp only [List.nil_append, List.cons_append]
        refine Free.Chain.exG ?_ [(10, 168)] [16] 10 false 168 (by kernel_rfl) (by kernel_rfl) rfl (by kernel_rfl) Free.Bel.refl ?_ ?_
        rotate_left
        · (intro ev W hb hR hO hD; have hS := hF W hR; obtain ⟨hb1, hb2, hb3⟩ := hb; simp only [Free.AllDeps, Free.AllOuts, Free.At, List.getElem?_cons_succ, List.getElem?_cons_zero, Array.getD_eq_getD_getElem?, List.getElem?_toArray, Option.getD_some, and_true] at hO hD; refine ⟨by simp [hD], ?_⟩; go_simp; rfl)
        simp only [List.nil_append, List.cons_append]
        refine Free.Chain.exG ?_ [(11, 169), (10, 168)] [] 10 false 168 (by kernel_rfl) (by kernel_rfl) rfl (by kernel_rfl) Free.Bel.refl ?_ ?_
        rotate_left
        · (intro ev W hb hR hO hD; have hS := hF W hR; obtain ⟨hb1, hb2, hb3⟩ := hb; simp only [Free.AllDeps, Free.AllOuts, Free.At, List.getElem?_cons_succ, List.getElem?_cons_zero, Array.getD_eq_getD_getElem?, List.getElem?_toArray, Option.getD_some, and_true] at hO hD; refine ⟨by simp [hD], ?_⟩; go_simp; rfl)
        simp only [List.nil_append, List.cons_append]
        refine Free.Chain.prG (fun v _ => v = i2 F 1) [(12, 170), (10, 168), (10, 168)] [] 10 false 168 (by kernel_rfl) (by kernel_rfl) rfl (by kernel_rfl) (fun _ _ _ _ h => h) ?_ ?_
        · (intro ev W hb hR hO hD; have hS := hF W hR; obtain ⟨hb1, hb2, hb3⟩ := hb; simp only [Free.AllDeps, Free.AllOuts, Free.At, List.getElem?_cons_succ, List.getElem?_cons_zero, Array.getD_eq_getD_getElem?, List.getElem?_toArray, Option.getD_some, and_true] at hO hD; refine ⟨by simp [hD], ?_⟩; go_simp; refine yields_enter ?_; (with_reducible refine (partL_any F 1 _).mono ?_); rintro e W2 ⟨rfl, hB2⟩; exact ⟨_, rfl, hB2, rfl⟩)
        simp only [List.nil_append, List.cons_append]
        refine Free.Chain.exG ?_ [(10, 168)] [19] 10 false 168 (by kernel_rfl) (by kernel_rfl) rfl (by kernel_rfl) Free.Bel.refl ?_ ?_
        rotate_left
        · (intro ev W hb hR hO hD; have hS := hF W hR; obtain ⟨hb1, hb2, hb3⟩ := hb; simp only [Free.AllDeps, Free.AllOuts, Free.At, List.getElem?_cons_succ, List.getElem?_cons_zero, Array.getD_eq_getD_getElem?, List.getElem?_toArray, Option.getD_some, and_true] at hO hD; refine ⟨by simp [hD], ?_⟩; go_simp; rfl)
        simp only [List.nil_append, List.cons_append]
        refine Free.Chain.prG (fun v _ => v = .bool true) [(13, 171), (14, 172), (13, 171), (10, 168)] [] 10 false 168 (by kernel_rfl) (by kernel_rfl) rfl (by kernel_rfl) (fun _ _ _ _ h => h) ?_ ?_
        · (intro ev W hb hR hO hD; have hS := hF W hR; obtain ⟨hb1, hb2, hb3⟩ := hb; simp only [Free.AllDeps, Free.AllOuts, Free.At, List.getElem?_cons_succ, List.getElem?_cons_zero, Array.getD_eq_getD_getElem?, List.getElem?_toArray, Option.getD_some, and_true] at hO hD; refine ⟨by simp [hD], ?_⟩; go_simp; refine yields_enter ?_; (with_reducible refine (atMostL_any F 1 op oq _ hone h11 bo.1 bo.2).mono ?_); rintro e W2 ⟨rfl, hB2⟩; exact ⟨_, rfl, hB2, by rw [HK.out.2.2.1]⟩)
        simp only [List.nil_append, List.cons_append]
        refine Free.Chain.exG ?_ [(15, 173), (10, 168)] [] 10 false 168 (by kernel_rfl) (by kernel_rfl) rfl (by kernel_rfl) Free.Bel.refl ?_ ?_
        rotate_left
        · (intro ev W hb hR hO hD; have hS := hF W hR; obtain ⟨hb1, hb2, hb3⟩ := hb; simp only [Free.AllDeps, Free.AllOuts, Free.At, List.getElem?_cons_succ, List.getElem?_cons_zero, Array.getD_eq_getD_getElem?, List.getElem?_toArray, Option.getD_some, and_true] at hO hD; refine ⟨by simp [hD], ?_⟩; go_simp; rfl)
        simp only [List.nil_append, List.cons_append]
        refine Free.Chain.ex ?_ [(10, 168), (16, 174)] [] (by kernel_rfl) (by kernel_rfl) rfl Free.Bel.refl ?_ ?_
        rotate_left
        · (intro ev W hb hR hO hD; have hS := hF W hR; obtain ⟨hb1, hb2, hb3⟩ := hb; simp only [Free.AllDeps, Free.AllOuts, Free.At, List.getElem?_cons_succ, List.getElem?_cons_zero, Array.getD_eq_getD_getElem?, List.getElem?_toArray, Option.getD_some, and_true] at hO hD; go_simp; rfl)
        simp only [List.nil_append, List.cons_append]
        refine Free.Chain.ex ?_ [(17, 175), (15, 173)] [] (by kernel_rfl) (by kernel_rfl) rfl Free.Bel.refl ?_ ?_
        rotate_left
        · (intro ev W hb hR hO hD; have hS := hF W hR; obtain ⟨hb1, hb2, hb3⟩ := hb; simp only [Free.AllDeps, Free.AllOuts, Free.At, List.getElem?_cons_succ, List.getElem?_cons_zero, Array.getD_eq_getD_getElem?, List.getElem?_toArray, Option.getD_some, and_true] at hO hD; go_simp; rfl)
        simp only [List.nil_append, List.cons_append]
        refine Free.Chain.exG ?_ [(18, 176)] [19] 18 false 176 (by kernel_rfl) (by kernel_rfl) rfl (by kernel_rfl) Free.Bel.refl ?_ ?_
        rotate_left
        · (intro ev W hb hR hO hD; have hS := hF W hR; obtain ⟨hb1, hb2, hb3⟩ := hb; simp only [Free.AllDeps, Free.AllOuts, Free.At, List.getElem?_cons_succ, List.getElem?_cons_zero, Array.getD_eq_getD_getElem?, List.getElem?_toArray, Option.getD_some, and_true] at hO hD; refine ⟨by simp [hD], ?_⟩; go_simp; rfl)
        simp only [List.nil_append, List.cons_append]
        refine Free.Chain.exG ?_ [(18, 176)] [16] 18 false 176 (by kernel_rfl) (by kernel_rfl) rfl (by kernel_rfl) Free.Bel.refl ?_ ?_
        rotate_left
        · (intro ev W hb hR hO hD; have hS := hF W hR; obtain ⟨hb1, hb2, hb3⟩ := hb; simp only [Free.AllDeps, Free.AllOuts, Free.At, List.getElem?_cons_succ, List.getElem?_cons_zero, Array.getD_eq_getD_getElem?, List.getElem?_toArray, Option.getD_some, and_true] at hO hD; refine ⟨by simp [hD], ?_⟩; go_simp; rfl)
        simp only [List.nil_append, List.cons_append]
        refine Free.Chain.exG ?_ [(20, 178), (18, 176)] [] 18 false 176 (by kernel_rfl) (by kernel_rfl) rfl (by kernel_rfl) Free.Bel.refl ?_ ?_
        rotate_left
        · (intro ev W hb hR hO hD; have hS := hF W hR; obtain ⟨hb1, hb2, hb3⟩ := hb; simp only [Free.AllDeps, Free.AllOuts, Free.At, List.getElem?_cons_succ, List.getElem?_cons_zero, Array.getD_eq_getD_getElem?, List.getElem?_toArray, Option.getD_some, and_true] at hO hD; refine ⟨by simp [hD], ?_⟩; go_simp; rfl)
        simp only [List.nil_append, List.cons_append]
        refine Free.Chain.exG ?_ [(18, 176)] [16] 18 false 176 (by kernel_rfl) (by kernel_rfl) rfl (by kernel_rfl) Free.Bel.refl ?_ ?_
        rotate_left
        · (intro ev W hb hR hO hD; have hS := hF W hR; obtain ⟨hb1, hb2, hb3⟩ := hb; simp only [Free.AllDeps, Free.AllOuts, Free.At, List.getElem?_cons_succ, List.getElem?_cons_zero, Array.getD_eq_getD_getElem?, List.getElem?_toArray, Option.getD_some, and_true] at hO hD; refine ⟨by simp [hD], ?_⟩; go_simp; rfl)
        simp only [List.nil_append, List.cons_append]
        refine Free.Chain.exG ?_ [(22, 180), (18, 176)] [] 18 false 176 (by kernel_rfl) (by kernel_rfl) rfl (by kernel_rfl) Free.Bel.refl ?_ ?_
        rotate_left
        · (intro ev W hb hR hO hD; have hS := hF W hR; obtain ⟨hb1, hb2, hb3⟩ := hb; simp only [Free.AllDeps, Free.AllOuts, Free.At, List.getElem?_cons_succ, List.getElem?_cons_zero, Array.getD_eq_getD_getElem?, List.getElem?_toArray, Option.getD_some, and_true] at hO hD; refine ⟨by simp [hD], ?_⟩; go_simp; rfl)
        simp only [List.nil_append, List.cons_append]
        refine Free.Chain.exG ?_ [(21, 179), (23, 181), (18, 176)] [] 18 false 176 (by kernel_rfl) (by kernel_rfl) rfl (by kernel_rfl) Free.Bel.refl ?_ ?_
        rotate_left
        · (intro ev W hb hR hO hD; have hS := hF W hR; obtain ⟨hb1, hb2, hb3⟩ := hb; simp only [Free.AllDeps, Free.AllOuts, Free.At, List.getElem?_cons_succ, List.getElem?_cons_zero, Array.getD_eq_getD_getElem?, List.getElem?_toArray, Option.getD_some, and_true] at hO hD; refine ⟨by simp [hD], ?_⟩; go_simp; rfl)
        simp only [List.nil_append, List.cons_append]
        refine Free.Chain.prG (fun v _ => v = i2 (F + S) 1) [(24, 182), (18, 176), (18, 176)] [] 18 false 176 (by kernel_rfl) (by kernel_rfl) rfl (by kernel_rfl) (fun _ _ _ _ h => h) ?_ ?_
        · (intro ev W hb hR hO hD; have hS := hF W hR; obtain ⟨hb1, hb2, hb3⟩ := hb; simp only [Free.AllDeps, Free.AllOuts, Free.At, List.getElem?_cons_succ, List.getElem?_cons_zero, Array.getD_eq_getD_getElem?, List.getElem?_toArray, Option.getD_some, and_true] at hO hD; refine ⟨by simp [hD], ?_⟩; go_simp; refine yields_enter ?_; (with_reducible refine (partL_any (F + S) 1 _).mono ?_); rintro e W2 ⟨rfl, hB2⟩; exact ⟨_, rfl, hB2, rfl⟩)
        simp only [List.nil_append, List.cons_append]
        refine Free.Chain.prG (fun v _ => v = .bool true) [(19, 177), (25, 183), (25, 183), (18, 176)] [] 18 false 176 (by kernel_rfl) (by kernel_rfl) rfl (by kernel_rfl) (fun _ _ _ _ h => h) ?_ ?_
        · (intro ev W hb hR hO hD; have hS := hF W hR; obtain ⟨hb1, hb2, hb3⟩ := hb; simp only [Free.AllDeps, Free.AllOuts, Free.At, List.getElem?_cons_succ, List.getElem?_cons_zero, Array.getD_eq_getD_getElem?, List.getElem?_toArray, Option.getD_some, and_true] at hO hD; refine ⟨by simp [hD], ?_⟩; go_simp; refine yields_enter ?_; (with_reducible refine (atMostL_any op oq (F + S) 1 _ bo.1 bo.2 hone2 h11).mono ?_); rintro e W2 ⟨rfl, hB2⟩; exact ⟨_, rfl, hB2, by rw [HK.out.2.2.2]⟩)
        simp only [List.nil_append, List.cons_append]
        refine Free.Chain.exG ?_ [(26, 184), (18, 176)] [] 18 false 176 (by kernel_rfl) (by kernel_rfl) rfl (by kernel_rfl) Free.Bel.refl ?_ ?_
        rotate_left
        · (intro ev W hb hR hO hD; have hS := hF W hR; obtain ⟨hb1, hb2, hb3⟩ := hb; simp only [Free.AllDeps, Free.AllOuts, Free.At, List.getElem?_cons_succ, List.getElem?_cons_zero, Array.getD_eq_getD_getElem?, List.getElem?_toArray, Option.getD_some, and_true] at hO hD; refine ⟨by simp [hD], ?_⟩; go_simp; rfl)
        simp only [List.nil_append, List.cons_append]
        refine Free.Chain.ex ?_ [(18, 176), (27, 185)] [] (by kernel_rfl) (by kernel_rfl) rfl Free.Bel.refl ?_ ?_
        rotate_left
        · (intro ev W hb hR hO hD; have hS := hF W hR; obtain ⟨hb1, hb2, hb3⟩ := hb; simp only [Free.AllDeps, Free.AllOuts, Free.At, List.getElem?_cons_succ, List.getElem?_cons_zero, Array.getD_eq_getD_getElem?, List.getElem?_toArray, Option.getD_some, and_true] at hO hD; go_simp; rfl)
        simp only [List.nil_append, List.cons_append]
        intro xs w12 hR hV
        simp only [Free.AllV, Free.At, List.length_cons, List.length_nil, Nat.reduceAdd, List.getElem?_cons_succ, List.getElem?_cons_zero, true_and, and_true] at hV
        simp only [Free.putsFrom, Act.put, Nat.zero_add, Nat.reduceAdd, hV, List.setIfInBounds_toArray, List.set_cons_succ, List.set_cons_zero]
        have hN := hF w12 hR
        clear hR hF
        have HB_w12 := Lib.hid (HB_wr.out.trans ((hN).mono hz_wr))
        have hz_w12 : bb ≤ w12.heap.size := Nat.le_trans hz_wr (hN).size
        have HL_w12 : Free.Bel w11 w12 := Free.Bel.trans _ _ _ HL_wr (hN)
        clear HL_wr
        have HWR : Free.Bel wr w12 := Free.Bel.trans _ _ _ HWR (hN)
        have FN := fun (W : World) (hW : Free.Bel w12 W) => FA W (Free.Bel.trans _ _ _ (hN) hW)
        clear FA HB_wr hz_wr KR
        have FA := FN
        clear FN
        have KR := Free.Bel.refl w12
        clear hN hV
        obtain ⟨hBS, hzS, S0, S1, S2, S3, S4, S5, G0, G1, G2, G3, G4⟩ := storedT (m := min T R) hbn HB_w12.out hz_w12 (FA w12 (Free.Bel.refl _)).2.2.2.2.2.2.2.2.2.2.2.2.2.2.2.2.2.2.2.2.2.2.2.1 (FA w12 (Free.Bel.refl _)).2.2.2.2.2.2.2.2.2.2.2.2.2.2.2.2.2.2.2.2.2.2.2.2.1 (FA w12 (Free.Bel.refl _)).2.2.2.2.2.2.2.2.2.2.2.2.2.2.2.2.2.2.2.2.2.2.2.2.2.1 (FA w12 (Free.Bel.refl _)).2.2.2.2.2.2.2.2.2.2.2.2.2.2.2.2.2.2.2.2.2.2.2.2.2.2.1 (FA w12 (Free.Bel.refl _)).2.2.2.2.2.2.2.2.2.2.2.2.2.2.2.2.2.2.2.2.2.2.2.2.2.2.2.1 (FA w12 (Free.Bel.refl _)).2.2.2.2.2.2.2.2.2.2.2.2.2.2.2.2.2.2.2.2.2.2.2.2.2.2.2.2.1 (FA w12 (Free.Bel.refl _)).2.2.2.2.2.2.2.2.2.2.2.2.2.2.2.2.1 (FA w12 (Free.Bel.refl _)).2.2.2.2.2.2.2.2.2.2.2.2.2.2.2.2.2.1 (FA w12 (Free.Bel.refl _)).2.2.2.2.2.2.2.2.2.2.2.2.2.2.2.2.2.2.1 (FA w12 (Free.Bel.refl _)).2.2.2.2.2.2.2.2.2.2.2.2.2.2.2.2.2.2.2.1 (FA w12 (Free.Bel.refl _)).2.2.2.2.2.2.2.2.2.2.2.2.2.2.2.2.2.2.2.2.1
        go_wp2_with fail
        clear FA KR
        generalize ((w12.setCell ⟨g30, 4, none⟩ (.int .i64 (min T R))).setCell ⟨g30, 3, none⟩ (.int .i64 0)) = w13 at *
        have HB_w13 := Lib.hid (show Below bb w w13 from hBS)
        have hz_w13 : bb ≤ w13.heap.size := hzS
        have FA : ∀ W, Free.Bel w13 W → W.cell? ⟨0, 0, none⟩ = some (dblF 108) ∧ W.cell? ⟨0, 1, none⟩ = some (dblF 109) ∧ W.cell? ⟨0, 2, none⟩ = some (dblF 110) ∧ W.cell? ⟨bb, 0, none⟩ = some (.int .i64 N) ∧ W.cell? ⟨bb, 1, none⟩ = some (.int .i64 lo) ∧ W.cell? ⟨bb, 2, none⟩ = some (.int .i64 hi) ∧ W.cell? ⟨g30, 0, none⟩ = some (.int .i64 F) ∧ W.cell? ⟨g30, 1, none⟩ = some (.int .i64 a) ∧ W.cell? ⟨g30, 2, none⟩ = some (.int .i64 R) ∧ W.cell? ⟨g30, 3, none⟩ = some (.int .i64 0) ∧ W.cell? ⟨g30, 4, none⟩ = some (.int .i64 (min T R)) ∧ bb ≤ W.heap.size := fun W hW => ⟨keepsB hW S0, keepsB hW S1, keepsB hW S2, keepsB hW S3, keepsB hW S4, keepsB hW S5, keepsB hW G0, keepsB hW G1, keepsB hW G2, keepsB hW G3, keepsB hW G4, Nat.le_trans hz_w13 hW.size⟩
        have KR : Free.Bel w13 w13 := Free.Bel.refl _
        clear hBS hzS S0 S1 S2 S3 S4 S5 G0 G1 G2 G3 G4
        refine (twice_ok N lo hi F a R 0 (min T R) D np nq F 1 _ (tabD_mk (FA w13 (Free.Bel.refl _)).1 (FA w13 (Free.Bel.refl _)).2.1 (FA w13 (Free.Bel.refl _)).2.2.1) hc hD s2 HNP2 HSA).mono ?_
        rintro e w14 ⟨rfl, hB⟩
        have HB_w14 := Lib.hid (HB_w13.out.trans ((hB).mono hz_w13))
        have hz_w14 : bb ≤ w14.heap.size := Nat.le_trans hz_w13 (hB).size
        have FN := fun (W : World) (hW : Free.Bel w14 W) => FA W (Free.Bel.trans _ _ _ (hB) hW)
        clear FA HB_w13 hz_w13 KR
        have FA := FN
        clear FN
        have KR := Free.Bel.refl w14
        clear hB
        have KA0 : Free.Bel w14 (w14.alloc (.cells #[.int .i64 np, .int .i64 nq] 32)) := Bel.allocT (Free.Bel.refl _) _
        have KA1 : Free.Bel w14 ((w14.alloc (.cells #[.int .i64 np, .int .i64 nq] 32)).alloc (.cells #[.int .i64 F, .int .i64 1] 32)) := Bel.allocT KA0 _
        go_wp2_with fail
        clear KA0 KA1
        have hN : Free.Bel w14 ((w14.alloc (.cells #[.int .i64 np, .int .i64 nq] 32)).alloc (.cells #[.int .i64 F, .int .i64 1] 32)) := (Bel.allocT (Bel.allocT (Free.Bel.refl w14) _) _)
        have n_g140_0 : ((w14.alloc (.cells #[.int .i64 np, .int .i64 nq] 32)).alloc (.cells #[.int .i64 F, .int .i64 1] 32)).cell? ⟨w14.heap.size, 0, none⟩ = some (.int .i64 np) := by simp [go_sem]
        have n_g140_1 : ((w14.alloc (.cells #[.int .i64 np, .int .i64 nq] 32)).alloc (.cells #[.int .i64 F, .int .i64 1] 32)).cell? ⟨w14.heap.size, 1, none⟩ = some (.int .i64 nq) := by simp [go_sem]
        have n_g141_0 : ((w14.alloc (.cells #[.int .i64 np, .int .i64 nq] 32)).alloc (.cells #[.int .i64 F, .int .i64 1] 32)).cell? ⟨w14.heap.size + 1, 0, none⟩ = some (.int .i64 F) := by simp [go_sem]
        have n_g141_1 : ((w14.alloc (.cells #[.int .i64 np, .int .i64 nq] 32)).alloc (.cells #[.int .i64 F, .int .i64 1] 32)).cell? ⟨w14.heap.size + 1, 1, none⟩ = some (.int .i64 1) := by simp [go_sem]
        generalize ((w14.alloc (.cells #[.int .i64 np, .int .i64 nq] 32)).alloc (.cells #[.int .i64 F, .int .i64 1] 32)) = w15 at *
        obtain ⟨g140, hgz⟩ : ∃ x, x = w14.heap.size := ⟨_, rfl⟩
        rw [← hgz] at n_g140_0 n_g140_1 n_g141_0 n_g141_1 ⊢
        clear hgz
        have HB_w15 := Lib.hid (HB_w14.out.trans ((hN).mono hz_w14))
        have hz_w15 : bb ≤ w15.heap.size := Nat.le_trans hz_w14 (hN).size
        have FN := fun (W : World) (hW : Free.Bel w15 W) => And.intro (keepsB hW n_g140_0) (And.intro (keepsB hW n_g140_1) (And.intro (keepsB hW n_g141_0) (And.intro (keepsB hW n_g141_1) (FA W (Free.Bel.trans _ _ _ (hN) hW)))))
        clear FA HB_w14 hz_w14 KR
        have FA := FN
        clear FN
        have KR := Free.Bel.refl w15
        clear hN n_g140_0 n_g140_1 n_g141_0 n_g141_1
        refine (accept_ok N lo hi D F (min T (min R (R - 1))) np nq _ hc s5 hD HNP).mono ?_
        rintro e w16 ⟨rfl, hB⟩
        have HB_w16 := Lib.hid (HB_w15.out.trans ((hB).mono hz_w15))
        have hz_w16 : bb ≤ w16.heap.size := Nat.le_trans hz_w15 (hB).size
        have FN := fun (W : World) (hW : Free.Bel w16 W) => FA W (Free.Bel.trans _ _ _ (hB) hW)
        clear FA HB_w15 hz_w15 KR
        have FA := FN
        clear FN
        have KR := Free.Bel.refl w16
        clear hB
        have KA0 : Free.Bel w16 (w16.alloc (.cells #[.int .i64 np, .int .i64 nq] 32)) := Bel.allocT (Free.Bel.refl _) _
        go_wp2_with fail
        clear KA0
        have hN : Free.Bel w16 (w16.alloc (.cells #[.int .i64 np, .int .i64 nq] 32)) := (Bel.allocT (Free.Bel.refl w16) _)
        have n_g160_0 : (w16.alloc (.cells #[.int .i64 np, .int .i64 nq] 32)).cell? ⟨w16.heap.size, 0, none⟩ = some (.int .i64 np) := by simp [go_sem]
        have n_g160_1 : (w16.alloc (.cells #[.int .i64 np, .int .i64 nq] 32)).cell? ⟨w16.heap.size, 1, none⟩ = some (.int .i64 nq) := by simp [go_sem]
        generalize (w16.alloc (.cells #[.int .i64 np, .int .i64 nq] 32)) = w17 at *
        obtain ⟨g160, hgz⟩ : ∃ x, x = w16.heap.size := ⟨_, rfl⟩
        rw [← hgz] at n_g160_0 n_g160_1 ⊢
        clear hgz
        have HB_w17 := Lib.hid (HB_w16.out.trans ((hN).mono hz_w16))
        have hz_w17 : bb ≤ w17.heap.size := Nat.le_trans hz_w16 (hN).size
        have FN := fun (W : World) (hW : Free.Bel w17 W) => And.intro (keepsB hW n_g160_0) (And.intro (keepsB hW n_g160_1) (FA W (Free.Bel.trans _ _ _ (hN) hW)))
        clear FA HB_w16 hz_w16 KR
        have FA := FN
        clear FN
        have KR := Free.Bel.refl w17
        clear hN n_g160_0 n_g160_1
        have hF : ∀ W, Free.Bel w17.drew W → Free.Bel w17 W := fun W hW => Free.Bel.trans _ _ _ (Bel.drewT (Free.Bel.refl _)) hW
        refine Free.wp_free (R := Free.Bel) (by kernel_rfl) (by kernel_rfl) Free.Bel.refl Free.Bel.trans ?_
        refine Free.Chain.ex ?_ [] [15] (by kernel_rfl) (by kernel_rfl) rfl Free.Bel.refl ?_ ?_
        rotate_left
        · (intro ev W hb hR hO hD; have hS := hF W hR; obtain ⟨hb1, hb2, hb3⟩ := hb; simp only [Free.AllDeps, Free.AllOuts, Free.At, List.getElem?_cons_succ, List.getElem?_cons_zero, Array.getD_eq_getD_getElem?, List.getElem?_toArray, Option.getD_some, and_true] at hO hD; go_simp; rfl)
        simp only [List.nil_append, List.cons_append]
        refine Free.Chain.ex ?_ [(0, 217)] [] (by kernel_rfl) (by kernel_rfl) rfl Free.Bel.refl ?_ ?_
        rotate_left
        · (intro ev W hb hR hO hD; have hS := hF W hR; obtain ⟨hb1, hb2, hb3⟩ := hb; simp only [Free.AllDeps, Free.AllOuts, Free.At, List.getElem?_cons_succ, List.getElem?_cons_zero, Array.getD_eq_getD_getElem?, List.getElem?_toArray, Option.getD_some, and_true] at hO hD; go_simp; rfl)
        simp only [List.nil_append, List.cons_append]
        refine Free.Chain.exG ?_ [(1, 218)] [29] 1 true 218 (by kernel_rfl) (by kernel_rfl) rfl (by kernel_rfl) Free.Bel.refl ?_ ?_
        rotate_left
        · (intro ev W hb hR hO hD; have hS := hF W hR; obtain ⟨hb1, hb2, hb3⟩ := hb; simp only [Free.AllDeps, Free.AllOuts, Free.At, List.getElem?_cons_succ, List.getElem?_cons_zero, Array.getD_eq_getD_getElem?, List.getElem?_toArray, Option.getD_some, and_true] at hO hD; refine ⟨by simp [hD], ?_⟩; go_simp; rfl)
        simp only [List.nil_append, List.cons_append]
        refine Free.Chain.exG ?_ [(2, 219), (1, 218)] [] 1 true 218 (by kernel_rfl) (by kernel_rfl) rfl (by kernel_rfl) Free.Bel.refl ?_ ?_
        rotate_left
        · (intro ev W hb hR hO hD; have hS := hF W hR; obtain ⟨hb1, hb2, hb3⟩ := hb; simp only [Free.AllDeps, Free.AllOuts, Free.At, List.getElem?_cons_succ, List.getElem?_cons_zero, Array.getD_eq_getD_getElem?, List.getElem?_toArray, Option.getD_some, and_true] at hO hD; refine ⟨by simp [hD], ?_⟩; go_simp; rfl)
        simp only [List.nil_append, List.cons_append]
        refine Free.Chain.ex ?_ [(1, 218), (3, 220)] [] (by kernel_rfl) (by kernel_rfl) rfl Free.Bel.refl ?_ ?_
        rotate_left
        · (intro ev W hb hR hO hD; have hS := hF W hR; obtain ⟨hb1, hb2, hb3⟩ := hb; simp only [Free.AllDeps, Free.AllOuts, Free.At, List.getElem?_cons_succ, List.getElem?_cons_zero, Array.getD_eq_getD_getElem?, List.getElem?_toArray, Option.getD_some, and_true] at hO hD; go_simp; rfl)
        simp only [List.nil_append, List.cons_append]
        refine Free.Chain.ex ?_ [(4, 221), (1, 218)] [] (by kernel_rfl) (by kernel_rfl) rfl Free.Bel.refl ?_ ?_
        rotate_left
        · (intro ev W hb hR hO hD; have hS := hF W hR; obtain ⟨hb1, hb2, hb3⟩ := hb; simp only [Free.AllDeps, Free.AllOuts, Free.At, List.getElem?_cons_succ, List.getElem?_cons_zero, Array.getD_eq_getD_getElem?, List.getElem?_toArray, Option.getD_some, and_true] at hO hD; go_simp; rfl)
        simp only [List.nil_append, List.cons_append]
        refine Free.Chain.exG ?_ [(5, 222)] [31] 5 true 222 (by kernel_rfl) (by kernel_rfl) rfl (by kernel_rfl) Free.Bel.refl ?_ ?_
        rotate_left
        · (intro ev W hb hR hO hD; have hS := hF W hR; obtain ⟨hb1, hb2, hb3⟩ := hb; simp only [Free.AllDeps, Free.AllOuts, Free.At, List.getElem?_cons_succ, List.getElem?_cons_zero, Array.getD_eq_getD_getElem?, List.getElem?_toArray, Option.getD_some, and_true] at hO hD; refine ⟨by simp [hD], ?_⟩; go_simp; rfl)
        simp only [List.nil_append, List.cons_append]
        refine Free.Chain.exG ?_ [(6, 223), (5, 222)] [] 5 true 222 (by kernel_rfl) (by kernel_rfl) rfl (by kernel_rfl) Free.Bel.refl ?_ ?_
        rotate_left
        · (intro ev W hb hR hO hD; have hS := hF W hR; obtain ⟨hb1, hb2, hb3⟩ := hb; simp only [Free.AllDeps, Free.AllOuts, Free.At, List.getElem?_cons_succ, List.getElem?_cons_zero, Array.getD_eq_getD_getElem?, List.getElem?_toArray, Option.getD_some, and_true] at hO hD; refine ⟨by simp [hD], ?_⟩; go_simp; rfl)
        simp only [List.nil_append, List.cons_append]
        refine Free.Chain.ex ?_ [(5, 222), (7, 224)] [] (by kernel_rfl) (by kernel_rfl) rfl Free.Bel.refl ?_ ?_
        rotate_left
        · (intro ev W hb hR hO hD; have hS := hF W hR; obtain ⟨hb1, hb2, hb3⟩ := hb; simp only [Free.AllDeps, Free.AllOuts, Free.At, List.getElem?_cons_succ, List.getElem?_cons_zero, Array.getD_eq_getD_getElem?, List.getElem?_toArray, Option.getD_some, and_true] at hO hD; go_simp; rfl)
        simp only [List.nil_append, List.cons_append]
        refine Free.Chain.ex ?_ [(8, 225), (5, 222)] [] (by kernel_rfl) (by kernel_rfl) rfl Free.Bel.refl ?_ ?_
        rotate_left
        · (intro ev W hb hR hO hD; have hS := hF W hR; obtain ⟨hb1, hb2, hb3⟩ := hb; simp only [Free.AllDeps, Free.AllOuts, Free.At, List.getElem?_cons_succ, List.getElem?_cons_zero, Array.getD_eq_getD_getElem?, List.getElem?_toArray, Option.getD_some, and_true] at hO hD; go_simp; rfl)
        simp only [List.nil_append, List.cons_append]
        refine Free.Chain.exG ?_ [(9, 226)] [27] 9 true 226 (by kernel_rfl) (by kernel_rfl) rfl (by kernel_rfl) Free.Bel.refl ?_ ?_
        rotate_left
        · (intro ev W hb hR hO hD; have hS := hF W hR; obtain ⟨hb1, hb2, hb3⟩ := hb; simp only [Free.AllDeps, Free.AllOuts, Free.At, List.getElem?_cons_succ, List.getElem?_cons_zero, Array.getD_eq_getD_getElem?, List.getElem?_toArray, Option.getD_some, and_true] at hO hD; refine ⟨by simp [hD], ?_⟩; go_simp; rfl)
        simp only [List.nil_append, List.cons_append]
        refine Free.Chain.exG ?_ [(9, 226)] [30] 9 true 226 (by kernel_rfl) (by kernel_rfl) rfl (by kernel_rfl) Free.Bel.refl ?_ ?_
        rotate_left
        · (intro ev W hb hR hO hD; have hS := hF W hR; obtain ⟨hb1, hb2, hb3⟩ := hb; simp only [Free.AllDeps, Free.AllOuts, Free.At, List.getElem?_cons_succ, List.getElem?_cons_zero, Array.getD_eq_getD_getElem?, List.getElem?_toArray, Option.getD_some, and_true] at hO hD; refine ⟨by simp [hD], ?_⟩; go_simp; rfl)
        simp only [List.nil_append, List.cons_append]
        refine Free.Chain.exG ?_ [(10, 227), (11, 228), (9, 226)] [] 9 true 226 (by kernel_rfl) (by kernel_rfl) rfl (by kernel_rfl) Free.Bel.refl ?_ ?_
        rotate_left
        · (intro ev W hb hR hO hD; have hS := hF W hR; obtain ⟨hb1, hb2, hb3⟩ := hb; simp only [Free.AllDeps, Free.AllOuts, Free.At, List.getElem?_cons_succ, List.getElem?_cons_zero, Array.getD_eq_getD_getElem?, List.getElem?_toArray, Option.getD_some, and_true] at hO hD; refine ⟨by simp [hD], ?_⟩; go_simp; rfl)
        simp only [List.nil_append, List.cons_append]
        refine Free.Chain.ex ?_ [(9, 226), (12, 229)] [] (by kernel_rfl) (by kernel_rfl) rfl Free.Bel.refl ?_ ?_
        rotate_left
        · (intro ev W hb hR hO hD; have hS := hF W hR; obtain ⟨hb1, hb2, hb3⟩ := hb; simp only [Free.AllDeps, Free.AllOuts, Free.At, List.getElem?_cons_succ, List.getElem?_cons_zero, Array.getD_eq_getD_getElem?, List.getElem?_toArray, Option.getD_some, and_true] at hO hD; go_simp; rfl)
        simp only [List.nil_append, List.cons_append]
        refine Free.Chain.ex ?_ [(13, 230), (9, 226)] [] (by kernel_rfl) (by kernel_rfl) rfl Free.Bel.refl ?_ ?_
        rotate_left
        · (intro ev W hb hR hO hD; have hS := hF W hR; obtain ⟨hb1, hb2, hb3⟩ := hb; simp only [Free.AllDeps, Free.AllOuts, Free.At, List.getElem?_cons_succ, List.getElem?_cons_zero, Array.getD_eq_getD_getElem?, List.getElem?_toArray, Option.getD_some, and_true] at hO hD; go_simp; rfl)
        simp only [List.nil_append, List.cons_append]
        refine Free.Chain.exG ?_ [(14, 231)] [28] 14 true 231 (by kernel_rfl) (by kernel_rfl) rfl (by kernel_rfl) Free.Bel.refl ?_ ?_
        rotate_left
        · (intro ev W hb hR hO hD; have hS := hF W hR; obtain ⟨hb1, hb2, hb3⟩ := hb; simp only [Free.AllDeps, Free.AllOuts, Free.At, List.getElem?_cons_succ, List.getElem?_cons_zero, Array.getD_eq_getD_getElem?, List.getElem?_toArray, Option.getD_some, and_true] at hO hD; refine ⟨by simp [hD], ?_⟩; go_simp; rfl)
        simp only [List.nil_append, List.cons_append]
        refine Free.Chain.exG ?_ [(14, 231)] [16] 14 true 231 (by kernel_rfl) (by kernel_rfl) rfl (by kernel_rfl) Free.Bel.refl ?_ ?_
        rotate_left
        · (intro ev W hb hR hO hD; have hS := hF W hR; obtain ⟨hb1, hb2, hb3⟩ := hb; simp only [Free.AllDeps, Free.AllOuts, Free.At, List.getElem?_cons_succ, List.getElem?_cons_zero, Array.getD_eq_getD_getElem?, List.getElem?_toArray, Option.getD_some, and_true] at hO hD; refine ⟨by simp [hD], ?_⟩; go_simp; rfl)
        simp only [List.nil_append, List.cons_append]
        refine Free.Chain.exG ?_ [(16, 233), (14, 231)] [] 14 true 231 (by kernel_rfl) (by kernel_rfl) rfl (by kernel_rfl) Free.Bel.refl ?_ ?_
        rotate_left
        · (intro ev W hb hR hO hD; have hS := hF W hR; obtain ⟨hb1, hb2, hb3⟩ := hb; simp only [Free.AllDeps, Free.AllOuts, Free.At, List.getElem?_cons_succ, List.getElem?_cons_zero, Array.getD_eq_getD_getElem?, List.getElem?_toArray, Option.getD_some, and_true] at hO hD; refine ⟨by simp [hD], ?_⟩; go_simp; rfl)
        simp only [List.nil_append, List.cons_append]
        refine Free.Chain.prG (fun v _ => v = i2 F 1) [(17, 234), (14, 231), (14, 231)] [] 14 true 231 (by kernel_rfl) (by kernel_rfl) rfl (by kernel_rfl) (fun _ _ _ _ h => h) ?_ ?_
        · (intro ev W hb hR hO hD; have hS := hF W hR; obtain ⟨hb1, hb2, hb3⟩ := hb; simp only [Free.AllDeps, Free.AllOuts, Free.At, List.getElem?_cons_succ, List.getElem?_cons_zero, Array.getD_eq_getD_getElem?, List.getElem?_toArray, Option.getD_some, and_true] at hO hD; refine ⟨by simp [hD], ?_⟩; go_simp; refine yields_enter ?_; (with_reducible refine (partL_any F 1 _).mono ?_); rintro e W2 ⟨rfl, hB2⟩; exact ⟨_, rfl, hB2, rfl⟩)
        simp only [List.nil_append, List.cons_append]
        refine Free.Chain.exG ?_ [(15, 232), (18, 235), (14, 231)] [] 14 true 231 (by kernel_rfl) (by kernel_rfl) rfl (by kernel_rfl) Free.Bel.refl ?_ ?_
        rotate_left
        · (intro ev W hb hR hO hD; have hS := hF W hR; obtain ⟨hb1, hb2, hb3⟩ := hb; simp only [Free.AllDeps, Free.AllOuts, Free.At, List.getElem?_cons_succ, List.getElem?_cons_zero, Array.getD_eq_getD_getElem?, List.getElem?_toArray, Option.getD_some, and_true] at hO hD; refine ⟨by simp [hD], ?_⟩; go_simp; rfl)
        simp only [List.nil_append, List.cons_append]
        refine Free.Chain.ex ?_ [(14, 231), (19, 236)] [] (by kernel_rfl) (by kernel_rfl) rfl Free.Bel.refl ?_ ?_
        rotate_left
        · (intro ev W hb hR hO hD; have hS := hF W hR; obtain ⟨hb1, hb2, hb3⟩ := hb; simp only [Free.AllDeps, Free.AllOuts, Free.At, List.getElem?_cons_succ, List.getElem?_cons_zero, Array.getD_eq_getD_getElem?, List.getElem?_toArray, Option.getD_some, and_true] at hO hD; go_simp; rfl)
        simp only [List.nil_append, List.cons_append]
        refine Free.Chain.ex ?_ [(20, 237), (18, 235), (0, 217), (1, 218), (2, 219), (3, 220), (4, 221), (5, 222), (6, 223), (7, 224), (8, 225), (9, 226), (10, 227), (11, 228), (12, 229), (13, 230), (14, 231), (15, 232), (16, 233), (17, 234), (18, 235), (19, 236), (20, 237)] [] (by kernel_rfl) (by kernel_rfl) rfl Free.Bel.refl ?_ ?_
        rotate_left
        · (intro ev W hb hR hO hD; have hS := hF W hR; obtain ⟨hb1, hb2, hb3⟩ := hb; simp only [Free.AllDeps, Free.AllOuts, Free.At, List.getElem?_cons_succ, List.getElem?_cons_zero, Array.getD_eq_getD_getElem?, List.getElem?_toArray, Option.getD_some, and_true] at hO hD; go_simp; rfl)
        simp only [List.nil_append, List.cons_append]
        intro xs w18 hR hV
        simp only [Free.AllV, Free.At, List.length_cons, List.length_nil, Nat.reduceAdd, List.getElem?_cons_succ, List.getElem?_cons_zero, true_and, and_true] at hV
        simp only [Free.putsFrom, Act.put, Nat.zero_add, Nat.reduceAdd, hV, List.setIfInBounds_toArray, List.set_cons_succ, List.set_cons_zero]
        have hN := hF w18 hR
        clear hR hF
        have HB_w18 := Lib.hid (HB_w17.out.trans ((hN).mono hz_w17))
        have hz_w18 : bb ≤ w18.heap.size := Nat.le_trans hz_w17 (hN).size
        have FN := fun (W : World) (hW : Free.Bel w18 W) => FA W (Free.Bel.trans _ _ _ (hN) hW)
        clear FA HB_w17 hz_w17 KR
        have FA := FN
        clear FN
        have KR := Free.Bel.refl w18
        clear hN hV
        go_wp2_with fail
        go_ret
        have hbb := HBB.out
        subst hbb
        exact ⟨rfl, HB_w18.out⟩
end Go.Proofs.YtinndhmjojpekaaDoor

/- For every input the law SampleTwice returns true, and its arguments read behind the call as they read before; what a double rule is asked lies in the table as the program's text lays it (tied). Condition: that table. -/
namespace Go.Proofs.YtinndhmjojpekaaDoor.lawSampleTwice
open Go Go.ChangeShapes Go.WideShapes Go.ChangeAt Go.RowKit
set_option linter.unusedVariables false
set_option linter.unusedSimpArgs false

set_option maxRecDepth 100000 in
theorem contract (H : Type) (enc : TypeId × Value → H) (W : World) (base : Nat) (args : Array Value) (ds gs : List (DataW H)) (before : List MemPlace)
    (hval : ∀ (j : Nat) t v, Tryd.f3.params[j]? = some t → args[j]? = some v → Value.okWide Tryd.prog W .any base t v)
    (hW : DataW.Whole enc Tryd.prog Tryd.f3.params.toList Rows.sampleTwiceSpec.vars false W args.toList ds gs before) (hL : laidMetH Tryd.prog Rows.sampleTwiceRow.laid W) :
    Calls Tryd.prog 3 args W fun e W' => ∃ v, e = .returned v ∧ Rows.sampleTwiceSpec.post enc Tryd.prog Tryd.f3 false true false false W args v W' := by
  have hW' := hW
  obtain ⟨p, q, hA0, hV, rfl, hfz, hnd⟩ := hW
  have hA : DataW.TrodAll enc Tryd.prog W 0 (fun _ => true) true Tryd.f3.params.toList args.toList ds p := hA0
  have hAk := hA
  rw [Tryd.params3] at hA hval
  obtain ⟨v0, vs0, d0, ds0, p0, q0, hargs, rfl, rfl, h0, r0⟩ := trodAll_cons hA
  obtain ⟨v1, vs1, d1, ds1, p1, q1, rfl, rfl, rfl, h1, r1⟩ := trodAll_cons r0
  obtain ⟨v2, vs2, d2, ds2, p2, q2, rfl, rfl, rfl, h2, r2⟩ := trodAll_cons r1
  obtain ⟨v3, vs3, d3, ds3, p3, q3, rfl, rfl, rfl, h3, r3⟩ := trodAll_cons r2
  obtain ⟨v4, vs4, d4, ds4, p4, q4, rfl, rfl, rfl, h4, r4⟩ := trodAll_cons r3
  obtain ⟨v5, vs5, d5, ds5, p5, q5, rfl, rfl, rfl, h5, r5⟩ := trodAll_cons r4
  obtain ⟨v6, vs6, d6, ds6, p6, q6, rfl, rfl, rfl, h6, r6⟩ := trodAll_cons r5
  obtain ⟨rfl, rfl, rfl⟩ := trodAll_nil r6
  obtain rfl : args = #[v0, v1, v2, v3, v4, v5, v6] := by cases args; simp_all
  obtain ⟨rfl, rfl⟩ := trodVars_none hV
  have hlt : ∀ x ∈ p0 ++ (p1 ++ (p2 ++ (p3 ++ (p4 ++ (p5 ++ (p6 ++ ([]))))))), x.block < W.heap.size := fun x hx => by
    have := hW'.lt x (by simpa using hx)
    simpa using this
  obtain ⟨N, lo, hi, rfl⟩ := Law.shape12 Tryd.underlying25 (by kernel_rfl) Tryd.underlying3 rfl (by kernel_rfl) rfl (by kernel_rfl) Tryd.underlying23 Tryd.underlying3 Tryd.underlying3 rfl rfl (by kernel_rfl) (by kernel_rfl) (hval 0 25 _ rfl rfl) h0
  obtain ⟨x, rfl, _, hwf1⟩ := open_int Tryd.underlying5 (hval 1 5 _ rfl rfl) h1
  obtain ⟨e1, rfl, _, hwf2⟩ := open_int Tryd.underlying5 (hval 2 5 _ rfl rfl) h2
  obtain ⟨e2, rfl, _, hwf3⟩ := open_int Tryd.underlying5 (hval 3 5 _ rfl rfl) h3
  obtain ⟨e3, rfl, _, hwf4⟩ := open_int Tryd.underlying5 (hval 4 5 _ rfl rfl) h4
  obtain ⟨e4, rfl, _, hwf5⟩ := open_int Tryd.underlying5 (hval 5 5 _ rfl rfl) h5
  obtain ⟨e5, rfl, _, hwf6⟩ := open_int Tryd.underlying5 (hval 6 5 _ rfl rfl) h6
  refine (twiceL_walk N lo hi x e1 e2 e3 e4 e5 W (Tab.of_laid hL) (u8_wf hwf1.2) (u8_wf hwf2.2) (u8_wf hwf3.2) (u8_wf hwf4.2) (u8_wf hwf5.2) (u8_wf hwf6.2)).mono fun e W' ⟨he, hg⟩ => ?_
  subst he
  refine ⟨_, rfl, _, _, _, [], p0 ++ (p1 ++ (p2 ++ (p3 ++ (p4 ++ (p5 ++ (p6 ++ ([]))))))), [], hW', ?_, ?_, ?_, hg.frame _, fun h => by cases h⟩
  · exact trodAll_cons_mk (shut_bool Tryd.underlying4 true) trodAll_mk0
  · exact Law.args_below Tab.laidOut (by kernel_rfl) hg hAk hlt
  · rfl

set_option maxRecDepth 100000 in
theorem lifted (os : Os) (started : os.Started) (H : Type) (enc : TypeId × Value → H) :
    ReturnsInHanded {} Tryd.checked os 3 .any (fun w args => (Rows.sampleTwiceSpec.pre enc Tryd.prog Tryd.f3 [] false w args ∧ laidMetH Tryd.prog Rows.sampleTwiceRow.laid w) ∧ sizedMet enc Tryd.prog Tryd.f3 (OpenSpec.ofChange Rows.sampleTwiceSpec) false w args) (Rows.sampleTwiceSpec.post enc Tryd.prog Tryd.f3 false true false false) := by
  refine returnsInHanded_of_change_and (C := Tryd.checked) (X := fun w _ => laidMetH Tryd.prog Rows.sampleTwiceRow.laid w) (fun _ _ _ hh h => h.of_heap hh) Tab.own started (by kernel_rfl) Tryd.func3
    (ChangeSpec.witness_shaped (enc := enc) (C := Tryd.checked) (os := os) (X := fun w _ => laidMetH Tryd.prog Rows.sampleTwiceRow.laid w) false (World.doorLaid Tryd.prog 17 os) #[.agg #[.int .i64 0, .int .i64 0, .int .i64 0], .int .u8 0, .int .u8 0, .int .u8 0, .int .u8 0, .int .u8 0, .int .u8 0] 8 rfl (World.shaped_of_RefB (by kernel_rfl) (by kernel_rfl)) (by kernel_rfl) (by kernel_rfl) (by kernel_rfl) (Tab.door_met os _)) ?_
  intro W base args ds gs before hval hW _ _ hL _
  exact contract H enc W base args ds gs before hval hW hL

theorem said : Rows.SampleTwiceSaid :=
  OpenClaim.holds_of_wide 3 Tryd.f3 rfl rfl rfl rfl rfl rfl rfl ⟨rfl, rfl, rfl, rfl, rfl⟩ rfl rfl rfl rfl rfl (by kernel_rfl) Tryd.func3 (by kernel_rfl)
    (of_decide_eq_true (by kernel_rfl)) (by unfold Func.isWrapper; first | (rw [if_pos (by decide +kernel)]; kernel_rfl) | (rw [if_neg (by decide +kernel)]; exact ⟨rfl, rfl⟩))
    (fun os started H enc _ => lifted os started H enc)

theorem plain (f : FuncId) (fn : Func) (hf : Tryd.pinned.checked.prog.funcNamed "oilcake/oilcakelaw01.SampleTwice" = some f) (hfn : Tryd.pinned.checked.prog.funcs[f]? = some fn) :
    false = Tryd.pinned.checked.prog.looks [] ∧ ∀ (j : Nat) t, fn.params[j]? = some t → Tryd.pinned.checked.prog.wantsStandIn t = false := by
  obtain rfl : f = 3 := Option.some.inj ((show Tryd.prog.funcNamed "oilcake/oilcakelaw01.SampleTwice" = some 3 by kernel_rfl).symm.trans hf) |>.symm
  obtain rfl : fn = Tryd.f3 := (Option.some.inj (Tryd.func3.symm.trans hfn)).symm
  refine ⟨by kernel_rfl, fun j t ht => ?_⟩
  rw [Tryd.params3] at ht
  have hm := Array.mem_of_getElem? ht
  have hall : (Tryd.f3.params.toList.all fun u => !Tryd.prog.wantsStandIn u) = true := by kernel_rfl
  rw [Tryd.params3] at hall
  exact (show Tryd.prog.wantsStandIn t = false by simpa using List.all_eq_true.1 hall t (by simpa using hm))

theorem card : Rows.SampleTwiceCardSaid :=
  Claim7.holds_tied_plain_at .later [] _ _ _ _ said (fun _ h => by cases h) (by kernel_rfl) (fun _ h => by cases h) sampleTwice_row_tie rfl ⟨rfl, rfl⟩ (by kernel_rfl) rfl plain (by kernel_rfl)
#print axioms card
end Go.Proofs.YtinndhmjojpekaaDoor.lawSampleTwice

