/- For every input the law SampleMore returns true, and its arguments read behind the call as they read before; what a double rule is asked lies in the table as the program's text lays it (tied). Condition: that table. -/
/- What can be is an interval; the greatest number with a chance is the last one. No walk here. -/
import Derived.Test.YtdiclofeggkjcaaDoorB7
namespace Go.Proofs.YtdiclofeggkjcaaDoor
set_option linter.unusedSimpArgs false
set_option linter.unusedVariables false
open Go.RowKit Go.Proofs.YtdiclofeggkjcaaDoor.ML Go.Proofs.YtdiclofeggkjcaaDoor.Samp

theorem foldl_min_spec : ∀ (zs : List Int) (a : Int), zs.foldl min a ≤ a ∧ (zs.foldl min a = a ∨ zs.foldl min a ∈ zs) ∧ ∀ x ∈ zs, zs.foldl min a ≤ x
  | [], a => ⟨Int.le_refl _, .inl rfl, by simp⟩
  | z :: zs, a => by
    obtain ⟨h1, h2, h3⟩ := foldl_min_spec zs (min a z)
    simp only [List.foldl_cons, List.mem_cons]
    refine ⟨by omega, ?_, fun x hx => ?_⟩
    · rcases h2 with h2 | h2
      · rw [h2]
        by_cases h : a ≤ z
        · left; omega
        · right; left; omega
      · exact .inr (.inr h2)
    · rcases hx with rfl | hx
      · omega
      · exact h3 x hx
theorem foldl_max_spec : ∀ (zs : List Int) (a : Int), a ≤ zs.foldl max a ∧ (zs.foldl max a = a ∨ zs.foldl max a ∈ zs) ∧ ∀ x ∈ zs, x ≤ zs.foldl max a
  | [], a => ⟨Int.le_refl _, .inl rfl, by simp⟩
  | z :: zs, a => by
    obtain ⟨h1, h2, h3⟩ := foldl_max_spec zs (max a z)
    simp only [List.foldl_cons, List.mem_cons]
    refine ⟨by omega, ?_, fun x hx => ?_⟩
    · rcases h2 with h2 | h2
      · rw [h2]
        by_cases h : z ≤ a
        · left; omega
        · right; left; omega
      · exact .inr (.inr h2)
    · rcases hx with rfl | hx
      · omega
      · exact h3 x hx
theorem minOf_spec (L : List Int) (h : L ≠ []) : Lib.minOf L ∈ L ∧ ∀ x ∈ L, Lib.minOf L ≤ x := by
  obtain ⟨z, zs, rfl⟩ := List.exists_cons_of_ne_nil h
  obtain ⟨h1, h2, h3⟩ := foldl_min_spec (z :: zs) z
  exact ⟨by rcases h2 with h2 | h2
            · show (z :: zs).foldl min z ∈ _
              rw [h2]; simp
            · exact h2, h3⟩
theorem maxOf_spec (L : List Int) (h : L ≠ []) : Lib.maxOf L ∈ L ∧ ∀ x ∈ L, x ≤ Lib.maxOf L := by
  obtain ⟨z, zs, rfl⟩ := List.exists_cons_of_ne_nil h
  obtain ⟨h1, h2, h3⟩ := foldl_max_spec (z :: zs) z
  exact ⟨by rcases h2 with h2 | h2
            · show (z :: zs).foldl max z ∈ _
              rw [h2]; simp
            · exact h2, h3⟩
theorem ableK_iff (N lo o f : Int) : ∀ (k : Nat) (x : Int), x ∈ ableK N lo o f k ↔ lo ≤ x ∧ x < lo + k ∧ 0 < waysI N x o f
  | 0, x => by simp [ableK]; intro h1 h2; omega
  | k + 1, x => by
    have ih := ableK_iff N lo o f k x
    rw [ableK]
    by_cases h : 0 < waysI N (lo + k) o f
    · rw [if_pos h, List.mem_append, ih, List.mem_singleton]
      constructor
      · rintro (⟨h1, h2, h3⟩ | rfl)
        · exact ⟨h1, by omega, h3⟩
        · exact ⟨by omega, by omega, h⟩
      · rintro ⟨h1, h2, h3⟩
        by_cases e : x = lo + k
        · exact .inr e
        · exact .inl ⟨h1, by omega, h3⟩
    · rw [if_neg h, ih]
      constructor
      · rintro ⟨h1, h2, h3⟩
        exact ⟨h1, by omega, h3⟩
      · rintro ⟨h1, h2, h3⟩
        by_cases e : x = lo + k
        · rw [e] at h3; exact absurd h3 h
        · exact ⟨h1, by omega, h3⟩
/-- A number can be. -/
theorem able_iff (N lo hi o f x : Int) (hc : 1 ≤ N ∧ N ≤ 36 ∧ 0 ≤ lo ∧ lo ≤ hi ∧ hi ≤ N) (hd : 0 ≤ o ∧ o ≤ N ∧ 0 ≤ f ∧ f ≤ o) : x ∈ ableL N lo hi o f ↔ lo ≤ x ∧ x ≤ hi ∧ f ≤ x ∧ o - f ≤ N - x := by
  rw [ableL, ableK_iff]
  constructor
  · rintro ⟨h1, h2, h3⟩
    have := (waysI_pos N x o f (by omega) (by omega) (by omega) (by omega)).1 h3
    omega
  · rintro ⟨h1, h2, h3⟩
    exact ⟨h1, by omega, (waysI_pos N x o f (by omega) (by omega) (by omega) (by omega)).2 h3⟩
/-- What Can tells where nothing is wrong. -/
theorem can_at (N lo hi o f : Int) (hc : 1 ≤ N ∧ N ≤ 36 ∧ 0 ≤ lo ∧ lo ≤ hi ∧ hi ≤ N) (hd : 0 ≤ o ∧ o ≤ N ∧ 0 ≤ f ∧ f ≤ o) :
    (max lo f ≤ min hi (N - (o - f)) ∧ ableL N lo hi o f ≠ [] ∧ canR N lo hi o f = .tuple #[i2 (max lo f) (min hi (N - (o - f))), .int .i64 0]) ∨ (min hi (N - (o - f)) < max lo f ∧ ableL N lo hi o f = [] ∧ canR N lo hi o f = .tuple #[i2 0 0, .int .i64 8]) := by
  have hcB := cargoB_ok hc
  have hdB := drawB_ok hd
  by_cases hL : ableL N lo hi o f = []
  · right
    refine ⟨?_, hL, ?_⟩
    · by_cases h : min hi (N - (o - f)) < max lo f
      · exact h
      · have := (able_iff N lo hi o f (max lo f) hc hd).2 (by omega)
        rw [hL] at this
        cases this
    · rw [canR, hcB, hdB, if_neg (by decide), if_neg (by decide), if_pos hL]
  · left
    obtain ⟨m1, m2⟩ := minOf_spec _ hL
    obtain ⟨x1, x2⟩ := maxOf_spec _ hL
    have a1 := (able_iff N lo hi o f _ hc hd).1 m1
    have a2 := (able_iff N lo hi o f _ hc hd).1 x1
    have a3 := m2 (max lo f) ((able_iff N lo hi o f _ hc hd).2 (by omega))
    have a4 := x2 (min hi (N - (o - f))) ((able_iff N lo hi o f _ hc hd).2 (by omega))
    refine ⟨by omega, hL, ?_⟩
    rw [canR, hcB, hdB, if_neg (by decide), if_neg (by decide), if_neg hL, show Lib.minOf (ableL N lo hi o f) = max lo f by omega, show Lib.maxOf (ableL N lo hi o f) = min hi (N - (o - f)) by omega]
/-- The last number that can be and is likely enough; -1. -/
def bestB (N lo o f n d : Int) : Nat → Int
  | 0 => -1
  | k + 1 => if 0 < waysI N (lo + k) o f ∧ boundB N o f n d (lo + k) = true then lo + k else bestB N lo o f n d k
theorem revI_snd (xs : List Int) : ∀ k : Nat, k ≤ xs.length → (revI xs k).map (·.2) = xs.reverse.take k
  | 0, _ => by simp [revI]
  | k + 1, h => by
    rw [revI, List.map_append, revI_snd xs k (by omega), List.take_succ_eq_append_getElem (by simp; omega)]
    simp [List.getElem_reverse, show xs.length - (k + 1) < xs.length by omega]
    congr 1; omega
theorem find_snd (p : Int → Bool) : ∀ l : List (Int × Int), (l.find? fun x => p x.2).map (·.2) = (l.map (·.2)).find? p
  | [] => rfl
  | x :: r => by
    simp only [List.find?_cons, List.map_cons]
    cases p x.2 <;> simp [find_snd p r]
theorem bestB_find (N lo o f n d : Int) (hlo : 0 ≤ lo) : ∀ k : Nat, ((ableK N lo o f k).reverse.find? (boundB N o f n d) = none ∧ bestB N lo o f n d k = -1) ∨ ((ableK N lo o f k).reverse.find? (boundB N o f n d) = some (bestB N lo o f n d k) ∧ 0 ≤ bestB N lo o f n d k)
  | 0 => .inl ⟨rfl, rfl⟩
  | k + 1 => by
    have ih := bestB_find N lo o f n d hlo k
    by_cases h : 0 < waysI N (lo + k) o f
    · have e1 : ableK N lo o f (k + 1) = ableK N lo o f k ++ [lo + k] := by rw [ableK, if_pos h]
      rw [e1, List.reverse_append, List.reverse_singleton, List.singleton_append, List.find?_cons]
      by_cases hb : boundB N o f n d (lo + k) = true
      · have e2 : bestB N lo o f n d (k + 1) = lo + k := by rw [bestB, if_pos ⟨h, hb⟩]
        rw [e2, hb]
        exact .inr ⟨rfl, by omega⟩
      · have e2 : bestB N lo o f n d (k + 1) = bestB N lo o f n d k := by rw [bestB, if_neg (fun h' => hb h'.2)]
        have hb' : boundB N o f n d (lo + k) = false := by simpa using hb
        rw [e2, hb']
        exact ih
    · have e1 : ableK N lo o f (k + 1) = ableK N lo o f k := by rw [ableK, if_neg h]
      have e2 : bestB N lo o f n d (k + 1) = bestB N lo o f n d k := by rw [bestB, if_neg (fun h' => h h'.1)]
      rw [e1, e2]
      exact ih
theorem boundP_best (N lo hi o f n d : Int) (hlo : 0 ≤ lo) : boundP N lo hi o f n d = if 0 ≤ bestB N lo o f n d (hi - lo + 1).toNat then (bestB N lo o f n d (hi - lo + 1).toNat, 0) else (0, 6) := by
  have h1 := revI_snd (ableL N lo hi o f) (ableL N lo hi o f).length (Nat.le_refl _)
  have h2 := find_snd (boundB N o f n d) (revI (ableL N lo hi o f) (ableL N lo hi o f).length)
  rw [h1, List.take_of_length_le (by simp)] at h2
  rw [boundP, boundL]
  rcases bestB_find N lo o f n d hlo (hi - lo + 1).toNat with ⟨h3, h4⟩ | ⟨h3, h4⟩
  · rw [show (ableL N lo hi o f).reverse.find? (boundB N o f n d) = none from h3, Option.map_eq_none_iff] at h2
    rw [h2, if_neg (by omega)]
  · rw [show (ableL N lo hi o f).reverse.find? (boundB N o f n d) = _ from h3] at h2
    obtain ⟨x, hx, hx2⟩ := Option.map_eq_some_iff.1 h2
    rw [hx, if_pos h4]
    simp only
    rw [hx2]
/-- What Bound tells where nothing is wrong. -/
theorem bound_at (N lo hi o f n d : Int) (hc : 1 ≤ N ∧ N ≤ 36 ∧ 0 ≤ lo ∧ lo ≤ hi ∧ hi ≤ N) (hd : 0 ≤ o ∧ o ≤ N ∧ 0 ≤ f ∧ f ≤ o) (hg : 1 ≤ d ∧ d ≤ 1000 ∧ 0 ≤ n ∧ n ≤ d) :
    boundAll N lo hi o f n d = if ableL N lo hi o f = [] then .tuple #[.int .i64 0, .int .i64 8] else if 0 ≤ bestB N lo o f n d (hi - lo + 1).toNat then .tuple #[.int .i64 (bestB N lo o f n d (hi - lo + 1).toNat), .int .i64 0] else .tuple #[.int .i64 0, .int .i64 6] := by
  have h2 : givenB n d = true := (givenB_iff n d).2 hg
  rw [boundAll, cargoB_ok hc, if_neg (by decide), if_neg (by simp [boundE, drawB_ok hd, h2, unlessV, firstE])]
  split
  · rfl
  · rw [boundP_best N lo hi o f n d hc.2.2.1]
    split <;> rfl
end Go.Proofs.YtdiclofeggkjcaaDoor

/- A number of the span, told ahead. -/
namespace Go.Proofs.YtdiclofeggkjcaaDoor
set_option linter.unusedSimpArgs false
set_option linter.unusedVariables false
open Go.RowKit

set_option maxRecDepth 100000 in
set_option maxHeartbeats 2000000 in
theorem some_v (N lo hi x D : Int) (w : World) (hlo : 0 ≤ lo ∧ lo ≤ hi ∧ hi ≤ 36) (hx : 0 ≤ x ∧ x ≤ 255) (hD : Hid (lo + x % (hi - lo + 1) = D)) :
    Calls Tryd.prog 26 #[.agg #[.int .i64 N, .int .i64 lo, .int .i64 hi], .int .u8 x] w fun e w' => e = .returned (.int .i64 D) ∧ Below w.heap.size w w' := by
  have hm0 : 0 ≤ x % (hi - lo + 1) := Int.emod_nonneg _ (by omega)
  have hm1 : x % (hi - lo + 1) < hi - lo + 1 := Int.emod_lt_of_pos _ (by omega)
  have hc : IntKind.i64.wrap x = x := IntWalk.i64_in _ (by omega)
  have hs : IntKind.i64.wrap (hi - lo) = hi - lo := IntWalk.i64_in _ (by omega)
  have hs2 : IntKind.i64.wrap (hi - lo + 1) = hi - lo + 1 := IntWalk.i64_in _ (by omega)
  have hne : (hi - lo + 1 != 0) = true := by simp; omega
  have ht : x.tmod (hi - lo + 1) = x % (hi - lo + 1) := Int.tmod_eq_emod_of_nonneg hx.1
  have hs3 : IntKind.i64.wrap (x % (hi - lo + 1)) = x % (hi - lo + 1) := IntWalk.i64_in _ (by omega)
  have hs4 : IntKind.i64.wrap (lo + x % (hi - lo + 1)) = lo + x % (hi - lo + 1) := IntWalk.i64_in _ (by omega)
  have hB0 : Below w.heap.size w (w.alloc (.cells #[.int .i64 N, .int .i64 lo, .int .i64 hi] 26)) := (Below.refl _ w).alloc (Nat.le_refl _) _
  have c0_0 : (w.alloc (.cells #[.int .i64 N, .int .i64 lo, .int .i64 hi] 26)).cell? ⟨w.heap.size, 0, none⟩ = some (.int .i64 N) := by simp [go_sem]
  have c0_1 : (w.alloc (.cells #[.int .i64 N, .int .i64 lo, .int .i64 hi] 26)).cell? ⟨w.heap.size, 1, none⟩ = some (.int .i64 lo) := by simp [go_sem]
  have c0_2 : (w.alloc (.cells #[.int .i64 N, .int .i64 lo, .int .i64 hi] 26)).cell? ⟨w.heap.size, 2, none⟩ = some (.int .i64 hi) := by simp [go_sem]
  go_enter Tryd.func26, Tryd.ntmps26
  go_wp2_with fail
  generalize (w.alloc (.cells #[.int .i64 N, .int .i64 lo, .int .i64 hi] 26)) = W0 at *
  go_quiet (fail)
  go_wp2_with fail
  go_ret
  exact ⟨by rw [← hD.out]; rfl, belDrewN hB0 _⟩
theorem some_bounds (lo hi x : Int) (hlo : lo ≤ hi) : ∃ D, Hid (lo + x % (hi - lo + 1) = D) ∧ lo ≤ D ∧ D ≤ hi := by
  have hm0 : 0 ≤ x % (hi - lo + 1) := Int.emod_nonneg _ (by omega)
  have hm1 : x % (hi - lo + 1) < hi - lo + 1 := Int.emod_lt_of_pos _ (by omega)
  exact ⟨_, rfl, by omega, by omega⟩
end Go.Proofs.YtdiclofeggkjcaaDoor

/- The law about more dirty bags, more opened bags, and bounds: its walk. -/
namespace Go.Proofs.YtdiclofeggkjcaaDoor
set_option linter.unusedSimpArgs false
set_option linter.unusedVariables false
open Go.RowKit Go.Proofs.YtdiclofeggkjcaaDoor.ML Go.Proofs.YtdiclofeggkjcaaDoor.Samp

/-- The sets with few dirty ones, of the number before. -/
def lastM (N lo o f : Int) : Nat → Int
  | 0 => -1
  | k + 1 => mostI N (lo + k) o f
theorem bestB_neg (N lo o f n d : Int) (hlo : 0 ≤ lo) (k : Nat) : (bestB N lo o f n d k = -1 ∧ True) ∨ (0 ≤ bestB N lo o f n d k ∧ True) := by
  rcases bestB_find N lo o f n d hlo k with ⟨_, h⟩ | ⟨_, h⟩
  · exact .inl ⟨h, trivial⟩
  · exact .inr ⟨h, trivial⟩
theorem lowest_le {a b c d p q r s : Int} (ha : 0 ≤ a ∧ a ≤ b) (hb : 0 < b) (hc : 0 ≤ c ∧ c ≤ d) (hd : 0 < d) (h1 : partV a.toNat b.toNat = i2 p q) (h2 : partV c.toNat d.toNat = i2 r s) (h : a * d ≤ c * b) : p * s ≤ r * q := by
  obtain ⟨x1, x2, x3, x4, x5, x6⟩ := over_spec a b p q ha.1 ha.2 hb h1
  obtain ⟨y1, y2, y3, y4, y5, y6⟩ := over_spec c d r s hc.1 hc.2 hd h2
  have e1 : b = q * (b / q) := by have := Int.mul_ediv_add_emod b q; omega
  have e2 : d = s * (d / s) := by have := Int.mul_ediv_add_emod d s; omega
  have g1 : 0 < b / q := Int.ediv_pos_of_pos_of_dvd hb (by omega) ⟨_, e1⟩
  have g2 : 0 < d / s := Int.ediv_pos_of_pos_of_dvd hd (by omega) ⟨_, e2⟩
  generalize b / q = g at *
  generalize d / s = k at *
  subst x6 y6 e1 e2
  have hp : 0 < g * k := Int.mul_pos g1 g2
  refine Int.le_of_mul_le_mul_left ?_ hp
  calc g * k * (p * s) = p * g * (s * k) := by ac_rfl
    _ ≤ r * k * (q * g) := h
    _ = g * k * (r * q) := by ac_rfl

set_option maxRecDepth 100000 in
set_option maxHeartbeats 8000000 in
theorem more_walk (N lo hi o f x n dn : Int) (w : World) (hT : TabD w) (hx : 0 ≤ x ∧ x ≤ 255) (hn : 0 ≤ n ∧ n ≤ 65535) (hdn : 0 ≤ dn ∧ dn ≤ 65535) :
    Calls Tryd.prog 4 #[.agg #[.int .i64 N, .int .i64 lo, .int .i64 hi], i2 o f, .int .u8 x, .int .u16 n, .int .u16 dn] w fun e w' => e = .returned (.bool true) ∧ Below w.heap.size w w' := by
  have hB0 : Below w.heap.size w ((w.alloc (.cells #[.int .i64 N, .int .i64 lo, .int .i64 hi] 26)).alloc (.cells #[.int .i64 o, .int .i64 f] 34)) := ((Below.refl _ w).alloc (Nat.le_refl _) _).alloc (by simp) _
  have c0_0 : ((w.alloc (.cells #[.int .i64 N, .int .i64 lo, .int .i64 hi] 26)).alloc (.cells #[.int .i64 o, .int .i64 f] 34)).cell? ⟨w.heap.size, 0, none⟩ = some (.int .i64 N) := by simp [go_sem]
  have c0_1 : ((w.alloc (.cells #[.int .i64 N, .int .i64 lo, .int .i64 hi] 26)).alloc (.cells #[.int .i64 o, .int .i64 f] 34)).cell? ⟨w.heap.size, 1, none⟩ = some (.int .i64 lo) := by simp [go_sem]
  have c0_2 : ((w.alloc (.cells #[.int .i64 N, .int .i64 lo, .int .i64 hi] 26)).alloc (.cells #[.int .i64 o, .int .i64 f] 34)).cell? ⟨w.heap.size, 2, none⟩ = some (.int .i64 hi) := by simp [go_sem]
  have c1_0 : ((w.alloc (.cells #[.int .i64 N, .int .i64 lo, .int .i64 hi] 26)).alloc (.cells #[.int .i64 o, .int .i64 f] 34)).cell? ⟨w.heap.size + 1, 0, none⟩ = some (.int .i64 o) := by simp [go_sem]
  have c1_1 : ((w.alloc (.cells #[.int .i64 N, .int .i64 lo, .int .i64 hi] 26)).alloc (.cells #[.int .i64 o, .int .i64 f] 34)).cell? ⟨w.heap.size + 1, 1, none⟩ = some (.int .i64 f) := by simp [go_sem]
  have t0 := keepsB hB0 hT.1
  have t1 := keepsB hB0 hT.2.1
  have t2 := keepsB hB0 hT.2.2
  clear hT
  go_enter Tryd.func4, Tryd.ntmps4
  go_wp2_with fail
  refine (alive_any _ (tabD_mk t0 t1 t2)).mono ?_
  rintro e w1 ⟨rfl, hB1⟩
  have hBz : Below w.heap.size w w1 := hB0.trans (hB1.mono (by simp; omega))
  have hzz : w.heap.size ≤ w1.heap.size := hBz.size
  have hzn : w.heap.size + 2 ≤ w1.heap.size := by have := hB1.size; simp at this; omega
  have kc0_0 := keepsB hB1 c0_0
  have kc0_1 := keepsB hB1 c0_1
  have kc0_2 := keepsB hB1 c0_2
  have kc1_0 := keepsB hB1 c1_0
  have kc1_1 := keepsB hB1 c1_1
  have kt0 := keepsB hB1 t0
  have kt1 := keepsB hB1 t1
  have kt2 := keepsB hB1 t2
  clear hB0 hB1 t0 t1 t2 c0_0 c0_1 c0_2 c1_0 c1_1
  generalize hbb : w.heap.size = bb at *
  have HBB := Lib.hid hbb
  clear hbb
  have HB_w1 := Lib.hid (show Below bb w w1 from hBz)
  have hz_w1 : bb ≤ w1.heap.size := hzz
  have FA : ∀ W, Free.Bel w1 W → W.cell? ⟨0, 0, none⟩ = some (dblF 130) ∧ W.cell? ⟨0, 1, none⟩ = some (dblF 131) ∧ W.cell? ⟨0, 2, none⟩ = some (dblF 132) ∧ W.cell? ⟨bb, 0, none⟩ = some (.int .i64 N) ∧ W.cell? ⟨bb, 1, none⟩ = some (.int .i64 lo) ∧ W.cell? ⟨bb, 2, none⟩ = some (.int .i64 hi) ∧ W.cell? ⟨bb + 1, 0, none⟩ = some (.int .i64 o) ∧ W.cell? ⟨bb + 1, 1, none⟩ = some (.int .i64 f) ∧ bb + 2 ≤ W.heap.size ∧ bb ≤ W.heap.size := fun W hW => ⟨keepsB hW kt0, keepsB hW kt1, keepsB hW kt2, keepsB hW kc0_0, keepsB hW kc0_1, keepsB hW kc0_2, keepsB hW kc1_0, keepsB hW kc1_1, Nat.le_trans hzn hW.size, Nat.le_trans hz_w1 hW.size⟩
  have KR : Free.Bel w1 w1 := Free.Bel.refl _
  clear hBz hzz kt0 kt1 kt2 kc0_0 kc0_1 kc0_2 kc1_0 kc1_1 hzn
  go_wp2_with fail
  cases hc0 : cargoB N lo hi
  · have HC0 := hc0
    refine (cargoR_any N lo hi false _ hc0).mono ?_
    rintro e w2 ⟨rfl, hB⟩
    have HB_w2 := Lib.hid (HB_w1.out.trans ((hB).mono hz_w1))
    have hz_w2 : bb ≤ w2.heap.size := Nat.le_trans hz_w1 (hB).size
    have FN : ∀ W, Free.Bel w2 W → W.cell? ⟨0, 0, none⟩ = some (dblF 130) ∧ W.cell? ⟨0, 1, none⟩ = some (dblF 131) ∧ W.cell? ⟨0, 2, none⟩ = some (dblF 132) ∧ W.cell? ⟨bb, 0, none⟩ = some (.int .i64 N) ∧ W.cell? ⟨bb, 1, none⟩ = some (.int .i64 lo) ∧ W.cell? ⟨bb, 2, none⟩ = some (.int .i64 hi) ∧ W.cell? ⟨bb + 1, 0, none⟩ = some (.int .i64 o) ∧ W.cell? ⟨bb + 1, 1, none⟩ = some (.int .i64 f) ∧ bb + 2 ≤ W.heap.size ∧ bb ≤ W.heap.size := fun W hW => by
      obtain ⟨a0, a1, a2, a3, a4, a5, a6, a7, a8, a9⟩ := FA W (Free.Bel.trans _ _ _ (hB) hW)
      exact ⟨a0, a1, a2, a3, a4, a5, a6, a7, a8, a9⟩
    clear FA HB_w1 hz_w1 KR
    have FA := FN
    clear FN
    have KR : Free.Bel w2 w2 := Free.Bel.refl _
    clear hB
    go_wp2_with fail
    go_ret
    have hbb := HBB.out
    subst hbb
    exact ⟨rfl, HB_w2.out⟩
  · have hc := (cargoB_iff N lo hi).1 hc0
    refine (cargoR_any N lo hi true _ hc0).mono ?_
    rintro e w3 ⟨rfl, hB⟩
    have HB_w3 := Lib.hid (HB_w1.out.trans ((hB).mono hz_w1))
    have hz_w3 : bb ≤ w3.heap.size := Nat.le_trans hz_w1 (hB).size
    have FN : ∀ W, Free.Bel w3 W → W.cell? ⟨0, 0, none⟩ = some (dblF 130) ∧ W.cell? ⟨0, 1, none⟩ = some (dblF 131) ∧ W.cell? ⟨0, 2, none⟩ = some (dblF 132) ∧ W.cell? ⟨bb, 0, none⟩ = some (.int .i64 N) ∧ W.cell? ⟨bb, 1, none⟩ = some (.int .i64 lo) ∧ W.cell? ⟨bb, 2, none⟩ = some (.int .i64 hi) ∧ W.cell? ⟨bb + 1, 0, none⟩ = some (.int .i64 o) ∧ W.cell? ⟨bb + 1, 1, none⟩ = some (.int .i64 f) ∧ bb + 2 ≤ W.heap.size ∧ bb ≤ W.heap.size := fun W hW => by
      obtain ⟨a0, a1, a2, a3, a4, a5, a6, a7, a8, a9⟩ := FA W (Free.Bel.trans _ _ _ (hB) hW)
      exact ⟨a0, a1, a2, a3, a4, a5, a6, a7, a8, a9⟩
    clear FA HB_w1 hz_w1 KR
    have FA := FN
    clear FN
    have KR : Free.Bel w3 w3 := Free.Bel.refl _
    clear hB
    have HC := Lib.hid hc0
    clear hc0
    go_wp2_with fail
    cases hd0 : drawB N o f
    · have HD0 := hd0
      refine (drawR_any N lo hi o f false _ hd0).mono ?_
      rintro e w4 ⟨rfl, hB⟩
      have HB_w4 := Lib.hid (HB_w3.out.trans ((hB).mono hz_w3))
      have hz_w4 : bb ≤ w4.heap.size := Nat.le_trans hz_w3 (hB).size
      have FN : ∀ W, Free.Bel w4 W → W.cell? ⟨0, 0, none⟩ = some (dblF 130) ∧ W.cell? ⟨0, 1, none⟩ = some (dblF 131) ∧ W.cell? ⟨0, 2, none⟩ = some (dblF 132) ∧ W.cell? ⟨bb, 0, none⟩ = some (.int .i64 N) ∧ W.cell? ⟨bb, 1, none⟩ = some (.int .i64 lo) ∧ W.cell? ⟨bb, 2, none⟩ = some (.int .i64 hi) ∧ W.cell? ⟨bb + 1, 0, none⟩ = some (.int .i64 o) ∧ W.cell? ⟨bb + 1, 1, none⟩ = some (.int .i64 f) ∧ bb + 2 ≤ W.heap.size ∧ bb ≤ W.heap.size := fun W hW => by
        obtain ⟨a0, a1, a2, a3, a4, a5, a6, a7, a8, a9⟩ := FA W (Free.Bel.trans _ _ _ (hB) hW)
        exact ⟨a0, a1, a2, a3, a4, a5, a6, a7, a8, a9⟩
      clear FA HB_w3 hz_w3 KR
      have FA := FN
      clear FN
      have KR : Free.Bel w4 w4 := Free.Bel.refl _
      clear hB
      go_wp2_with fail
      go_ret
      have hbb := HBB.out
      subst hbb
      exact ⟨rfl, HB_w4.out⟩
    · have hd := (drawB_iff N o f).1 hd0
      refine (drawR_any N lo hi o f true _ hd0).mono ?_
      rintro e w5 ⟨rfl, hB⟩
      have HB_w5 := Lib.hid (HB_w3.out.trans ((hB).mono hz_w3))
      have hz_w5 : bb ≤ w5.heap.size := Nat.le_trans hz_w3 (hB).size
      have FN : ∀ W, Free.Bel w5 W → W.cell? ⟨0, 0, none⟩ = some (dblF 130) ∧ W.cell? ⟨0, 1, none⟩ = some (dblF 131) ∧ W.cell? ⟨0, 2, none⟩ = some (dblF 132) ∧ W.cell? ⟨bb, 0, none⟩ = some (.int .i64 N) ∧ W.cell? ⟨bb, 1, none⟩ = some (.int .i64 lo) ∧ W.cell? ⟨bb, 2, none⟩ = some (.int .i64 hi) ∧ W.cell? ⟨bb + 1, 0, none⟩ = some (.int .i64 o) ∧ W.cell? ⟨bb + 1, 1, none⟩ = some (.int .i64 f) ∧ bb + 2 ≤ W.heap.size ∧ bb ≤ W.heap.size := fun W hW => by
        obtain ⟨a0, a1, a2, a3, a4, a5, a6, a7, a8, a9⟩ := FA W (Free.Bel.trans _ _ _ (hB) hW)
        exact ⟨a0, a1, a2, a3, a4, a5, a6, a7, a8, a9⟩
      clear FA HB_w3 hz_w3 KR
      have FA := FN
      clear FN
      have KR : Free.Bel w5 w5 := Free.Bel.refl _
      clear hB
      have HD := Lib.hid hd0
      clear hd0
      go_wp2_with fail
      refine (choose_any N o _ (by omega) (by omega) (by omega)).mono ?_
      rintro e _ ⟨rfl, rfl⟩
      have hcp := chI_pos N o (by omega) (by omega) (by omega) (by omega)
      obtain ⟨al, hal⟩ : ∃ al, chI N o = al := ⟨_, rfl⟩
      rw [hal] at hcp ⊢
      have HAL := Lib.hid hal
      clear hal
      have md00 : 0 ≤ dn % 1000 := Int.emod_nonneg _ (by omega)
      have md01 : dn % 1000 < 1000 := Int.emod_lt_of_pos _ (by omega)
      have cd0 : IntKind.i64.wrap dn = dn := IntWalk.i64_in _ (by omega)
      have dd0 : dn.tmod 1000 = dn % 1000 := Int.tmod_eq_emod_of_nonneg (by omega)
      obtain ⟨d0, hd0⟩ : ∃ v9, dn % 1000 = v9 := ⟨_, rfl⟩
      rw [hd0] at md00 md01 dd0
      clear hd0
      have ed0 : IntKind.i64.wrap d0 = d0 := IntWalk.i64_in _ (by omega)
      have v1 : IntKind.i64.wrap (1 + d0) = 1 + d0 := IntWalk.i64_in _ (by omega)
      obtain ⟨pd, hpd⟩ : ∃ v9, 1 + d0 = v9 := ⟨_, rfl⟩
      have hpb : 1 ≤ pd ∧ pd ≤ 1000 := by omega
      rw [hpd] at v1
      have v1 : IntKind.i64.wrap (1 + d0) = pd := by rw [hpd]; exact v1
      have v2 : IntKind.i64.wrap (pd + 1) = pd + 1 := IntWalk.i64_in _ (by omega)
      have v3 : (pd + 1 != 0) = true := by simp; omega
      have v3b : ¬ (pd + 1 = 0) := by omega
      have mpn0 : 0 ≤ n % (pd + 1) := Int.emod_nonneg _ (by omega)
      have mpn1 : n % (pd + 1) < (pd + 1) := Int.emod_lt_of_pos _ (by omega)
      have cpn : IntKind.i64.wrap n = n := IntWalk.i64_in _ (by omega)
      have dpn : n.tmod (pd + 1) = n % (pd + 1) := Int.tmod_eq_emod_of_nonneg (by omega)
      obtain ⟨pn, hpn⟩ : ∃ v9, n % (pd + 1) = v9 := ⟨_, rfl⟩
      rw [hpn] at mpn0 mpn1 dpn
      clear hpn
      have epn : IntKind.i64.wrap pn = pn := IntWalk.i64_in _ (by omega)
      go_wp2_with fail
      refine (partL_any 0 pd _).mono ?_
      rintro e w6 ⟨rfl, hB⟩
      have HB_w6 := Lib.hid (HB_w5.out.trans ((hB).mono hz_w5))
      have hz_w6 : bb ≤ w6.heap.size := Nat.le_trans hz_w5 (hB).size
      have FN : ∀ W, Free.Bel w6 W → W.cell? ⟨0, 0, none⟩ = some (dblF 130) ∧ W.cell? ⟨0, 1, none⟩ = some (dblF 131) ∧ W.cell? ⟨0, 2, none⟩ = some (dblF 132) ∧ W.cell? ⟨bb, 0, none⟩ = some (.int .i64 N) ∧ W.cell? ⟨bb, 1, none⟩ = some (.int .i64 lo) ∧ W.cell? ⟨bb, 2, none⟩ = some (.int .i64 hi) ∧ W.cell? ⟨bb + 1, 0, none⟩ = some (.int .i64 o) ∧ W.cell? ⟨bb + 1, 1, none⟩ = some (.int .i64 f) ∧ bb + 2 ≤ W.heap.size ∧ bb ≤ W.heap.size := fun W hW => by
        obtain ⟨a0, a1, a2, a3, a4, a5, a6, a7, a8, a9⟩ := FA W (Free.Bel.trans _ _ _ (hB) hW)
        exact ⟨a0, a1, a2, a3, a4, a5, a6, a7, a8, a9⟩
      clear FA HB_w5 hz_w5 KR
      have FA := FN
      clear FN
      have KR : Free.Bel w6 w6 := Free.Bel.refl _
      clear hB
      have KA0 : Free.Bel w6 (w6.alloc (.cells #[.int .i64 pn, .int .i64 pd] 29)) := Bel.allocT (Free.Bel.refl _) _
      go_wp2_with fail
      clear KA0
      have hN : Free.Bel w6 (w6.alloc (.cells #[.int .i64 pn, .int .i64 pd] 29)) := (Bel.allocT (Free.Bel.refl w6) _)
      have n_g60_0 : (w6.alloc (.cells #[.int .i64 pn, .int .i64 pd] 29)).cell? ⟨w6.heap.size, 0, none⟩ = some (.int .i64 pn) := by simp [go_sem]
      have n_g60_1 : (w6.alloc (.cells #[.int .i64 pn, .int .i64 pd] 29)).cell? ⟨w6.heap.size, 1, none⟩ = some (.int .i64 pd) := by simp [go_sem]
      generalize (w6.alloc (.cells #[.int .i64 pn, .int .i64 pd] 29)) = w7 at *
      obtain ⟨g60, hgz⟩ : ∃ x, x = w6.heap.size := ⟨_, rfl⟩
      rw [← hgz] at n_g60_0 n_g60_1 ⊢
      clear hgz
      have HB_w7 := Lib.hid (HB_w6.out.trans ((hN).mono hz_w6))
      have hz_w7 : bb ≤ w7.heap.size := Nat.le_trans hz_w6 (hN).size
      have FN : ∀ W, Free.Bel w7 W → W.cell? ⟨0, 0, none⟩ = some (dblF 130) ∧ W.cell? ⟨0, 1, none⟩ = some (dblF 131) ∧ W.cell? ⟨0, 2, none⟩ = some (dblF 132) ∧ W.cell? ⟨bb, 0, none⟩ = some (.int .i64 N) ∧ W.cell? ⟨bb, 1, none⟩ = some (.int .i64 lo) ∧ W.cell? ⟨bb, 2, none⟩ = some (.int .i64 hi) ∧ W.cell? ⟨bb + 1, 0, none⟩ = some (.int .i64 o) ∧ W.cell? ⟨bb + 1, 1, none⟩ = some (.int .i64 f) ∧ bb + 2 ≤ W.heap.size ∧ bb ≤ W.heap.size ∧ W.cell? ⟨g60, 0, none⟩ = some (.int .i64 pn) ∧ W.cell? ⟨g60, 1, none⟩ = some (.int .i64 pd) := fun W hW => by
        obtain ⟨a0, a1, a2, a3, a4, a5, a6, a7, a8, a9⟩ := FA W (Free.Bel.trans _ _ _ (hN) hW)
        exact ⟨a0, a1, a2, a3, a4, a5, a6, a7, a8, a9, keepsB hW n_g60_0, keepsB hW n_g60_1⟩
      clear FA HB_w6 hz_w6 KR
      have FA := FN
      clear FN
      have KR : Free.Bel w7 w7 := Free.Bel.refl _
      clear hN n_g60_0 n_g60_1
      have hbd := bound_at N lo hi o f pn pd hc hd (by omega)
      have hbn := bestB_neg N lo o f pn pd hc.2.2.1 (hi - lo + 1).toNat
      have hca := can_at N lo hi o f hc hd
      clear hpd
      rcases hca with ⟨hab, hne, hcn⟩ | ⟨hab, hne, hcn⟩
      · rw [if_neg hne] at hbd
        rcases hbn with ⟨hb1, _⟩ | ⟨hb1, hb2⟩
        · rw [if_neg (by omega)] at hbd
          have KC : Hid (∀ W, Calls Tryd.prog 23 #[.agg #[.int .i64 N, .int .i64 lo, .int .i64 hi], i2 o f] W fun e w' => e = .returned (.tuple #[i2 (max lo f) (min hi (N - (o - f))), .int .i64 0]) ∧ Below W.heap.size W w') := fun W => by
            have := can_any N lo hi o f W
            rw [hcn] at this
            exact this
          have KB : Hid (∀ W, Calls Tryd.prog 24 #[.agg #[.int .i64 N, .int .i64 lo, .int .i64 hi], i2 o f, i2 pn pd] W fun e w' => e = .returned (.tuple #[.int .i64 0, .int .i64 6]) ∧ Below W.heap.size W w') := fun W => by
            have := bound_any N lo hi o f pn pd W
            rw [hbd] at this
            exact this
          have HB1 := Lib.hid hb1
          clear hcn hbd hne hb1
          go_wp2_with fail
          refine (KC.out _).mono ?_
          rintro e w8 ⟨rfl, hB⟩
          have HB_w8 := Lib.hid (HB_w7.out.trans ((hB).mono hz_w7))
          have hz_w8 : bb ≤ w8.heap.size := Nat.le_trans hz_w7 (hB).size
          have FN : ∀ W, Free.Bel w8 W → W.cell? ⟨0, 0, none⟩ = some (dblF 130) ∧ W.cell? ⟨0, 1, none⟩ = some (dblF 131) ∧ W.cell? ⟨0, 2, none⟩ = some (dblF 132) ∧ W.cell? ⟨bb, 0, none⟩ = some (.int .i64 N) ∧ W.cell? ⟨bb, 1, none⟩ = some (.int .i64 lo) ∧ W.cell? ⟨bb, 2, none⟩ = some (.int .i64 hi) ∧ W.cell? ⟨bb + 1, 0, none⟩ = some (.int .i64 o) ∧ W.cell? ⟨bb + 1, 1, none⟩ = some (.int .i64 f) ∧ bb + 2 ≤ W.heap.size ∧ bb ≤ W.heap.size ∧ W.cell? ⟨g60, 0, none⟩ = some (.int .i64 pn) ∧ W.cell? ⟨g60, 1, none⟩ = some (.int .i64 pd) := fun W hW => by
            obtain ⟨a0, a1, a2, a3, a4, a5, a6, a7, a8, a9, a10, a11⟩ := FA W (Free.Bel.trans _ _ _ (hB) hW)
            exact ⟨a0, a1, a2, a3, a4, a5, a6, a7, a8, a9, a10, a11⟩
          clear FA HB_w7 hz_w7 KR
          have FA := FN
          clear FN
          have KR : Free.Bel w8 w8 := Free.Bel.refl _
          clear hB
          have KA0 : Free.Bel w8 (w8.alloc (.cells #[.int .i64 (max lo f), .int .i64 (min hi (N - (o - f)))] 24)) := Bel.allocT (Free.Bel.refl _) _
          go_wp2_with fail
          clear KA0
          have hN : Free.Bel w8 (w8.alloc (.cells #[.int .i64 (max lo f), .int .i64 (min hi (N - (o - f)))] 24)) := (Bel.allocT (Free.Bel.refl w8) _)
          have n_g80_0 : (w8.alloc (.cells #[.int .i64 (max lo f), .int .i64 (min hi (N - (o - f)))] 24)).cell? ⟨w8.heap.size, 0, none⟩ = some (.int .i64 (max lo f)) := by simp [go_sem]
          have n_g80_1 : (w8.alloc (.cells #[.int .i64 (max lo f), .int .i64 (min hi (N - (o - f)))] 24)).cell? ⟨w8.heap.size, 1, none⟩ = some (.int .i64 (min hi (N - (o - f)))) := by simp [go_sem]
          generalize (w8.alloc (.cells #[.int .i64 (max lo f), .int .i64 (min hi (N - (o - f)))] 24)) = w9 at *
          obtain ⟨g80, hgz⟩ : ∃ x, x = w8.heap.size := ⟨_, rfl⟩
          rw [← hgz] at n_g80_0 n_g80_1 ⊢
          clear hgz
          have HB_w9 := Lib.hid (HB_w8.out.trans ((hN).mono hz_w8))
          have hz_w9 : bb ≤ w9.heap.size := Nat.le_trans hz_w8 (hN).size
          have FN : ∀ W, Free.Bel w9 W → W.cell? ⟨0, 0, none⟩ = some (dblF 130) ∧ W.cell? ⟨0, 1, none⟩ = some (dblF 131) ∧ W.cell? ⟨0, 2, none⟩ = some (dblF 132) ∧ W.cell? ⟨bb, 0, none⟩ = some (.int .i64 N) ∧ W.cell? ⟨bb, 1, none⟩ = some (.int .i64 lo) ∧ W.cell? ⟨bb, 2, none⟩ = some (.int .i64 hi) ∧ W.cell? ⟨bb + 1, 0, none⟩ = some (.int .i64 o) ∧ W.cell? ⟨bb + 1, 1, none⟩ = some (.int .i64 f) ∧ bb + 2 ≤ W.heap.size ∧ bb ≤ W.heap.size ∧ W.cell? ⟨g60, 0, none⟩ = some (.int .i64 pn) ∧ W.cell? ⟨g60, 1, none⟩ = some (.int .i64 pd) ∧ W.cell? ⟨g80, 0, none⟩ = some (.int .i64 (max lo f)) ∧ W.cell? ⟨g80, 1, none⟩ = some (.int .i64 (min hi (N - (o - f)))) := fun W hW => by
            obtain ⟨a0, a1, a2, a3, a4, a5, a6, a7, a8, a9, a10, a11⟩ := FA W (Free.Bel.trans _ _ _ (hN) hW)
            exact ⟨a0, a1, a2, a3, a4, a5, a6, a7, a8, a9, a10, a11, keepsB hW n_g80_0, keepsB hW n_g80_1⟩
          clear FA HB_w8 hz_w8 KR
          have FA := FN
          clear FN
          have KR : Free.Bel w9 w9 := Free.Bel.refl _
          clear hN n_g80_0 n_g80_1
          refine (KB.out _).mono ?_
          rintro e w10 ⟨rfl, hB⟩
          have HB_w10 := Lib.hid (HB_w9.out.trans ((hB).mono hz_w9))
          have hz_w10 : bb ≤ w10.heap.size := Nat.le_trans hz_w9 (hB).size
          have FN : ∀ W, Free.Bel w10 W → W.cell? ⟨0, 0, none⟩ = some (dblF 130) ∧ W.cell? ⟨0, 1, none⟩ = some (dblF 131) ∧ W.cell? ⟨0, 2, none⟩ = some (dblF 132) ∧ W.cell? ⟨bb, 0, none⟩ = some (.int .i64 N) ∧ W.cell? ⟨bb, 1, none⟩ = some (.int .i64 lo) ∧ W.cell? ⟨bb, 2, none⟩ = some (.int .i64 hi) ∧ W.cell? ⟨bb + 1, 0, none⟩ = some (.int .i64 o) ∧ W.cell? ⟨bb + 1, 1, none⟩ = some (.int .i64 f) ∧ bb + 2 ≤ W.heap.size ∧ bb ≤ W.heap.size ∧ W.cell? ⟨g60, 0, none⟩ = some (.int .i64 pn) ∧ W.cell? ⟨g60, 1, none⟩ = some (.int .i64 pd) ∧ W.cell? ⟨g80, 0, none⟩ = some (.int .i64 (max lo f)) ∧ W.cell? ⟨g80, 1, none⟩ = some (.int .i64 (min hi (N - (o - f)))) := fun W hW => by
            obtain ⟨a0, a1, a2, a3, a4, a5, a6, a7, a8, a9, a10, a11, a12, a13⟩ := FA W (Free.Bel.trans _ _ _ (hB) hW)
            exact ⟨a0, a1, a2, a3, a4, a5, a6, a7, a8, a9, a10, a11, a12, a13⟩
          clear FA HB_w9 hz_w9 KR
          have FA := FN
          clear FN
          have KR : Free.Bel w10 w10 := Free.Bel.refl _
          clear hB
          go_wp2_with fail
          go_loopw [20, 13, 19] (fun i s b wr => ∃ j : Nat, j ≤ (hi - lo + 1).toNat ∧ i = .int .i64 (lo + j) ∧ s = .int .i64 (lastM N lo o f j) ∧ b = .int .i64 (bestB N lo o f pn pd j) ∧ Free.Bel w10 wr) (fun i _ _ _ => (hi - lo + 1).toNat - (intOf i - lo).toNat)
          case atStart => exact ⟨0, by omega, by simp, rfl, rfl, Free.Bel.refl _⟩
          case round =>
            obtain ⟨j, hj, rfl, rfl, rfl, HKr⟩ := hrel
            have HB_wr := Lib.hid (HB_w10.out.trans ((HKr).mono hz_w10))
            have hz_wr : bb ≤ wr.heap.size := Nat.le_trans hz_w10 (HKr).size
            have FN : ∀ W, Free.Bel wr W → W.cell? ⟨0, 0, none⟩ = some (dblF 130) ∧ W.cell? ⟨0, 1, none⟩ = some (dblF 131) ∧ W.cell? ⟨0, 2, none⟩ = some (dblF 132) ∧ W.cell? ⟨bb, 0, none⟩ = some (.int .i64 N) ∧ W.cell? ⟨bb, 1, none⟩ = some (.int .i64 lo) ∧ W.cell? ⟨bb, 2, none⟩ = some (.int .i64 hi) ∧ W.cell? ⟨bb + 1, 0, none⟩ = some (.int .i64 o) ∧ W.cell? ⟨bb + 1, 1, none⟩ = some (.int .i64 f) ∧ bb + 2 ≤ W.heap.size ∧ bb ≤ W.heap.size ∧ W.cell? ⟨g60, 0, none⟩ = some (.int .i64 pn) ∧ W.cell? ⟨g60, 1, none⟩ = some (.int .i64 pd) ∧ W.cell? ⟨g80, 0, none⟩ = some (.int .i64 (max lo f)) ∧ W.cell? ⟨g80, 1, none⟩ = some (.int .i64 (min hi (N - (o - f)))) := fun W hW => by
              obtain ⟨a0, a1, a2, a3, a4, a5, a6, a7, a8, a9, a10, a11, a12, a13⟩ := FA W (Free.Bel.trans _ _ _ (HKr) hW)
              exact ⟨a0, a1, a2, a3, a4, a5, a6, a7, a8, a9, a10, a11, a12, a13⟩
            clear FA HB_w10 hz_w10 KR
            have FA := FN
            clear FN
            have KR : Free.Bel wr wr := Free.Bel.refl _
            have HWR : Free.Bel wr wr := Free.Bel.refl _
            have HL_wr : Free.Bel w10 wr := HKr
            clear HKr
            by_cases hlt : j < (hi - lo + 1).toNat
            · have hjm : lo + (j : Int) ≤ hi := by omega
              obtain ⟨z, hz⟩ : ∃ z, lo + (j : Int) = z := ⟨_, rfl⟩
              have hzb : lo ≤ z ∧ z ≤ hi := by omega
              have hls : lastM N lo o f (j + 1) = mostI N z o f := by rw [lastM, hz]
              have hbs : bestB N lo o f pn pd (j + 1) = if 0 < waysI N z o f ∧ boundB N o f pn pd z = true then z else bestB N lo o f pn pd j := by rw [bestB, hz]
              have hwp := waysI_pos N z o f (by omega) (by omega) (by omega) (by omega)
              have hbB : boundB N o f pn pd z = decide (pn * al ≤ mostI N z o f * pd) := by rw [boundB, HAL.out]
              have hml := mostI_le N z o f (by omega) (by omega) (by omega) (by omega)
              rw [HAL.out] at hml
              have hl : lastM N lo o f j = -1 ∨ (0 ≤ lastM N lo o f j ∧ mostI N z o f ≤ lastM N lo o f j) := by
                rcases j with _ | j
                · exact .inl rfl
                · right
                  have h1 := most_lessI N (lo + j) o f (by omega) (by omega) (by omega) (by omega)
                  have h2 := mostI_le N (lo + j) o f (by omega) (by omega) (by omega) (by omega)
                  rw [show lo + (j : Int) + 1 = z by omega] at h1
                  exact ⟨h2.1, h1⟩
              obtain ⟨p, q, hpq⟩ : ∃ p q, mostV N z o f = i2 p q := ⟨_, _, rfl⟩
              have HP := Lib.hid hpq
              have HO := Lib.hid (show partV (mostI N z o f).toNat al.toNat = .agg #[.int .i64 p, .int .i64 q] by rw [← HAL.out]; exact hpq)
              obtain ⟨m, hm⟩ : ∃ x, mostI N z o f = x := ⟨_, rfl⟩
              obtain ⟨ls, hls2⟩ : ∃ x, lastM N lo o f j = x := ⟨_, rfl⟩
              obtain ⟨bs, hbs2⟩ : ∃ x, bestB N lo o f pn pd j = x := ⟨_, rfl⟩
              rw [hm] at hls hbB hml hl HO
              rw [hls2] at hl ⊢
              rw [hbs2] at hbs
              rw [hbB] at hbs
              rw [hbs2]
              rw [hz]
              have HLS := Lib.hid hls
              have HBS := Lib.hid hbs
              have HW := Lib.hid hwp
              have hz2 : IntKind.i64.wrap (z + 1) = lo + ((j + 1 : Nat) : Int) := by rw [IntWalk.i64_in _ (by omega)]; omega
              have HZ := Lib.hid hz
              have q1 : 0 ≤ m * pd := Int.mul_nonneg (by omega) (by omega)
              have q2 : m * pd ≤ 68719476736 * 1000 := Int.mul_le_mul (by omega) (by omega) (by omega) (by omega)
              have q3 : 0 ≤ al * pn := Int.mul_nonneg (by omega) (by omega)
              have q4 : al * pn ≤ 68719476736 * 1000 := Int.mul_le_mul (by omega) (by omega) (by omega) (by omega)
              have u2 : IntKind.i64.wrap (m * pd) = m * pd := IntWalk.i64_in _ (by omega)
              have u3 : IntKind.i64.wrap (al * pn) = al * pn := IntWalk.i64_in _ (by omega)
              clear hm hls2 hbs2 hls hbs hwp hbB hpq hz
              go_wp2_with fail
              refine (atmost_ok N lo hi z o f p q _ hc hd hzb HP).mono ?_
              rintro e w11 ⟨rfl, hB⟩
              have HB_w11 := Lib.hid (HB_wr.out.trans ((hB).mono hz_wr))
              have hz_w11 : bb ≤ w11.heap.size := Nat.le_trans hz_wr (hB).size
              have HL_w11 : Free.Bel w10 w11 := Free.Bel.trans _ _ _ HL_wr (hB)
              clear HL_wr
              have HWR : Free.Bel wr w11 := Free.Bel.trans _ _ _ HWR (hB)
              have FN : ∀ W, Free.Bel w11 W → W.cell? ⟨0, 0, none⟩ = some (dblF 130) ∧ W.cell? ⟨0, 1, none⟩ = some (dblF 131) ∧ W.cell? ⟨0, 2, none⟩ = some (dblF 132) ∧ W.cell? ⟨bb, 0, none⟩ = some (.int .i64 N) ∧ W.cell? ⟨bb, 1, none⟩ = some (.int .i64 lo) ∧ W.cell? ⟨bb, 2, none⟩ = some (.int .i64 hi) ∧ W.cell? ⟨bb + 1, 0, none⟩ = some (.int .i64 o) ∧ W.cell? ⟨bb + 1, 1, none⟩ = some (.int .i64 f) ∧ bb + 2 ≤ W.heap.size ∧ bb ≤ W.heap.size ∧ W.cell? ⟨g60, 0, none⟩ = some (.int .i64 pn) ∧ W.cell? ⟨g60, 1, none⟩ = some (.int .i64 pd) ∧ W.cell? ⟨g80, 0, none⟩ = some (.int .i64 (max lo f)) ∧ W.cell? ⟨g80, 1, none⟩ = some (.int .i64 (min hi (N - (o - f)))) := fun W hW => by
                obtain ⟨a0, a1, a2, a3, a4, a5, a6, a7, a8, a9, a10, a11, a12, a13⟩ := FA W (Free.Bel.trans _ _ _ (hB) hW)
                exact ⟨a0, a1, a2, a3, a4, a5, a6, a7, a8, a9, a10, a11, a12, a13⟩
              clear FA HB_wr hz_wr KR
              have FA := FN
              clear FN
              have KR : Free.Bel w11 w11 := Free.Bel.refl _
              clear hB
              have KA0 : Free.Bel w11 (w11.alloc (.cells #[.int .i64 p, .int .i64 q] 29)) := Bel.allocT (Free.Bel.refl _) _
              go_wp2_with fail
              clear KA0
              have hN : Free.Bel w11 (w11.alloc (.cells #[.int .i64 p, .int .i64 q] 29)) := (Bel.allocT (Free.Bel.refl w11) _)
              have n_g110_0 : (w11.alloc (.cells #[.int .i64 p, .int .i64 q] 29)).cell? ⟨w11.heap.size, 0, none⟩ = some (.int .i64 p) := by simp [go_sem]
              have n_g110_1 : (w11.alloc (.cells #[.int .i64 p, .int .i64 q] 29)).cell? ⟨w11.heap.size, 1, none⟩ = some (.int .i64 q) := by simp [go_sem]
              generalize (w11.alloc (.cells #[.int .i64 p, .int .i64 q] 29)) = w12 at *
              obtain ⟨g110, hgz⟩ : ∃ x, x = w11.heap.size := ⟨_, rfl⟩
              rw [← hgz] at n_g110_0 n_g110_1 ⊢
              clear hgz
              have HB_w12 := Lib.hid (HB_w11.out.trans ((hN).mono hz_w11))
              have hz_w12 : bb ≤ w12.heap.size := Nat.le_trans hz_w11 (hN).size
              have HL_w12 : Free.Bel w10 w12 := Free.Bel.trans _ _ _ HL_w11 (hN)
              clear HL_w11
              have HWR : Free.Bel wr w12 := Free.Bel.trans _ _ _ HWR (hN)
              have FN : ∀ W, Free.Bel w12 W → W.cell? ⟨0, 0, none⟩ = some (dblF 130) ∧ W.cell? ⟨0, 1, none⟩ = some (dblF 131) ∧ W.cell? ⟨0, 2, none⟩ = some (dblF 132) ∧ W.cell? ⟨bb, 0, none⟩ = some (.int .i64 N) ∧ W.cell? ⟨bb, 1, none⟩ = some (.int .i64 lo) ∧ W.cell? ⟨bb, 2, none⟩ = some (.int .i64 hi) ∧ W.cell? ⟨bb + 1, 0, none⟩ = some (.int .i64 o) ∧ W.cell? ⟨bb + 1, 1, none⟩ = some (.int .i64 f) ∧ bb + 2 ≤ W.heap.size ∧ bb ≤ W.heap.size ∧ W.cell? ⟨g60, 0, none⟩ = some (.int .i64 pn) ∧ W.cell? ⟨g60, 1, none⟩ = some (.int .i64 pd) ∧ W.cell? ⟨g80, 0, none⟩ = some (.int .i64 (max lo f)) ∧ W.cell? ⟨g80, 1, none⟩ = some (.int .i64 (min hi (N - (o - f)))) ∧ W.cell? ⟨g110, 0, none⟩ = some (.int .i64 p) ∧ W.cell? ⟨g110, 1, none⟩ = some (.int .i64 q) := fun W hW => by
                obtain ⟨a0, a1, a2, a3, a4, a5, a6, a7, a8, a9, a10, a11, a12, a13⟩ := FA W (Free.Bel.trans _ _ _ (hN) hW)
                exact ⟨a0, a1, a2, a3, a4, a5, a6, a7, a8, a9, a10, a11, a12, a13, keepsB hW n_g110_0, keepsB hW n_g110_1⟩
              clear FA HB_w11 hz_w11 KR
              have FA := FN
              clear FN
              have KR : Free.Bel w12 w12 := Free.Bel.refl _
              clear hN n_g110_0 n_g110_1
              refine (over_any m al p q _ (by omega) (by omega) (by omega) (by omega) HO).mono ?_
              rintro e w13 ⟨rfl, hB⟩
              have HB_w13 := Lib.hid (HB_w12.out.trans ((hB).mono hz_w12))
              have hz_w13 : bb ≤ w13.heap.size := Nat.le_trans hz_w12 (hB).size
              have HL_w13 : Free.Bel w10 w13 := Free.Bel.trans _ _ _ HL_w12 (hB)
              clear HL_w12
              have HWR : Free.Bel wr w13 := Free.Bel.trans _ _ _ HWR (hB)
              have FN : ∀ W, Free.Bel w13 W → W.cell? ⟨0, 0, none⟩ = some (dblF 130) ∧ W.cell? ⟨0, 1, none⟩ = some (dblF 131) ∧ W.cell? ⟨0, 2, none⟩ = some (dblF 132) ∧ W.cell? ⟨bb, 0, none⟩ = some (.int .i64 N) ∧ W.cell? ⟨bb, 1, none⟩ = some (.int .i64 lo) ∧ W.cell? ⟨bb, 2, none⟩ = some (.int .i64 hi) ∧ W.cell? ⟨bb + 1, 0, none⟩ = some (.int .i64 o) ∧ W.cell? ⟨bb + 1, 1, none⟩ = some (.int .i64 f) ∧ bb + 2 ≤ W.heap.size ∧ bb ≤ W.heap.size ∧ W.cell? ⟨g60, 0, none⟩ = some (.int .i64 pn) ∧ W.cell? ⟨g60, 1, none⟩ = some (.int .i64 pd) ∧ W.cell? ⟨g80, 0, none⟩ = some (.int .i64 (max lo f)) ∧ W.cell? ⟨g80, 1, none⟩ = some (.int .i64 (min hi (N - (o - f)))) ∧ W.cell? ⟨g110, 0, none⟩ = some (.int .i64 p) ∧ W.cell? ⟨g110, 1, none⟩ = some (.int .i64 q) := fun W hW => by
                obtain ⟨a0, a1, a2, a3, a4, a5, a6, a7, a8, a9, a10, a11, a12, a13, a14, a15⟩ := FA W (Free.Bel.trans _ _ _ (hB) hW)
                exact ⟨a0, a1, a2, a3, a4, a5, a6, a7, a8, a9, a10, a11, a12, a13, a14, a15⟩
              clear FA HB_w12 hz_w12 KR
              have FA := FN
              clear FN
              have KR : Free.Bel w13 w13 := Free.Bel.refl _
              clear hB
              rcases hl with rfl | ⟨hl1, hl2⟩
              · have k0 : decide ((0 : Int) ≤ -1) = false := rfl
                by_cases g1 : max lo f ≤ z
                · have k1 : decide (max lo f ≤ z) = true := decide_eq_true g1
                  by_cases g2 : z ≤ min hi (N - (o - f))
                  · have k2 : decide (z ≤ min hi (N - (o - f))) = true := decide_eq_true g2
                    have hw : 0 < waysI N z o f := HW.out.2 (by omega)
                    by_cases g3 : al * pn ≤ m * pd
                    · have k3 : decide (al * pn ≤ m * pd) = true := decide_eq_true g3
                      go_wp2_with fail
                      go_roundw
                      case rel => exact ⟨j + 1, by omega, by simp, by rw [HLS.out], by rw [HBS.out, if_pos ⟨hw, by rw [Int.mul_comm pn al]; exact decide_eq_true g3⟩], HL_w13⟩
                      case measure => have := HZ.out; simp [intOf]; omega
                    · have k3 : decide (al * pn ≤ m * pd) = false := decide_eq_false g3
                      go_wp2_with fail
                      go_roundw
                      case rel => exact ⟨j + 1, by omega, by simp, by rw [HLS.out], by rw [HBS.out, if_neg (fun h => by have h2 := of_decide_eq_true h.2; rw [Int.mul_comm pn al] at h2; omega)], HL_w13⟩
                      case measure => have := HZ.out; simp [intOf]; omega
                  · have k2 : decide (z ≤ min hi (N - (o - f))) = false := decide_eq_false g2
                    go_wp2_with fail
                    go_roundw
                    case rel => exact ⟨j + 1, by omega, by simp, by rw [HLS.out], by rw [HBS.out, if_neg (fun h => by have := HW.out.1 h.1; omega)], HL_w13⟩
                    case measure => have := HZ.out; simp [intOf]; omega
                · have k1 : decide (max lo f ≤ z) = false := decide_eq_false g1
                  go_wp2_with fail
                  go_roundw
                  case rel => exact ⟨j + 1, by omega, by simp, by rw [HLS.out], by rw [HBS.out, if_neg (fun h => by have := HW.out.1 h.1; omega)], HL_w13⟩
                  case measure => have := HZ.out; simp [intOf]; omega
              · have k0 : decide (0 ≤ ls) = true := decide_eq_true hl1
                have k9 : decide (ls < m) = false := decide_eq_false (by omega)
                by_cases g1 : max lo f ≤ z
                · have k1 : decide (max lo f ≤ z) = true := decide_eq_true g1
                  by_cases g2 : z ≤ min hi (N - (o - f))
                  · have k2 : decide (z ≤ min hi (N - (o - f))) = true := decide_eq_true g2
                    have hw : 0 < waysI N z o f := HW.out.2 (by omega)
                    by_cases g3 : al * pn ≤ m * pd
                    · have k3 : decide (al * pn ≤ m * pd) = true := decide_eq_true g3
                      go_wp2_with fail
                      go_roundw
                      case rel => exact ⟨j + 1, by omega, by simp, by rw [HLS.out], by rw [HBS.out, if_pos ⟨hw, by rw [Int.mul_comm pn al]; exact decide_eq_true g3⟩], HL_w13⟩
                      case measure => have := HZ.out; simp [intOf]; omega
                    · have k3 : decide (al * pn ≤ m * pd) = false := decide_eq_false g3
                      go_wp2_with fail
                      go_roundw
                      case rel => exact ⟨j + 1, by omega, by simp, by rw [HLS.out], by rw [HBS.out, if_neg (fun h => by have h2 := of_decide_eq_true h.2; rw [Int.mul_comm pn al] at h2; omega)], HL_w13⟩
                      case measure => have := HZ.out; simp [intOf]; omega
                  · have k2 : decide (z ≤ min hi (N - (o - f))) = false := decide_eq_false g2
                    go_wp2_with fail
                    go_roundw
                    case rel => exact ⟨j + 1, by omega, by simp, by rw [HLS.out], by rw [HBS.out, if_neg (fun h => by have := HW.out.1 h.1; omega)], HL_w13⟩
                    case measure => have := HZ.out; simp [intOf]; omega
                · have k1 : decide (max lo f ≤ z) = false := decide_eq_false g1
                  go_wp2_with fail
                  go_roundw
                  case rel => exact ⟨j + 1, by omega, by simp, by rw [HLS.out], by rw [HBS.out, if_neg (fun h => by have := HW.out.1 h.1; omega)], HL_w13⟩
                  case measure => have := HZ.out; simp [intOf]; omega
            · obtain rfl : j = (hi - lo + 1).toNat := by omega
              have hjm : ¬ (lo + (((hi - lo + 1).toNat : Nat) : Int) ≤ hi) := by omega
              have k0 : decide (lo + (((hi - lo + 1).toNat : Nat) : Int) ≤ hi) = false := decide_eq_false hjm
              rw [HB1.out]
              by_cases hoN : o = N
              · have k0 : (o == N) = true := by simp [hoN]
                go_wp2_with fail
                go_ret
                have hbb := HBB.out
                subst hbb
                exact ⟨rfl, HB_wr.out⟩
              · have k0 : (o == N) = false := by simp [hoN]
                obtain ⟨D, HD2, hD⟩ := some_bounds lo hi x (by omega)
                have y1 : IntKind.i64.wrap (o + 1) = o + 1 := IntWalk.i64_in _ (by omega)
                obtain ⟨p, q, hpq⟩ : ∃ p q, mostV N D o 0 = i2 p q := ⟨_, _, rfl⟩
                obtain ⟨r, s, hrs⟩ : ∃ p q, mostV N D (o + 1) 0 = i2 p q := ⟨_, _, rfl⟩
                have ml := mostI_le N D o 0 (by omega) (by omega) (by omega) (by omega)
                have ml2 := mostI_le N D (o + 1) 0 (by omega) (by omega) (by omega) (by omega)
                have cp2 := chI_pos N (o + 1) (by omega) (by omega) (by omega) (by omega)
                have nl := none_lessI N D o (by omega) (by omega) (by omega)
                rw [HAL.out] at ml nl
                have hcp1 : 0 < al := by omega
                have hlow := lowest_le ml2 (by omega) ml hcp1 hrs (show partV (mostI N D o 0).toNat al.toNat = i2 p q by rw [← HAL.out]; exact hpq) nl
                have o1 := over_spec _ _ p q ml.1 ml.2 hcp1 (show partV (mostI N D o 0).toNat al.toNat = i2 p q by rw [← HAL.out]; exact hpq)
                have o2 := over_spec _ _ r s ml2.1 ml2.2 (by omega) hrs
                have HP := Lib.hid hpq
                have HP2 := Lib.hid hrs
                have HO := Lib.hid (show partV (mostI N D o 0).toNat al.toNat = .agg #[.int .i64 p, .int .i64 q] by rw [← HAL.out]; exact hpq)
                have HO2 := Lib.hid (show partV (mostI N D (o + 1) 0).toNat (chI N (o + 1)).toNat = .agg #[.int .i64 r, .int .i64 s] from hrs)
                obtain ⟨a2, ha2⟩ : ∃ x, chI N (o + 1) = x := ⟨_, rfl⟩
                obtain ⟨m1, hm1⟩ : ∃ x, mostI N D o 0 = x := ⟨_, rfl⟩
                obtain ⟨m2, hm2⟩ : ∃ x, mostI N D (o + 1) 0 = x := ⟨_, rfl⟩
                have HA2 := Lib.hid ha2
                rw [ha2, hm2] at ml2 HO2 o2
                rw [ha2] at cp2
                rw [hm1] at ml HO o1
                have HLW := Lib.hid (decide_eq_true hlow)
                clear hpq hrs nl hlow ha2 hm1 hm2
                go_wp2_with fail
                refine (some_v N lo hi x D _ ⟨hc.2.2.1, hc.2.2.2.1, Int.le_trans hc.2.2.2.2 hc.2.1⟩ hx HD2).mono ?_
                rintro e w14 ⟨rfl, hB⟩
                have HB_w14 := Lib.hid (HB_wr.out.trans ((hB).mono hz_wr))
                have hz_w14 : bb ≤ w14.heap.size := Nat.le_trans hz_wr (hB).size
                have HL_w14 : Free.Bel w10 w14 := Free.Bel.trans _ _ _ HL_wr (hB)
                clear HL_wr
                have HWR : Free.Bel wr w14 := Free.Bel.trans _ _ _ HWR (hB)
                have FN : ∀ W, Free.Bel w14 W → W.cell? ⟨0, 0, none⟩ = some (dblF 130) ∧ W.cell? ⟨0, 1, none⟩ = some (dblF 131) ∧ W.cell? ⟨0, 2, none⟩ = some (dblF 132) ∧ W.cell? ⟨bb, 0, none⟩ = some (.int .i64 N) ∧ W.cell? ⟨bb, 1, none⟩ = some (.int .i64 lo) ∧ W.cell? ⟨bb, 2, none⟩ = some (.int .i64 hi) ∧ W.cell? ⟨bb + 1, 0, none⟩ = some (.int .i64 o) ∧ W.cell? ⟨bb + 1, 1, none⟩ = some (.int .i64 f) ∧ bb + 2 ≤ W.heap.size ∧ bb ≤ W.heap.size ∧ W.cell? ⟨g60, 0, none⟩ = some (.int .i64 pn) ∧ W.cell? ⟨g60, 1, none⟩ = some (.int .i64 pd) ∧ W.cell? ⟨g80, 0, none⟩ = some (.int .i64 (max lo f)) ∧ W.cell? ⟨g80, 1, none⟩ = some (.int .i64 (min hi (N - (o - f)))) := fun W hW => by
                  obtain ⟨a0, a1, a2, a3, a4, a5, a6, a7, a8, a9, a10, a11, a12, a13⟩ := FA W (Free.Bel.trans _ _ _ (hB) hW)
                  exact ⟨a0, a1, a2, a3, a4, a5, a6, a7, a8, a9, a10, a11, a12, a13⟩
                clear FA HB_wr hz_wr KR
                have FA := FN
                clear FN
                have KR : Free.Bel w14 w14 := Free.Bel.refl _
                clear hB
                go_wp2_with fail
                have hF : ∀ W, Below w14.heap.size w14.drew W → Free.Bel w14 W := fun W hW => (show Below w14.heap.size w14 W from ((Below.refl _ w14).drew).trans hW)
                refine Free2.wp_free (R := Below w14.heap.size) (J := LL w14.heap.size [⟨9, 10, (.cells #[.int .i64 0, .int .i64 0] 29), (.cells #[.int .i64 p, .int .i64 q] 29)⟩]) (by kernel_rfl) (by kernel_rfl) (Below.refl _) (fun _ _ _ => Below.trans) (LL.start (Nat.le_refl _)) ?_
                refine Free2.Chain.ex ?_ 0 rfl [] [5] (by kernel_rfl) (by kernel_rfl) rfl (Below.refl _) (fun X W v h => LL.skip h 0 v (by simp)) ?_ ?_
                rotate_left
                · (intro ev W hb hR hO hD; have hS := hF W hR; obtain ⟨hb1, hb2, hb3⟩ := hb; simp only [Free.AllDeps, Free.AllOuts, Free.At, List.getElem?_cons_succ, List.getElem?_cons_zero, Array.getD_eq_getD_getElem?, List.getElem?_toArray, Option.getD_some, and_true] at hO hD; go_simp; rfl)
                simp only [List.nil_append, List.cons_append]
                refine Free2.Chain.ex ?_ 1 rfl [] [25] (by kernel_rfl) (by kernel_rfl) rfl (Below.refl _) (fun X W v h => LL.skip h 1 v (by simp)) ?_ ?_
                rotate_left
                · (intro ev W hb hR hO hD; have hS := hF W hR; obtain ⟨hb1, hb2, hb3⟩ := hb; simp only [Free.AllDeps, Free.AllOuts, Free.At, List.getElem?_cons_succ, List.getElem?_cons_zero, Array.getD_eq_getD_getElem?, List.getElem?_toArray, Option.getD_some, and_true] at hO hD; go_simp; rfl)
                simp only [List.nil_append, List.cons_append]
                refine Free2.Chain.ex ?_ 2 rfl [] [6] (by kernel_rfl) (by kernel_rfl) rfl (Below.refl _) (fun X W v h => LL.skip h 2 v (by simp)) ?_ ?_
                rotate_left
                · (intro ev W hb hR hO hD; have hS := hF W hR; obtain ⟨hb1, hb2, hb3⟩ := hb; simp only [Free.AllDeps, Free.AllOuts, Free.At, List.getElem?_cons_succ, List.getElem?_cons_zero, Array.getD_eq_getD_getElem?, List.getElem?_toArray, Option.getD_some, and_true] at hO hD; go_simp; rfl)
                simp only [List.nil_append, List.cons_append]
                refine Free2.Chain.ex ?_ 3 rfl [(2, 196)] [] (by kernel_rfl) (by kernel_rfl) rfl (Below.refl _) (fun X W v h => LL.skip h 3 v (by simp)) ?_ ?_
                rotate_left
                · (intro ev W hb hR hO hD; have hS := hF W hR; obtain ⟨hb1, hb2, hb3⟩ := hb; simp only [Free.AllDeps, Free.AllOuts, Free.At, List.getElem?_cons_succ, List.getElem?_cons_zero, Array.getD_eq_getD_getElem?, List.getElem?_toArray, Option.getD_some, and_true] at hO hD; go_simp; rfl)
                simp only [List.nil_append, List.cons_append]
                refine Free2.Chain.pr (fun v _ => v = i2 o 0) 4 rfl [(3, 197)] [] (by kernel_rfl) (by kernel_rfl) rfl (fun _ _ _ _ h => h) ?_ ?_
                · (intro ev W X hb hR hO hD hj hx hax; have hS := hF W hR; obtain ⟨hb1, hb2, hb3⟩ := hb; simp only [Free.AllDeps, Free.AllOuts, Free.At, List.getElem?_cons_succ, List.getElem?_cons_zero, Array.getD_eq_getD_getElem?, List.getElem?_toArray, Option.getD_some, and_true] at hO hD; simp only [Free2.AllX, and_true] at hax; go_simp; refine yields_enter ?_; (with_reducible refine (drawn_any o 0 _).mono ?_); rintro e W2 ⟨rfl, hB2⟩; exact ⟨_, rfl, hB2.mono hj.size, rfl, (hj.bel hB2).skip 4 _ (by simp)⟩)
                simp only [List.nil_append, List.cons_append]
                refine Free2.Chain.pr (fun v _ => v = .tuple #[i2 p q, .int .i64 0]) 5 rfl [(0, 194), (1, 195), (4, 198), (4, 198)] [] (by kernel_rfl) (by kernel_rfl) rfl (fun _ _ _ _ h => h) ?_ ?_
                · (intro ev W X hb hR hO hD hj hx hax; have hS := hF W hR; obtain ⟨hb1, hb2, hb3⟩ := hb; simp only [Free.AllDeps, Free.AllOuts, Free.At, List.getElem?_cons_succ, List.getElem?_cons_zero, Array.getD_eq_getD_getElem?, List.getElem?_toArray, Option.getD_some, and_true] at hO hD; simp only [Free2.AllX, and_true] at hax; go_simp; refine yields_enter ?_; (with_reducible refine (atmost_ok N lo hi D o 0 p q _ hc (by omega) (by omega) HP).mono ?_); rintro e W2 ⟨rfl, hB2⟩; exact ⟨_, rfl, hB2.mono hj.size, rfl, (hj.bel hB2).skip 5 _ (by simp)⟩)
                simp only [List.nil_append, List.cons_append]
                refine Free2.Chain.ex ?_ 6 rfl [(5, 199)] [] (by kernel_rfl) (by kernel_rfl) rfl (Below.refl _) (fun X W v h => LL.skip h 6 v (by simp)) ?_ ?_
                rotate_left
                · (intro ev W hb hR hO hD; have hS := hF W hR; obtain ⟨hb1, hb2, hb3⟩ := hb; simp only [Free.AllDeps, Free.AllOuts, Free.At, List.getElem?_cons_succ, List.getElem?_cons_zero, Array.getD_eq_getD_getElem?, List.getElem?_toArray, Option.getD_some, and_true] at hO hD; go_simp; rfl)
                simp only [List.nil_append, List.cons_append]
                refine Free2.Chain.ex ?_ 7 rfl [(6, 193)] [] (by kernel_rfl) (by kernel_rfl) rfl (Below.refl _) (fun X W v h => LL.skip h 7 v (by simp)) ?_ ?_
                rotate_left
                · (intro ev W hb hR hO hD; have hS := hF W hR; obtain ⟨hb1, hb2, hb3⟩ := hb; simp only [Free.AllDeps, Free.AllOuts, Free.At, List.getElem?_cons_succ, List.getElem?_cons_zero, Array.getD_eq_getD_getElem?, List.getElem?_toArray, Option.getD_some, and_true] at hO hD; go_simp; rfl)
                simp only [List.nil_append, List.cons_append]
                refine Free2.Chain.ex ?_ 8 rfl [(6, 193)] [] (by kernel_rfl) (by kernel_rfl) rfl (Below.refl _) (fun X W v h => LL.skip h 8 v (by simp)) ?_ ?_
                rotate_left
                · (intro ev W hb hR hO hD; have hS := hF W hR; obtain ⟨hb1, hb2, hb3⟩ := hb; simp only [Free.AllDeps, Free.AllOuts, Free.At, List.getElem?_cons_succ, List.getElem?_cons_zero, Array.getD_eq_getD_getElem?, List.getElem?_toArray, Option.getD_some, and_true] at hO hD; go_simp; rfl)
                simp only [List.nil_append, List.cons_append]
                refine Free2.Chain.pr (fun v _ => ∃ b, v = ptr b) 9 rfl [] [] (by kernel_rfl) (by kernel_rfl) rfl (fun _ _ _ _ h => h) ?_ ?_
                · (intro ev W X hb hR hO hD hj hx hax; have hS := hF W hR; obtain ⟨hb1, hb2, hb3⟩ := hb; simp only [Free.AllDeps, Free.AllOuts, Free.At, List.getElem?_cons_succ, List.getElem?_cons_zero, Array.getD_eq_getD_getElem?, List.getElem?_toArray, Option.getD_some, and_true] at hO hD; simp only [Free2.AllX, and_true] at hax; go_simp; exact ⟨(Below.refl _ W).alloc hj.size _, ⟨_, rfl⟩, hj.new ⟨9, 10, (.cells #[.int .i64 0, .int .i64 0] 29), (.cells #[.int .i64 p, .int .i64 q] 29)⟩ (by simp) (by simp) hx⟩)
                simp only [List.nil_append, List.cons_append]
                refine Free2.Chain.pr (fun _ _ => True) 10 rfl [(9, 26), (7, 200), (5, 199), (0, 194), (1, 195), (2, 196), (3, 197), (4, 198), (5, 199), (6, 193), (7, 200), (9, 26)] [] (by kernel_rfl) (by kernel_rfl) rfl (fun _ _ _ _ h => h) ?_ ?_
                · (intro ev W X hb hR hO hD hj hx hax; have hS := hF W hR; obtain ⟨hb1, hb2, hb3⟩ := hb; simp only [Free.AllDeps, Free.AllOuts, Free.At, List.getElem?_cons_succ, List.getElem?_cons_zero, Array.getD_eq_getD_getElem?, List.getElem?_toArray, Option.getD_some, and_true] at hO hD; simp only [Free2.AllX, and_true] at hax; obtain ⟨b, hb9, hs0, hbl⟩ := hj.at_ ⟨9, 10, (.cells #[.int .i64 0, .int .i64 0] 29), (.cells #[.int .i64 p, .int .i64 q] 29)⟩ (by simp) hax.1 hx; have hX := hax.1; rw [hb9] at hX; have hp := hj.puts ⟨9, 10, (.cells #[.int .i64 0, .int .i64 0] 29), (.cells #[.int .i64 p, .int .i64 q] 29)⟩ (by simp) (by simp) hX hs0 hbl [(0, .int .i64 p), (1, .int .i64 q)] rfl; have q0 : W.cell? ⟨b, 0, none⟩ = some (.int .i64 0) := cell_of_heap (o := 0) hbl rfl; have q1 : W.cell? ⟨b, 1, none⟩ = some (.int .i64 0) := cell_of_heap (o := 1) hbl rfl; have p0 : ∀ o, W.frozen? ⟨b, o, none⟩ = false := fun o => frozen_of_heap (o := o) hbl; go_simp; exact ⟨(hp undef).1, (hp _).2⟩)
                simp only [List.nil_append, List.cons_append]
                refine Free2.Chain.ex ?_ 11 rfl [(8, 201), (0, 194), (1, 195), (2, 196), (3, 197), (4, 198), (5, 199), (6, 193), (7, 200), (8, 201), (9, 26)] [] (by kernel_rfl) (by kernel_rfl) rfl (Below.refl _) (fun X W v h => LL.skip h 11 v (by simp)) ?_ ?_
                rotate_left
                · (intro ev W hb hR hO hD; have hS := hF W hR; obtain ⟨hb1, hb2, hb3⟩ := hb; simp only [Free.AllDeps, Free.AllOuts, Free.At, List.getElem?_cons_succ, List.getElem?_cons_zero, Array.getD_eq_getD_getElem?, List.getElem?_toArray, Option.getD_some, and_true] at hO hD; go_simp; rfl)
                simp only [List.nil_append, List.cons_append]
                intro xs w15 hR hV hX
                obtain ⟨X, hj, hxx⟩ := hX
                obtain ⟨b25, hp_b25, hs_b25, hl_b25⟩ := hj.done ⟨9, 10, (.cells #[.int .i64 0, .int .i64 0] 29), (.cells #[.int .i64 p, .int .i64 q] 29)⟩ (by simp) (hxx 9 (show (9 : Nat) < 12 by decide)) (hxx 10 (show (10 : Nat) < 12 by decide))
                simp only [Free.AllV, Free.At, List.length_cons, List.length_nil, Nat.reduceAdd, List.getElem?_cons_succ, List.getElem?_cons_zero, true_and, and_true] at hV
                simp only [Free.putsFrom, Act.put, Nat.zero_add, Nat.reduceAdd, hV, hp_b25, List.setIfInBounds_toArray, List.set_cons_succ, List.set_cons_zero]
                have hN := hF w15 hR
                have HB_w15 := Lib.hid (HB_w14.out.trans ((hN).mono hz_w14))
                have hz_w15 : bb ≤ w15.heap.size := Nat.le_trans hz_w14 (hN).size
                have HL_w15 : Free.Bel w10 w15 := Free.Bel.trans _ _ _ HL_w14 (hN)
                clear HL_w14
                have HWR : Free.Bel wr w15 := Free.Bel.trans _ _ _ HWR (hN)
                have FN : ∀ W, Free.Bel w15 W → W.cell? ⟨0, 0, none⟩ = some (dblF 130) ∧ W.cell? ⟨0, 1, none⟩ = some (dblF 131) ∧ W.cell? ⟨0, 2, none⟩ = some (dblF 132) ∧ W.cell? ⟨bb, 0, none⟩ = some (.int .i64 N) ∧ W.cell? ⟨bb, 1, none⟩ = some (.int .i64 lo) ∧ W.cell? ⟨bb, 2, none⟩ = some (.int .i64 hi) ∧ W.cell? ⟨bb + 1, 0, none⟩ = some (.int .i64 o) ∧ W.cell? ⟨bb + 1, 1, none⟩ = some (.int .i64 f) ∧ bb + 2 ≤ W.heap.size ∧ bb ≤ W.heap.size ∧ W.cell? ⟨g60, 0, none⟩ = some (.int .i64 pn) ∧ W.cell? ⟨g60, 1, none⟩ = some (.int .i64 pd) ∧ W.cell? ⟨g80, 0, none⟩ = some (.int .i64 (max lo f)) ∧ W.cell? ⟨g80, 1, none⟩ = some (.int .i64 (min hi (N - (o - f)))) ∧ W.cell? ⟨b25, 0, none⟩ = some (.int .i64 p) ∧ W.cell? ⟨b25, 1, none⟩ = some (.int .i64 q) := fun W hW => by
                  obtain ⟨a0, a1, a2, a3, a4, a5, a6, a7, a8, a9, a10, a11, a12, a13⟩ := FA W (Free.Bel.trans _ _ _ (hN) hW)
                  exact ⟨a0, a1, a2, a3, a4, a5, a6, a7, a8, a9, a10, a11, a12, a13, keepsB hW (cell_of_heap (o := 0) hl_b25 rfl), keepsB hW (cell_of_heap (o := 1) hl_b25 rfl)⟩
                clear FA HB_w14 hz_w14 KR
                have FA := FN
                clear FN
                have KR : Free.Bel w15 w15 := Free.Bel.refl _
                clear hR hF hj hxx hV hN hp_b25 hs_b25 hl_b25
                go_wp2_with fail
                have hF : ∀ W, Below w15.heap.size w15.drew W → Free.Bel w15 W := fun W hW => (show Below w15.heap.size w15 W from ((Below.refl _ w15).drew).trans hW)
                refine Free2.wp_free (R := Below w15.heap.size) (J := LL w15.heap.size [⟨10, 11, (.cells #[.int .i64 0, .int .i64 0] 29), (.cells #[.int .i64 r, .int .i64 s] 29)⟩]) (by kernel_rfl) (by kernel_rfl) (Below.refl _) (fun _ _ _ => Below.trans) (LL.start (Nat.le_refl _)) ?_
                refine Free2.Chain.ex ?_ 0 rfl [] [5] (by kernel_rfl) (by kernel_rfl) rfl (Below.refl _) (fun X W v h => LL.skip h 0 v (by simp)) ?_ ?_
                rotate_left
                · (intro ev W hb hR hO hD; have hS := hF W hR; obtain ⟨hb1, hb2, hb3⟩ := hb; simp only [Free.AllDeps, Free.AllOuts, Free.At, List.getElem?_cons_succ, List.getElem?_cons_zero, Array.getD_eq_getD_getElem?, List.getElem?_toArray, Option.getD_some, and_true] at hO hD; go_simp; rfl)
                simp only [List.nil_append, List.cons_append]
                refine Free2.Chain.ex ?_ 1 rfl [] [25] (by kernel_rfl) (by kernel_rfl) rfl (Below.refl _) (fun X W v h => LL.skip h 1 v (by simp)) ?_ ?_
                rotate_left
                · (intro ev W hb hR hO hD; have hS := hF W hR; obtain ⟨hb1, hb2, hb3⟩ := hb; simp only [Free.AllDeps, Free.AllOuts, Free.At, List.getElem?_cons_succ, List.getElem?_cons_zero, Array.getD_eq_getD_getElem?, List.getElem?_toArray, Option.getD_some, and_true] at hO hD; go_simp; rfl)
                simp only [List.nil_append, List.cons_append]
                refine Free2.Chain.ex ?_ 2 rfl [] [6] (by kernel_rfl) (by kernel_rfl) rfl (Below.refl _) (fun X W v h => LL.skip h 2 v (by simp)) ?_ ?_
                rotate_left
                · (intro ev W hb hR hO hD; have hS := hF W hR; obtain ⟨hb1, hb2, hb3⟩ := hb; simp only [Free.AllDeps, Free.AllOuts, Free.At, List.getElem?_cons_succ, List.getElem?_cons_zero, Array.getD_eq_getD_getElem?, List.getElem?_toArray, Option.getD_some, and_true] at hO hD; go_simp; rfl)
                simp only [List.nil_append, List.cons_append]
                refine Free2.Chain.ex ?_ 3 rfl [(2, 205)] [] (by kernel_rfl) (by kernel_rfl) rfl (Below.refl _) (fun X W v h => LL.skip h 3 v (by simp)) ?_ ?_
                rotate_left
                · (intro ev W hb hR hO hD; have hS := hF W hR; obtain ⟨hb1, hb2, hb3⟩ := hb; simp only [Free.AllDeps, Free.AllOuts, Free.At, List.getElem?_cons_succ, List.getElem?_cons_zero, Array.getD_eq_getD_getElem?, List.getElem?_toArray, Option.getD_some, and_true] at hO hD; go_simp; rfl)
                simp only [List.nil_append, List.cons_append]
                refine Free2.Chain.ex ?_ 4 rfl [(3, 206)] [] (by kernel_rfl) (by kernel_rfl) rfl (Below.refl _) (fun X W v h => LL.skip h 4 v (by simp)) ?_ ?_
                rotate_left
                · (intro ev W hb hR hO hD; have hS := hF W hR; obtain ⟨hb1, hb2, hb3⟩ := hb; simp only [Free.AllDeps, Free.AllOuts, Free.At, List.getElem?_cons_succ, List.getElem?_cons_zero, Array.getD_eq_getD_getElem?, List.getElem?_toArray, Option.getD_some, and_true] at hO hD; go_simp; rfl)
                simp only [List.nil_append, List.cons_append]
                refine Free2.Chain.pr (fun v _ => v = i2 (o + 1) 0) 5 rfl [(4, 207)] [] (by kernel_rfl) (by kernel_rfl) rfl (fun _ _ _ _ h => h) ?_ ?_
                · (intro ev W X hb hR hO hD hj hx hax; have hS := hF W hR; obtain ⟨hb1, hb2, hb3⟩ := hb; simp only [Free.AllDeps, Free.AllOuts, Free.At, List.getElem?_cons_succ, List.getElem?_cons_zero, Array.getD_eq_getD_getElem?, List.getElem?_toArray, Option.getD_some, and_true] at hO hD; simp only [Free2.AllX, and_true] at hax; go_simp; refine yields_enter ?_; (with_reducible refine (drawn_any (o + 1) 0 _).mono ?_); rintro e W2 ⟨rfl, hB2⟩; exact ⟨_, rfl, hB2.mono hj.size, rfl, (hj.bel hB2).skip 5 _ (by simp)⟩)
                simp only [List.nil_append, List.cons_append]
                refine Free2.Chain.pr (fun v _ => v = .tuple #[i2 r s, .int .i64 0]) 6 rfl [(0, 203), (1, 204), (5, 208), (5, 208)] [] (by kernel_rfl) (by kernel_rfl) rfl (fun _ _ _ _ h => h) ?_ ?_
                · (intro ev W X hb hR hO hD hj hx hax; have hS := hF W hR; obtain ⟨hb1, hb2, hb3⟩ := hb; simp only [Free.AllDeps, Free.AllOuts, Free.At, List.getElem?_cons_succ, List.getElem?_cons_zero, Array.getD_eq_getD_getElem?, List.getElem?_toArray, Option.getD_some, and_true] at hO hD; simp only [Free2.AllX, and_true] at hax; go_simp; refine yields_enter ?_; (with_reducible refine (atmost_ok N lo hi D (o + 1) 0 r s _ hc (by omega) (by omega) HP2).mono ?_); rintro e W2 ⟨rfl, hB2⟩; exact ⟨_, rfl, hB2.mono hj.size, rfl, (hj.bel hB2).skip 6 _ (by simp)⟩)
                simp only [List.nil_append, List.cons_append]
                refine Free2.Chain.ex ?_ 7 rfl [(6, 209)] [] (by kernel_rfl) (by kernel_rfl) rfl (Below.refl _) (fun X W v h => LL.skip h 7 v (by simp)) ?_ ?_
                rotate_left
                · (intro ev W hb hR hO hD; have hS := hF W hR; obtain ⟨hb1, hb2, hb3⟩ := hb; simp only [Free.AllDeps, Free.AllOuts, Free.At, List.getElem?_cons_succ, List.getElem?_cons_zero, Array.getD_eq_getD_getElem?, List.getElem?_toArray, Option.getD_some, and_true] at hO hD; go_simp; rfl)
                simp only [List.nil_append, List.cons_append]
                refine Free2.Chain.ex ?_ 8 rfl [(7, 202)] [] (by kernel_rfl) (by kernel_rfl) rfl (Below.refl _) (fun X W v h => LL.skip h 8 v (by simp)) ?_ ?_
                rotate_left
                · (intro ev W hb hR hO hD; have hS := hF W hR; obtain ⟨hb1, hb2, hb3⟩ := hb; simp only [Free.AllDeps, Free.AllOuts, Free.At, List.getElem?_cons_succ, List.getElem?_cons_zero, Array.getD_eq_getD_getElem?, List.getElem?_toArray, Option.getD_some, and_true] at hO hD; go_simp; rfl)
                simp only [List.nil_append, List.cons_append]
                refine Free2.Chain.ex ?_ 9 rfl [(7, 202)] [] (by kernel_rfl) (by kernel_rfl) rfl (Below.refl _) (fun X W v h => LL.skip h 9 v (by simp)) ?_ ?_
                rotate_left
                · (intro ev W hb hR hO hD; have hS := hF W hR; obtain ⟨hb1, hb2, hb3⟩ := hb; simp only [Free.AllDeps, Free.AllOuts, Free.At, List.getElem?_cons_succ, List.getElem?_cons_zero, Array.getD_eq_getD_getElem?, List.getElem?_toArray, Option.getD_some, and_true] at hO hD; go_simp; rfl)
                simp only [List.nil_append, List.cons_append]
                refine Free2.Chain.pr (fun v _ => ∃ b, v = ptr b) 10 rfl [] [] (by kernel_rfl) (by kernel_rfl) rfl (fun _ _ _ _ h => h) ?_ ?_
                · (intro ev W X hb hR hO hD hj hx hax; have hS := hF W hR; obtain ⟨hb1, hb2, hb3⟩ := hb; simp only [Free.AllDeps, Free.AllOuts, Free.At, List.getElem?_cons_succ, List.getElem?_cons_zero, Array.getD_eq_getD_getElem?, List.getElem?_toArray, Option.getD_some, and_true] at hO hD; simp only [Free2.AllX, and_true] at hax; go_simp; exact ⟨(Below.refl _ W).alloc hj.size _, ⟨_, rfl⟩, hj.new ⟨10, 11, (.cells #[.int .i64 0, .int .i64 0] 29), (.cells #[.int .i64 r, .int .i64 s] 29)⟩ (by simp) (by simp) hx⟩)
                simp only [List.nil_append, List.cons_append]
                refine Free2.Chain.pr (fun _ _ => True) 11 rfl [(10, 28), (8, 210), (6, 209), (0, 203), (1, 204), (2, 205), (3, 206), (4, 207), (5, 208), (6, 209), (7, 202), (8, 210), (10, 28)] [] (by kernel_rfl) (by kernel_rfl) rfl (fun _ _ _ _ h => h) ?_ ?_
                · (intro ev W X hb hR hO hD hj hx hax; have hS := hF W hR; obtain ⟨hb1, hb2, hb3⟩ := hb; simp only [Free.AllDeps, Free.AllOuts, Free.At, List.getElem?_cons_succ, List.getElem?_cons_zero, Array.getD_eq_getD_getElem?, List.getElem?_toArray, Option.getD_some, and_true] at hO hD; simp only [Free2.AllX, and_true] at hax; obtain ⟨b, hb9, hs0, hbl⟩ := hj.at_ ⟨10, 11, (.cells #[.int .i64 0, .int .i64 0] 29), (.cells #[.int .i64 r, .int .i64 s] 29)⟩ (by simp) hax.1 hx; have hX := hax.1; rw [hb9] at hX; have hp := hj.puts ⟨10, 11, (.cells #[.int .i64 0, .int .i64 0] 29), (.cells #[.int .i64 r, .int .i64 s] 29)⟩ (by simp) (by simp) hX hs0 hbl [(0, .int .i64 r), (1, .int .i64 s)] rfl; have q0 : W.cell? ⟨b, 0, none⟩ = some (.int .i64 0) := cell_of_heap (o := 0) hbl rfl; have q1 : W.cell? ⟨b, 1, none⟩ = some (.int .i64 0) := cell_of_heap (o := 1) hbl rfl; have p0 : ∀ o, W.frozen? ⟨b, o, none⟩ = false := fun o => frozen_of_heap (o := o) hbl; go_simp; exact ⟨(hp undef).1, (hp _).2⟩)
                simp only [List.nil_append, List.cons_append]
                refine Free2.Chain.ex ?_ 12 rfl [(9, 211), (0, 203), (1, 204), (2, 205), (3, 206), (4, 207), (5, 208), (6, 209), (7, 202), (8, 210), (9, 211), (10, 28)] [] (by kernel_rfl) (by kernel_rfl) rfl (Below.refl _) (fun X W v h => LL.skip h 12 v (by simp)) ?_ ?_
                rotate_left
                · (intro ev W hb hR hO hD; have hS := hF W hR; obtain ⟨hb1, hb2, hb3⟩ := hb; simp only [Free.AllDeps, Free.AllOuts, Free.At, List.getElem?_cons_succ, List.getElem?_cons_zero, Array.getD_eq_getD_getElem?, List.getElem?_toArray, Option.getD_some, and_true] at hO hD; go_simp; rfl)
                simp only [List.nil_append, List.cons_append]
                intro xs w16 hR hV hX
                obtain ⟨X, hj, hxx⟩ := hX
                obtain ⟨b26, hp_b26, hs_b26, hl_b26⟩ := hj.done ⟨10, 11, (.cells #[.int .i64 0, .int .i64 0] 29), (.cells #[.int .i64 r, .int .i64 s] 29)⟩ (by simp) (hxx 10 (show (10 : Nat) < 13 by decide)) (hxx 11 (show (11 : Nat) < 13 by decide))
                simp only [Free.AllV, Free.At, List.length_cons, List.length_nil, Nat.reduceAdd, List.getElem?_cons_succ, List.getElem?_cons_zero, true_and, and_true] at hV
                simp only [Free.putsFrom, Act.put, Nat.zero_add, Nat.reduceAdd, hV, hp_b26, List.setIfInBounds_toArray, List.set_cons_succ, List.set_cons_zero]
                have hN := hF w16 hR
                have HB_w16 := Lib.hid (HB_w15.out.trans ((hN).mono hz_w15))
                have hz_w16 : bb ≤ w16.heap.size := Nat.le_trans hz_w15 (hN).size
                have HL_w16 : Free.Bel w10 w16 := Free.Bel.trans _ _ _ HL_w15 (hN)
                clear HL_w15
                have HWR : Free.Bel wr w16 := Free.Bel.trans _ _ _ HWR (hN)
                have FN : ∀ W, Free.Bel w16 W → W.cell? ⟨0, 0, none⟩ = some (dblF 130) ∧ W.cell? ⟨0, 1, none⟩ = some (dblF 131) ∧ W.cell? ⟨0, 2, none⟩ = some (dblF 132) ∧ W.cell? ⟨bb, 0, none⟩ = some (.int .i64 N) ∧ W.cell? ⟨bb, 1, none⟩ = some (.int .i64 lo) ∧ W.cell? ⟨bb, 2, none⟩ = some (.int .i64 hi) ∧ W.cell? ⟨bb + 1, 0, none⟩ = some (.int .i64 o) ∧ W.cell? ⟨bb + 1, 1, none⟩ = some (.int .i64 f) ∧ bb + 2 ≤ W.heap.size ∧ bb ≤ W.heap.size ∧ W.cell? ⟨g60, 0, none⟩ = some (.int .i64 pn) ∧ W.cell? ⟨g60, 1, none⟩ = some (.int .i64 pd) ∧ W.cell? ⟨g80, 0, none⟩ = some (.int .i64 (max lo f)) ∧ W.cell? ⟨g80, 1, none⟩ = some (.int .i64 (min hi (N - (o - f)))) ∧ W.cell? ⟨b25, 0, none⟩ = some (.int .i64 p) ∧ W.cell? ⟨b25, 1, none⟩ = some (.int .i64 q) ∧ W.cell? ⟨b26, 0, none⟩ = some (.int .i64 r) ∧ W.cell? ⟨b26, 1, none⟩ = some (.int .i64 s) := fun W hW => by
                  obtain ⟨a0, a1, a2, a3, a4, a5, a6, a7, a8, a9, a10, a11, a12, a13, a14, a15⟩ := FA W (Free.Bel.trans _ _ _ (hN) hW)
                  exact ⟨a0, a1, a2, a3, a4, a5, a6, a7, a8, a9, a10, a11, a12, a13, a14, a15, keepsB hW (cell_of_heap (o := 0) hl_b26 rfl), keepsB hW (cell_of_heap (o := 1) hl_b26 rfl)⟩
                clear FA HB_w15 hz_w15 KR
                have FA := FN
                clear FN
                have KR : Free.Bel w16 w16 := Free.Bel.refl _
                clear hR hF hj hxx hV hN hp_b26 hs_b26 hl_b26
                go_wp2_with fail
                refine (over_any m1 al p q _ (by omega) (by omega) (by omega) (by omega) HO).mono ?_
                rintro e w17 ⟨rfl, hB⟩
                have HB_w17 := Lib.hid (HB_w16.out.trans ((hB).mono hz_w16))
                have hz_w17 : bb ≤ w17.heap.size := Nat.le_trans hz_w16 (hB).size
                have HL_w17 : Free.Bel w10 w17 := Free.Bel.trans _ _ _ HL_w16 (hB)
                clear HL_w16
                have HWR : Free.Bel wr w17 := Free.Bel.trans _ _ _ HWR (hB)
                have FN : ∀ W, Free.Bel w17 W → W.cell? ⟨0, 0, none⟩ = some (dblF 130) ∧ W.cell? ⟨0, 1, none⟩ = some (dblF 131) ∧ W.cell? ⟨0, 2, none⟩ = some (dblF 132) ∧ W.cell? ⟨bb, 0, none⟩ = some (.int .i64 N) ∧ W.cell? ⟨bb, 1, none⟩ = some (.int .i64 lo) ∧ W.cell? ⟨bb, 2, none⟩ = some (.int .i64 hi) ∧ W.cell? ⟨bb + 1, 0, none⟩ = some (.int .i64 o) ∧ W.cell? ⟨bb + 1, 1, none⟩ = some (.int .i64 f) ∧ bb + 2 ≤ W.heap.size ∧ bb ≤ W.heap.size ∧ W.cell? ⟨g60, 0, none⟩ = some (.int .i64 pn) ∧ W.cell? ⟨g60, 1, none⟩ = some (.int .i64 pd) ∧ W.cell? ⟨g80, 0, none⟩ = some (.int .i64 (max lo f)) ∧ W.cell? ⟨g80, 1, none⟩ = some (.int .i64 (min hi (N - (o - f)))) ∧ W.cell? ⟨b25, 0, none⟩ = some (.int .i64 p) ∧ W.cell? ⟨b25, 1, none⟩ = some (.int .i64 q) ∧ W.cell? ⟨b26, 0, none⟩ = some (.int .i64 r) ∧ W.cell? ⟨b26, 1, none⟩ = some (.int .i64 s) := fun W hW => by
                  obtain ⟨a0, a1, a2, a3, a4, a5, a6, a7, a8, a9, a10, a11, a12, a13, a14, a15, a16, a17⟩ := FA W (Free.Bel.trans _ _ _ (hB) hW)
                  exact ⟨a0, a1, a2, a3, a4, a5, a6, a7, a8, a9, a10, a11, a12, a13, a14, a15, a16, a17⟩
                clear FA HB_w16 hz_w16 KR
                have FA := FN
                clear FN
                have KR : Free.Bel w17 w17 := Free.Bel.refl _
                clear hB
                go_wp2_with fail
                refine (choose_any N (o + 1) _ (by omega) (by omega) (by omega)).mono ?_
                rintro e _ ⟨rfl, rfl⟩
                rw [HA2.out]
                go_wp2_with fail
                refine (over_any m2 a2 r s _ (by omega) (by omega) (by omega) (by omega) HO2).mono ?_
                rintro e w18 ⟨rfl, hB⟩
                have HB_w18 := Lib.hid (HB_w17.out.trans ((hB).mono hz_w17))
                have hz_w18 : bb ≤ w18.heap.size := Nat.le_trans hz_w17 (hB).size
                have HL_w18 : Free.Bel w10 w18 := Free.Bel.trans _ _ _ HL_w17 (hB)
                clear HL_w17
                have HWR : Free.Bel wr w18 := Free.Bel.trans _ _ _ HWR (hB)
                have FN : ∀ W, Free.Bel w18 W → W.cell? ⟨0, 0, none⟩ = some (dblF 130) ∧ W.cell? ⟨0, 1, none⟩ = some (dblF 131) ∧ W.cell? ⟨0, 2, none⟩ = some (dblF 132) ∧ W.cell? ⟨bb, 0, none⟩ = some (.int .i64 N) ∧ W.cell? ⟨bb, 1, none⟩ = some (.int .i64 lo) ∧ W.cell? ⟨bb, 2, none⟩ = some (.int .i64 hi) ∧ W.cell? ⟨bb + 1, 0, none⟩ = some (.int .i64 o) ∧ W.cell? ⟨bb + 1, 1, none⟩ = some (.int .i64 f) ∧ bb + 2 ≤ W.heap.size ∧ bb ≤ W.heap.size ∧ W.cell? ⟨g60, 0, none⟩ = some (.int .i64 pn) ∧ W.cell? ⟨g60, 1, none⟩ = some (.int .i64 pd) ∧ W.cell? ⟨g80, 0, none⟩ = some (.int .i64 (max lo f)) ∧ W.cell? ⟨g80, 1, none⟩ = some (.int .i64 (min hi (N - (o - f)))) ∧ W.cell? ⟨b25, 0, none⟩ = some (.int .i64 p) ∧ W.cell? ⟨b25, 1, none⟩ = some (.int .i64 q) ∧ W.cell? ⟨b26, 0, none⟩ = some (.int .i64 r) ∧ W.cell? ⟨b26, 1, none⟩ = some (.int .i64 s) := fun W hW => by
                  obtain ⟨a0, a1, a2, a3, a4, a5, a6, a7, a8, a9, a10, a11, a12, a13, a14, a15, a16, a17⟩ := FA W (Free.Bel.trans _ _ _ (hB) hW)
                  exact ⟨a0, a1, a2, a3, a4, a5, a6, a7, a8, a9, a10, a11, a12, a13, a14, a15, a16, a17⟩
                clear FA HB_w17 hz_w17 KR
                have FA := FN
                clear FN
                have KR : Free.Bel w18 w18 := Free.Bel.refl _
                clear hB
                go_wp2_with fail
                refine (least_int m2 a2 (by omega) (by omega) (by omega) (by omega) _ HO2.out _).mono ?_
                rintro e w19 ⟨rfl, hB⟩
                have HB_w19 := Lib.hid (HB_w18.out.trans ((hB).mono hz_w18))
                have hz_w19 : bb ≤ w19.heap.size := Nat.le_trans hz_w18 (hB).size
                have HL_w19 : Free.Bel w10 w19 := Free.Bel.trans _ _ _ HL_w18 (hB)
                clear HL_w18
                have HWR : Free.Bel wr w19 := Free.Bel.trans _ _ _ HWR (hB)
                have FN : ∀ W, Free.Bel w19 W → W.cell? ⟨0, 0, none⟩ = some (dblF 130) ∧ W.cell? ⟨0, 1, none⟩ = some (dblF 131) ∧ W.cell? ⟨0, 2, none⟩ = some (dblF 132) ∧ W.cell? ⟨bb, 0, none⟩ = some (.int .i64 N) ∧ W.cell? ⟨bb, 1, none⟩ = some (.int .i64 lo) ∧ W.cell? ⟨bb, 2, none⟩ = some (.int .i64 hi) ∧ W.cell? ⟨bb + 1, 0, none⟩ = some (.int .i64 o) ∧ W.cell? ⟨bb + 1, 1, none⟩ = some (.int .i64 f) ∧ bb + 2 ≤ W.heap.size ∧ bb ≤ W.heap.size ∧ W.cell? ⟨g60, 0, none⟩ = some (.int .i64 pn) ∧ W.cell? ⟨g60, 1, none⟩ = some (.int .i64 pd) ∧ W.cell? ⟨g80, 0, none⟩ = some (.int .i64 (max lo f)) ∧ W.cell? ⟨g80, 1, none⟩ = some (.int .i64 (min hi (N - (o - f)))) ∧ W.cell? ⟨b25, 0, none⟩ = some (.int .i64 p) ∧ W.cell? ⟨b25, 1, none⟩ = some (.int .i64 q) ∧ W.cell? ⟨b26, 0, none⟩ = some (.int .i64 r) ∧ W.cell? ⟨b26, 1, none⟩ = some (.int .i64 s) := fun W hW => by
                  obtain ⟨a0, a1, a2, a3, a4, a5, a6, a7, a8, a9, a10, a11, a12, a13, a14, a15, a16, a17⟩ := FA W (Free.Bel.trans _ _ _ (hB) hW)
                  exact ⟨a0, a1, a2, a3, a4, a5, a6, a7, a8, a9, a10, a11, a12, a13, a14, a15, a16, a17⟩
                clear FA HB_w18 hz_w18 KR
                have FA := FN
                clear FN
                have KR : Free.Bel w19 w19 := Free.Bel.refl _
                clear hB
                go_wp2_with fail
                refine (least_int m1 al (by omega) (by omega) (by omega) (by omega) _ HO.out _).mono ?_
                rintro e w20 ⟨rfl, hB⟩
                have HB_w20 := Lib.hid (HB_w19.out.trans ((hB).mono hz_w19))
                have hz_w20 : bb ≤ w20.heap.size := Nat.le_trans hz_w19 (hB).size
                have HL_w20 : Free.Bel w10 w20 := Free.Bel.trans _ _ _ HL_w19 (hB)
                clear HL_w19
                have HWR : Free.Bel wr w20 := Free.Bel.trans _ _ _ HWR (hB)
                have FN : ∀ W, Free.Bel w20 W → W.cell? ⟨0, 0, none⟩ = some (dblF 130) ∧ W.cell? ⟨0, 1, none⟩ = some (dblF 131) ∧ W.cell? ⟨0, 2, none⟩ = some (dblF 132) ∧ W.cell? ⟨bb, 0, none⟩ = some (.int .i64 N) ∧ W.cell? ⟨bb, 1, none⟩ = some (.int .i64 lo) ∧ W.cell? ⟨bb, 2, none⟩ = some (.int .i64 hi) ∧ W.cell? ⟨bb + 1, 0, none⟩ = some (.int .i64 o) ∧ W.cell? ⟨bb + 1, 1, none⟩ = some (.int .i64 f) ∧ bb + 2 ≤ W.heap.size ∧ bb ≤ W.heap.size ∧ W.cell? ⟨g60, 0, none⟩ = some (.int .i64 pn) ∧ W.cell? ⟨g60, 1, none⟩ = some (.int .i64 pd) ∧ W.cell? ⟨g80, 0, none⟩ = some (.int .i64 (max lo f)) ∧ W.cell? ⟨g80, 1, none⟩ = some (.int .i64 (min hi (N - (o - f)))) ∧ W.cell? ⟨b25, 0, none⟩ = some (.int .i64 p) ∧ W.cell? ⟨b25, 1, none⟩ = some (.int .i64 q) ∧ W.cell? ⟨b26, 0, none⟩ = some (.int .i64 r) ∧ W.cell? ⟨b26, 1, none⟩ = some (.int .i64 s) := fun W hW => by
                  obtain ⟨a0, a1, a2, a3, a4, a5, a6, a7, a8, a9, a10, a11, a12, a13, a14, a15, a16, a17⟩ := FA W (Free.Bel.trans _ _ _ (hB) hW)
                  exact ⟨a0, a1, a2, a3, a4, a5, a6, a7, a8, a9, a10, a11, a12, a13, a14, a15, a16, a17⟩
                clear FA HB_w19 hz_w19 KR
                have FA := FN
                clear FN
                have KR : Free.Bel w20 w20 := Free.Bel.refl _
                clear hB
                go_wp2_with fail
                refine (atMostL_any r s p q _ (by omega) (by omega) (by omega) (by omega)).mono ?_
                rintro e w21 ⟨rfl, hB⟩
                have HB_w21 := Lib.hid (HB_w20.out.trans ((hB).mono hz_w20))
                have hz_w21 : bb ≤ w21.heap.size := Nat.le_trans hz_w20 (hB).size
                have HL_w21 : Free.Bel w10 w21 := Free.Bel.trans _ _ _ HL_w20 (hB)
                clear HL_w20
                have HWR : Free.Bel wr w21 := Free.Bel.trans _ _ _ HWR (hB)
                have FN : ∀ W, Free.Bel w21 W → W.cell? ⟨0, 0, none⟩ = some (dblF 130) ∧ W.cell? ⟨0, 1, none⟩ = some (dblF 131) ∧ W.cell? ⟨0, 2, none⟩ = some (dblF 132) ∧ W.cell? ⟨bb, 0, none⟩ = some (.int .i64 N) ∧ W.cell? ⟨bb, 1, none⟩ = some (.int .i64 lo) ∧ W.cell? ⟨bb, 2, none⟩ = some (.int .i64 hi) ∧ W.cell? ⟨bb + 1, 0, none⟩ = some (.int .i64 o) ∧ W.cell? ⟨bb + 1, 1, none⟩ = some (.int .i64 f) ∧ bb + 2 ≤ W.heap.size ∧ bb ≤ W.heap.size ∧ W.cell? ⟨g60, 0, none⟩ = some (.int .i64 pn) ∧ W.cell? ⟨g60, 1, none⟩ = some (.int .i64 pd) ∧ W.cell? ⟨g80, 0, none⟩ = some (.int .i64 (max lo f)) ∧ W.cell? ⟨g80, 1, none⟩ = some (.int .i64 (min hi (N - (o - f)))) ∧ W.cell? ⟨b25, 0, none⟩ = some (.int .i64 p) ∧ W.cell? ⟨b25, 1, none⟩ = some (.int .i64 q) ∧ W.cell? ⟨b26, 0, none⟩ = some (.int .i64 r) ∧ W.cell? ⟨b26, 1, none⟩ = some (.int .i64 s) := fun W hW => by
                  obtain ⟨a0, a1, a2, a3, a4, a5, a6, a7, a8, a9, a10, a11, a12, a13, a14, a15, a16, a17⟩ := FA W (Free.Bel.trans _ _ _ (hB) hW)
                  exact ⟨a0, a1, a2, a3, a4, a5, a6, a7, a8, a9, a10, a11, a12, a13, a14, a15, a16, a17⟩
                clear FA HB_w20 hz_w20 KR
                have FA := FN
                clear FN
                have KR : Free.Bel w21 w21 := Free.Bel.refl _
                clear hB
                rw [HLW.out]
                go_wp2_with fail
                go_ret
                have hbb := HBB.out
                subst hbb
                exact ⟨rfl, HB_w21.out⟩
        · rw [if_pos hb1] at hbd
          obtain ⟨bq, hbq⟩ : ∃ b, bestB N lo o f pn pd (hi - lo + 1).toNat = b := ⟨_, rfl⟩
          rw [hbq] at hbd hb1
          have KC : Hid (∀ W, Calls Tryd.prog 23 #[.agg #[.int .i64 N, .int .i64 lo, .int .i64 hi], i2 o f] W fun e w' => e = .returned (.tuple #[i2 (max lo f) (min hi (N - (o - f))), .int .i64 0]) ∧ Below W.heap.size W w') := fun W => by
            have := can_any N lo hi o f W
            rw [hcn] at this
            exact this
          have KB : Hid (∀ W, Calls Tryd.prog 24 #[.agg #[.int .i64 N, .int .i64 lo, .int .i64 hi], i2 o f, i2 pn pd] W fun e w' => e = .returned (.tuple #[.int .i64 bq, .int .i64 0]) ∧ Below W.heap.size W w') := fun W => by
            have := bound_any N lo hi o f pn pd W
            rw [hbd] at this
            exact this
          have HB1 := Lib.hid (And.intro hbq hb1)
          clear hcn hbd hne hb1 hb2 hbq
          go_wp2_with fail
          refine (KC.out _).mono ?_
          rintro e w22 ⟨rfl, hB⟩
          have HB_w22 := Lib.hid (HB_w7.out.trans ((hB).mono hz_w7))
          have hz_w22 : bb ≤ w22.heap.size := Nat.le_trans hz_w7 (hB).size
          have FN : ∀ W, Free.Bel w22 W → W.cell? ⟨0, 0, none⟩ = some (dblF 130) ∧ W.cell? ⟨0, 1, none⟩ = some (dblF 131) ∧ W.cell? ⟨0, 2, none⟩ = some (dblF 132) ∧ W.cell? ⟨bb, 0, none⟩ = some (.int .i64 N) ∧ W.cell? ⟨bb, 1, none⟩ = some (.int .i64 lo) ∧ W.cell? ⟨bb, 2, none⟩ = some (.int .i64 hi) ∧ W.cell? ⟨bb + 1, 0, none⟩ = some (.int .i64 o) ∧ W.cell? ⟨bb + 1, 1, none⟩ = some (.int .i64 f) ∧ bb + 2 ≤ W.heap.size ∧ bb ≤ W.heap.size ∧ W.cell? ⟨g60, 0, none⟩ = some (.int .i64 pn) ∧ W.cell? ⟨g60, 1, none⟩ = some (.int .i64 pd) := fun W hW => by
            obtain ⟨a0, a1, a2, a3, a4, a5, a6, a7, a8, a9, a10, a11⟩ := FA W (Free.Bel.trans _ _ _ (hB) hW)
            exact ⟨a0, a1, a2, a3, a4, a5, a6, a7, a8, a9, a10, a11⟩
          clear FA HB_w7 hz_w7 KR
          have FA := FN
          clear FN
          have KR : Free.Bel w22 w22 := Free.Bel.refl _
          clear hB
          have KA0 : Free.Bel w22 (w22.alloc (.cells #[.int .i64 (max lo f), .int .i64 (min hi (N - (o - f)))] 24)) := Bel.allocT (Free.Bel.refl _) _
          go_wp2_with fail
          clear KA0
          have hN : Free.Bel w22 (w22.alloc (.cells #[.int .i64 (max lo f), .int .i64 (min hi (N - (o - f)))] 24)) := (Bel.allocT (Free.Bel.refl w22) _)
          have n_g220_0 : (w22.alloc (.cells #[.int .i64 (max lo f), .int .i64 (min hi (N - (o - f)))] 24)).cell? ⟨w22.heap.size, 0, none⟩ = some (.int .i64 (max lo f)) := by simp [go_sem]
          have n_g220_1 : (w22.alloc (.cells #[.int .i64 (max lo f), .int .i64 (min hi (N - (o - f)))] 24)).cell? ⟨w22.heap.size, 1, none⟩ = some (.int .i64 (min hi (N - (o - f)))) := by simp [go_sem]
          generalize (w22.alloc (.cells #[.int .i64 (max lo f), .int .i64 (min hi (N - (o - f)))] 24)) = w23 at *
          obtain ⟨g220, hgz⟩ : ∃ x, x = w22.heap.size := ⟨_, rfl⟩
          rw [← hgz] at n_g220_0 n_g220_1 ⊢
          clear hgz
          have HB_w23 := Lib.hid (HB_w22.out.trans ((hN).mono hz_w22))
          have hz_w23 : bb ≤ w23.heap.size := Nat.le_trans hz_w22 (hN).size
          have FN : ∀ W, Free.Bel w23 W → W.cell? ⟨0, 0, none⟩ = some (dblF 130) ∧ W.cell? ⟨0, 1, none⟩ = some (dblF 131) ∧ W.cell? ⟨0, 2, none⟩ = some (dblF 132) ∧ W.cell? ⟨bb, 0, none⟩ = some (.int .i64 N) ∧ W.cell? ⟨bb, 1, none⟩ = some (.int .i64 lo) ∧ W.cell? ⟨bb, 2, none⟩ = some (.int .i64 hi) ∧ W.cell? ⟨bb + 1, 0, none⟩ = some (.int .i64 o) ∧ W.cell? ⟨bb + 1, 1, none⟩ = some (.int .i64 f) ∧ bb + 2 ≤ W.heap.size ∧ bb ≤ W.heap.size ∧ W.cell? ⟨g60, 0, none⟩ = some (.int .i64 pn) ∧ W.cell? ⟨g60, 1, none⟩ = some (.int .i64 pd) ∧ W.cell? ⟨g220, 0, none⟩ = some (.int .i64 (max lo f)) ∧ W.cell? ⟨g220, 1, none⟩ = some (.int .i64 (min hi (N - (o - f)))) := fun W hW => by
            obtain ⟨a0, a1, a2, a3, a4, a5, a6, a7, a8, a9, a10, a11⟩ := FA W (Free.Bel.trans _ _ _ (hN) hW)
            exact ⟨a0, a1, a2, a3, a4, a5, a6, a7, a8, a9, a10, a11, keepsB hW n_g220_0, keepsB hW n_g220_1⟩
          clear FA HB_w22 hz_w22 KR
          have FA := FN
          clear FN
          have KR : Free.Bel w23 w23 := Free.Bel.refl _
          clear hN n_g220_0 n_g220_1
          refine (KB.out _).mono ?_
          rintro e w24 ⟨rfl, hB⟩
          have HB_w24 := Lib.hid (HB_w23.out.trans ((hB).mono hz_w23))
          have hz_w24 : bb ≤ w24.heap.size := Nat.le_trans hz_w23 (hB).size
          have FN : ∀ W, Free.Bel w24 W → W.cell? ⟨0, 0, none⟩ = some (dblF 130) ∧ W.cell? ⟨0, 1, none⟩ = some (dblF 131) ∧ W.cell? ⟨0, 2, none⟩ = some (dblF 132) ∧ W.cell? ⟨bb, 0, none⟩ = some (.int .i64 N) ∧ W.cell? ⟨bb, 1, none⟩ = some (.int .i64 lo) ∧ W.cell? ⟨bb, 2, none⟩ = some (.int .i64 hi) ∧ W.cell? ⟨bb + 1, 0, none⟩ = some (.int .i64 o) ∧ W.cell? ⟨bb + 1, 1, none⟩ = some (.int .i64 f) ∧ bb + 2 ≤ W.heap.size ∧ bb ≤ W.heap.size ∧ W.cell? ⟨g60, 0, none⟩ = some (.int .i64 pn) ∧ W.cell? ⟨g60, 1, none⟩ = some (.int .i64 pd) ∧ W.cell? ⟨g220, 0, none⟩ = some (.int .i64 (max lo f)) ∧ W.cell? ⟨g220, 1, none⟩ = some (.int .i64 (min hi (N - (o - f)))) := fun W hW => by
            obtain ⟨a0, a1, a2, a3, a4, a5, a6, a7, a8, a9, a10, a11, a12, a13⟩ := FA W (Free.Bel.trans _ _ _ (hB) hW)
            exact ⟨a0, a1, a2, a3, a4, a5, a6, a7, a8, a9, a10, a11, a12, a13⟩
          clear FA HB_w23 hz_w23 KR
          have FA := FN
          clear FN
          have KR : Free.Bel w24 w24 := Free.Bel.refl _
          clear hB
          go_wp2_with fail
          go_loopw [20, 13, 19] (fun i s b wr => ∃ j : Nat, j ≤ (hi - lo + 1).toNat ∧ i = .int .i64 (lo + j) ∧ s = .int .i64 (lastM N lo o f j) ∧ b = .int .i64 (bestB N lo o f pn pd j) ∧ Free.Bel w24 wr) (fun i _ _ _ => (hi - lo + 1).toNat - (intOf i - lo).toNat)
          case atStart => exact ⟨0, by omega, by simp, rfl, rfl, Free.Bel.refl _⟩
          case round =>
            obtain ⟨j, hj, rfl, rfl, rfl, HKr⟩ := hrel
            have HB_wr := Lib.hid (HB_w24.out.trans ((HKr).mono hz_w24))
            have hz_wr : bb ≤ wr.heap.size := Nat.le_trans hz_w24 (HKr).size
            have FN : ∀ W, Free.Bel wr W → W.cell? ⟨0, 0, none⟩ = some (dblF 130) ∧ W.cell? ⟨0, 1, none⟩ = some (dblF 131) ∧ W.cell? ⟨0, 2, none⟩ = some (dblF 132) ∧ W.cell? ⟨bb, 0, none⟩ = some (.int .i64 N) ∧ W.cell? ⟨bb, 1, none⟩ = some (.int .i64 lo) ∧ W.cell? ⟨bb, 2, none⟩ = some (.int .i64 hi) ∧ W.cell? ⟨bb + 1, 0, none⟩ = some (.int .i64 o) ∧ W.cell? ⟨bb + 1, 1, none⟩ = some (.int .i64 f) ∧ bb + 2 ≤ W.heap.size ∧ bb ≤ W.heap.size ∧ W.cell? ⟨g60, 0, none⟩ = some (.int .i64 pn) ∧ W.cell? ⟨g60, 1, none⟩ = some (.int .i64 pd) ∧ W.cell? ⟨g220, 0, none⟩ = some (.int .i64 (max lo f)) ∧ W.cell? ⟨g220, 1, none⟩ = some (.int .i64 (min hi (N - (o - f)))) := fun W hW => by
              obtain ⟨a0, a1, a2, a3, a4, a5, a6, a7, a8, a9, a10, a11, a12, a13⟩ := FA W (Free.Bel.trans _ _ _ (HKr) hW)
              exact ⟨a0, a1, a2, a3, a4, a5, a6, a7, a8, a9, a10, a11, a12, a13⟩
            clear FA HB_w24 hz_w24 KR
            have FA := FN
            clear FN
            have KR : Free.Bel wr wr := Free.Bel.refl _
            have HWR : Free.Bel wr wr := Free.Bel.refl _
            have HL_wr : Free.Bel w24 wr := HKr
            clear HKr
            by_cases hlt : j < (hi - lo + 1).toNat
            · have hjm : lo + (j : Int) ≤ hi := by omega
              obtain ⟨z, hz⟩ : ∃ z, lo + (j : Int) = z := ⟨_, rfl⟩
              have hzb : lo ≤ z ∧ z ≤ hi := by omega
              have hls : lastM N lo o f (j + 1) = mostI N z o f := by rw [lastM, hz]
              have hbs : bestB N lo o f pn pd (j + 1) = if 0 < waysI N z o f ∧ boundB N o f pn pd z = true then z else bestB N lo o f pn pd j := by rw [bestB, hz]
              have hwp := waysI_pos N z o f (by omega) (by omega) (by omega) (by omega)
              have hbB : boundB N o f pn pd z = decide (pn * al ≤ mostI N z o f * pd) := by rw [boundB, HAL.out]
              have hml := mostI_le N z o f (by omega) (by omega) (by omega) (by omega)
              rw [HAL.out] at hml
              have hl : lastM N lo o f j = -1 ∨ (0 ≤ lastM N lo o f j ∧ mostI N z o f ≤ lastM N lo o f j) := by
                rcases j with _ | j
                · exact .inl rfl
                · right
                  have h1 := most_lessI N (lo + j) o f (by omega) (by omega) (by omega) (by omega)
                  have h2 := mostI_le N (lo + j) o f (by omega) (by omega) (by omega) (by omega)
                  rw [show lo + (j : Int) + 1 = z by omega] at h1
                  exact ⟨h2.1, h1⟩
              obtain ⟨p, q, hpq⟩ : ∃ p q, mostV N z o f = i2 p q := ⟨_, _, rfl⟩
              have HP := Lib.hid hpq
              have HO := Lib.hid (show partV (mostI N z o f).toNat al.toNat = .agg #[.int .i64 p, .int .i64 q] by rw [← HAL.out]; exact hpq)
              obtain ⟨m, hm⟩ : ∃ x, mostI N z o f = x := ⟨_, rfl⟩
              obtain ⟨ls, hls2⟩ : ∃ x, lastM N lo o f j = x := ⟨_, rfl⟩
              obtain ⟨bs, hbs2⟩ : ∃ x, bestB N lo o f pn pd j = x := ⟨_, rfl⟩
              rw [hm] at hls hbB hml hl HO
              rw [hls2] at hl ⊢
              rw [hbs2] at hbs
              rw [hbB] at hbs
              rw [hbs2]
              rw [hz]
              have HLS := Lib.hid hls
              have HBS := Lib.hid hbs
              have HW := Lib.hid hwp
              have hz2 : IntKind.i64.wrap (z + 1) = lo + ((j + 1 : Nat) : Int) := by rw [IntWalk.i64_in _ (by omega)]; omega
              have HZ := Lib.hid hz
              have q1 : 0 ≤ m * pd := Int.mul_nonneg (by omega) (by omega)
              have q2 : m * pd ≤ 68719476736 * 1000 := Int.mul_le_mul (by omega) (by omega) (by omega) (by omega)
              have q3 : 0 ≤ al * pn := Int.mul_nonneg (by omega) (by omega)
              have q4 : al * pn ≤ 68719476736 * 1000 := Int.mul_le_mul (by omega) (by omega) (by omega) (by omega)
              have u2 : IntKind.i64.wrap (m * pd) = m * pd := IntWalk.i64_in _ (by omega)
              have u3 : IntKind.i64.wrap (al * pn) = al * pn := IntWalk.i64_in _ (by omega)
              clear hm hls2 hbs2 hls hbs hwp hbB hpq hz
              go_wp2_with fail
              refine (atmost_ok N lo hi z o f p q _ hc hd hzb HP).mono ?_
              rintro e w25 ⟨rfl, hB⟩
              have HB_w25 := Lib.hid (HB_wr.out.trans ((hB).mono hz_wr))
              have hz_w25 : bb ≤ w25.heap.size := Nat.le_trans hz_wr (hB).size
              have HL_w25 : Free.Bel w24 w25 := Free.Bel.trans _ _ _ HL_wr (hB)
              clear HL_wr
              have HWR : Free.Bel wr w25 := Free.Bel.trans _ _ _ HWR (hB)
              have FN : ∀ W, Free.Bel w25 W → W.cell? ⟨0, 0, none⟩ = some (dblF 130) ∧ W.cell? ⟨0, 1, none⟩ = some (dblF 131) ∧ W.cell? ⟨0, 2, none⟩ = some (dblF 132) ∧ W.cell? ⟨bb, 0, none⟩ = some (.int .i64 N) ∧ W.cell? ⟨bb, 1, none⟩ = some (.int .i64 lo) ∧ W.cell? ⟨bb, 2, none⟩ = some (.int .i64 hi) ∧ W.cell? ⟨bb + 1, 0, none⟩ = some (.int .i64 o) ∧ W.cell? ⟨bb + 1, 1, none⟩ = some (.int .i64 f) ∧ bb + 2 ≤ W.heap.size ∧ bb ≤ W.heap.size ∧ W.cell? ⟨g60, 0, none⟩ = some (.int .i64 pn) ∧ W.cell? ⟨g60, 1, none⟩ = some (.int .i64 pd) ∧ W.cell? ⟨g220, 0, none⟩ = some (.int .i64 (max lo f)) ∧ W.cell? ⟨g220, 1, none⟩ = some (.int .i64 (min hi (N - (o - f)))) := fun W hW => by
                obtain ⟨a0, a1, a2, a3, a4, a5, a6, a7, a8, a9, a10, a11, a12, a13⟩ := FA W (Free.Bel.trans _ _ _ (hB) hW)
                exact ⟨a0, a1, a2, a3, a4, a5, a6, a7, a8, a9, a10, a11, a12, a13⟩
              clear FA HB_wr hz_wr KR
              have FA := FN
              clear FN
              have KR : Free.Bel w25 w25 := Free.Bel.refl _
              clear hB
              have KA0 : Free.Bel w25 (w25.alloc (.cells #[.int .i64 p, .int .i64 q] 29)) := Bel.allocT (Free.Bel.refl _) _
              go_wp2_with fail
              clear KA0
              have hN : Free.Bel w25 (w25.alloc (.cells #[.int .i64 p, .int .i64 q] 29)) := (Bel.allocT (Free.Bel.refl w25) _)
              have n_g250_0 : (w25.alloc (.cells #[.int .i64 p, .int .i64 q] 29)).cell? ⟨w25.heap.size, 0, none⟩ = some (.int .i64 p) := by simp [go_sem]
              have n_g250_1 : (w25.alloc (.cells #[.int .i64 p, .int .i64 q] 29)).cell? ⟨w25.heap.size, 1, none⟩ = some (.int .i64 q) := by simp [go_sem]
              generalize (w25.alloc (.cells #[.int .i64 p, .int .i64 q] 29)) = w26 at *
              obtain ⟨g250, hgz⟩ : ∃ x, x = w25.heap.size := ⟨_, rfl⟩
              rw [← hgz] at n_g250_0 n_g250_1 ⊢
              clear hgz
              have HB_w26 := Lib.hid (HB_w25.out.trans ((hN).mono hz_w25))
              have hz_w26 : bb ≤ w26.heap.size := Nat.le_trans hz_w25 (hN).size
              have HL_w26 : Free.Bel w24 w26 := Free.Bel.trans _ _ _ HL_w25 (hN)
              clear HL_w25
              have HWR : Free.Bel wr w26 := Free.Bel.trans _ _ _ HWR (hN)
              have FN : ∀ W, Free.Bel w26 W → W.cell? ⟨0, 0, none⟩ = some (dblF 130) ∧ W.cell? ⟨0, 1, none⟩ = some (dblF 131) ∧ W.cell? ⟨0, 2, none⟩ = some (dblF 132) ∧ W.cell? ⟨bb, 0, none⟩ = some (.int .i64 N) ∧ W.cell? ⟨bb, 1, none⟩ = some (.int .i64 lo) ∧ W.cell? ⟨bb, 2, none⟩ = some (.int .i64 hi) ∧ W.cell? ⟨bb + 1, 0, none⟩ = some (.int .i64 o) ∧ W.cell? ⟨bb + 1, 1, none⟩ = some (.int .i64 f) ∧ bb + 2 ≤ W.heap.size ∧ bb ≤ W.heap.size ∧ W.cell? ⟨g60, 0, none⟩ = some (.int .i64 pn) ∧ W.cell? ⟨g60, 1, none⟩ = some (.int .i64 pd) ∧ W.cell? ⟨g220, 0, none⟩ = some (.int .i64 (max lo f)) ∧ W.cell? ⟨g220, 1, none⟩ = some (.int .i64 (min hi (N - (o - f)))) ∧ W.cell? ⟨g250, 0, none⟩ = some (.int .i64 p) ∧ W.cell? ⟨g250, 1, none⟩ = some (.int .i64 q) := fun W hW => by
                obtain ⟨a0, a1, a2, a3, a4, a5, a6, a7, a8, a9, a10, a11, a12, a13⟩ := FA W (Free.Bel.trans _ _ _ (hN) hW)
                exact ⟨a0, a1, a2, a3, a4, a5, a6, a7, a8, a9, a10, a11, a12, a13, keepsB hW n_g250_0, keepsB hW n_g250_1⟩
              clear FA HB_w25 hz_w25 KR
              have FA := FN
              clear FN
              have KR : Free.Bel w26 w26 := Free.Bel.refl _
              clear hN n_g250_0 n_g250_1
              refine (over_any m al p q _ (by omega) (by omega) (by omega) (by omega) HO).mono ?_
              rintro e w27 ⟨rfl, hB⟩
              have HB_w27 := Lib.hid (HB_w26.out.trans ((hB).mono hz_w26))
              have hz_w27 : bb ≤ w27.heap.size := Nat.le_trans hz_w26 (hB).size
              have HL_w27 : Free.Bel w24 w27 := Free.Bel.trans _ _ _ HL_w26 (hB)
              clear HL_w26
              have HWR : Free.Bel wr w27 := Free.Bel.trans _ _ _ HWR (hB)
              have FN : ∀ W, Free.Bel w27 W → W.cell? ⟨0, 0, none⟩ = some (dblF 130) ∧ W.cell? ⟨0, 1, none⟩ = some (dblF 131) ∧ W.cell? ⟨0, 2, none⟩ = some (dblF 132) ∧ W.cell? ⟨bb, 0, none⟩ = some (.int .i64 N) ∧ W.cell? ⟨bb, 1, none⟩ = some (.int .i64 lo) ∧ W.cell? ⟨bb, 2, none⟩ = some (.int .i64 hi) ∧ W.cell? ⟨bb + 1, 0, none⟩ = some (.int .i64 o) ∧ W.cell? ⟨bb + 1, 1, none⟩ = some (.int .i64 f) ∧ bb + 2 ≤ W.heap.size ∧ bb ≤ W.heap.size ∧ W.cell? ⟨g60, 0, none⟩ = some (.int .i64 pn) ∧ W.cell? ⟨g60, 1, none⟩ = some (.int .i64 pd) ∧ W.cell? ⟨g220, 0, none⟩ = some (.int .i64 (max lo f)) ∧ W.cell? ⟨g220, 1, none⟩ = some (.int .i64 (min hi (N - (o - f)))) ∧ W.cell? ⟨g250, 0, none⟩ = some (.int .i64 p) ∧ W.cell? ⟨g250, 1, none⟩ = some (.int .i64 q) := fun W hW => by
                obtain ⟨a0, a1, a2, a3, a4, a5, a6, a7, a8, a9, a10, a11, a12, a13, a14, a15⟩ := FA W (Free.Bel.trans _ _ _ (hB) hW)
                exact ⟨a0, a1, a2, a3, a4, a5, a6, a7, a8, a9, a10, a11, a12, a13, a14, a15⟩
              clear FA HB_w26 hz_w26 KR
              have FA := FN
              clear FN
              have KR : Free.Bel w27 w27 := Free.Bel.refl _
              clear hB
              rcases hl with rfl | ⟨hl1, hl2⟩
              · have k0 : decide ((0 : Int) ≤ -1) = false := rfl
                by_cases g1 : max lo f ≤ z
                · have k1 : decide (max lo f ≤ z) = true := decide_eq_true g1
                  by_cases g2 : z ≤ min hi (N - (o - f))
                  · have k2 : decide (z ≤ min hi (N - (o - f))) = true := decide_eq_true g2
                    have hw : 0 < waysI N z o f := HW.out.2 (by omega)
                    by_cases g3 : al * pn ≤ m * pd
                    · have k3 : decide (al * pn ≤ m * pd) = true := decide_eq_true g3
                      go_wp2_with fail
                      go_roundw
                      case rel => exact ⟨j + 1, by omega, by simp, by rw [HLS.out], by rw [HBS.out, if_pos ⟨hw, by rw [Int.mul_comm pn al]; exact decide_eq_true g3⟩], HL_w27⟩
                      case measure => have := HZ.out; simp [intOf]; omega
                    · have k3 : decide (al * pn ≤ m * pd) = false := decide_eq_false g3
                      go_wp2_with fail
                      go_roundw
                      case rel => exact ⟨j + 1, by omega, by simp, by rw [HLS.out], by rw [HBS.out, if_neg (fun h => by have h2 := of_decide_eq_true h.2; rw [Int.mul_comm pn al] at h2; omega)], HL_w27⟩
                      case measure => have := HZ.out; simp [intOf]; omega
                  · have k2 : decide (z ≤ min hi (N - (o - f))) = false := decide_eq_false g2
                    go_wp2_with fail
                    go_roundw
                    case rel => exact ⟨j + 1, by omega, by simp, by rw [HLS.out], by rw [HBS.out, if_neg (fun h => by have := HW.out.1 h.1; omega)], HL_w27⟩
                    case measure => have := HZ.out; simp [intOf]; omega
                · have k1 : decide (max lo f ≤ z) = false := decide_eq_false g1
                  go_wp2_with fail
                  go_roundw
                  case rel => exact ⟨j + 1, by omega, by simp, by rw [HLS.out], by rw [HBS.out, if_neg (fun h => by have := HW.out.1 h.1; omega)], HL_w27⟩
                  case measure => have := HZ.out; simp [intOf]; omega
              · have k0 : decide (0 ≤ ls) = true := decide_eq_true hl1
                have k9 : decide (ls < m) = false := decide_eq_false (by omega)
                by_cases g1 : max lo f ≤ z
                · have k1 : decide (max lo f ≤ z) = true := decide_eq_true g1
                  by_cases g2 : z ≤ min hi (N - (o - f))
                  · have k2 : decide (z ≤ min hi (N - (o - f))) = true := decide_eq_true g2
                    have hw : 0 < waysI N z o f := HW.out.2 (by omega)
                    by_cases g3 : al * pn ≤ m * pd
                    · have k3 : decide (al * pn ≤ m * pd) = true := decide_eq_true g3
                      go_wp2_with fail
                      go_roundw
                      case rel => exact ⟨j + 1, by omega, by simp, by rw [HLS.out], by rw [HBS.out, if_pos ⟨hw, by rw [Int.mul_comm pn al]; exact decide_eq_true g3⟩], HL_w27⟩
                      case measure => have := HZ.out; simp [intOf]; omega
                    · have k3 : decide (al * pn ≤ m * pd) = false := decide_eq_false g3
                      go_wp2_with fail
                      go_roundw
                      case rel => exact ⟨j + 1, by omega, by simp, by rw [HLS.out], by rw [HBS.out, if_neg (fun h => by have h2 := of_decide_eq_true h.2; rw [Int.mul_comm pn al] at h2; omega)], HL_w27⟩
                      case measure => have := HZ.out; simp [intOf]; omega
                  · have k2 : decide (z ≤ min hi (N - (o - f))) = false := decide_eq_false g2
                    go_wp2_with fail
                    go_roundw
                    case rel => exact ⟨j + 1, by omega, by simp, by rw [HLS.out], by rw [HBS.out, if_neg (fun h => by have := HW.out.1 h.1; omega)], HL_w27⟩
                    case measure => have := HZ.out; simp [intOf]; omega
                · have k1 : decide (max lo f ≤ z) = false := decide_eq_false g1
                  go_wp2_with fail
                  go_roundw
                  case rel => exact ⟨j + 1, by omega, by simp, by rw [HLS.out], by rw [HBS.out, if_neg (fun h => by have := HW.out.1 h.1; omega)], HL_w27⟩
                  case measure => have := HZ.out; simp [intOf]; omega
            · obtain rfl : j = (hi - lo + 1).toNat := by omega
              have hjm : ¬ (lo + (((hi - lo + 1).toNat : Nat) : Int) ≤ hi) := by omega
              have k0 : decide (lo + (((hi - lo + 1).toNat : Nat) : Int) ≤ hi) = false := decide_eq_false hjm
              rw [HB1.out.1]
              have hb1 := HB1.out.2
              have k7 : decide (0 ≤ bq) = true := decide_eq_true hb1
              by_cases hoN : o = N
              · have k0 : (o == N) = true := by simp [hoN]
                go_wp2_with fail
                go_ret
                have hbb := HBB.out
                subst hbb
                exact ⟨rfl, HB_wr.out⟩
              · have k0 : (o == N) = false := by simp [hoN]
                obtain ⟨D, HD2, hD⟩ := some_bounds lo hi x (by omega)
                have y1 : IntKind.i64.wrap (o + 1) = o + 1 := IntWalk.i64_in _ (by omega)
                obtain ⟨p, q, hpq⟩ : ∃ p q, mostV N D o 0 = i2 p q := ⟨_, _, rfl⟩
                obtain ⟨r, s, hrs⟩ : ∃ p q, mostV N D (o + 1) 0 = i2 p q := ⟨_, _, rfl⟩
                have ml := mostI_le N D o 0 (by omega) (by omega) (by omega) (by omega)
                have ml2 := mostI_le N D (o + 1) 0 (by omega) (by omega) (by omega) (by omega)
                have cp2 := chI_pos N (o + 1) (by omega) (by omega) (by omega) (by omega)
                have nl := none_lessI N D o (by omega) (by omega) (by omega)
                rw [HAL.out] at ml nl
                have hcp1 : 0 < al := by omega
                have hlow := lowest_le ml2 (by omega) ml hcp1 hrs (show partV (mostI N D o 0).toNat al.toNat = i2 p q by rw [← HAL.out]; exact hpq) nl
                have o1 := over_spec _ _ p q ml.1 ml.2 hcp1 (show partV (mostI N D o 0).toNat al.toNat = i2 p q by rw [← HAL.out]; exact hpq)
                have o2 := over_spec _ _ r s ml2.1 ml2.2 (by omega) hrs
                have HP := Lib.hid hpq
                have HP2 := Lib.hid hrs
                have HO := Lib.hid (show partV (mostI N D o 0).toNat al.toNat = .agg #[.int .i64 p, .int .i64 q] by rw [← HAL.out]; exact hpq)
                have HO2 := Lib.hid (show partV (mostI N D (o + 1) 0).toNat (chI N (o + 1)).toNat = .agg #[.int .i64 r, .int .i64 s] from hrs)
                obtain ⟨a2, ha2⟩ : ∃ x, chI N (o + 1) = x := ⟨_, rfl⟩
                obtain ⟨m1, hm1⟩ : ∃ x, mostI N D o 0 = x := ⟨_, rfl⟩
                obtain ⟨m2, hm2⟩ : ∃ x, mostI N D (o + 1) 0 = x := ⟨_, rfl⟩
                have HA2 := Lib.hid ha2
                rw [ha2, hm2] at ml2 HO2 o2
                rw [ha2] at cp2
                rw [hm1] at ml HO o1
                have HLW := Lib.hid (decide_eq_true hlow)
                clear hpq hrs nl hlow ha2 hm1 hm2
                go_wp2_with fail
                refine (some_v N lo hi x D _ ⟨hc.2.2.1, hc.2.2.2.1, Int.le_trans hc.2.2.2.2 hc.2.1⟩ hx HD2).mono ?_
                rintro e w28 ⟨rfl, hB⟩
                have HB_w28 := Lib.hid (HB_wr.out.trans ((hB).mono hz_wr))
                have hz_w28 : bb ≤ w28.heap.size := Nat.le_trans hz_wr (hB).size
                have HL_w28 : Free.Bel w24 w28 := Free.Bel.trans _ _ _ HL_wr (hB)
                clear HL_wr
                have HWR : Free.Bel wr w28 := Free.Bel.trans _ _ _ HWR (hB)
                have FN : ∀ W, Free.Bel w28 W → W.cell? ⟨0, 0, none⟩ = some (dblF 130) ∧ W.cell? ⟨0, 1, none⟩ = some (dblF 131) ∧ W.cell? ⟨0, 2, none⟩ = some (dblF 132) ∧ W.cell? ⟨bb, 0, none⟩ = some (.int .i64 N) ∧ W.cell? ⟨bb, 1, none⟩ = some (.int .i64 lo) ∧ W.cell? ⟨bb, 2, none⟩ = some (.int .i64 hi) ∧ W.cell? ⟨bb + 1, 0, none⟩ = some (.int .i64 o) ∧ W.cell? ⟨bb + 1, 1, none⟩ = some (.int .i64 f) ∧ bb + 2 ≤ W.heap.size ∧ bb ≤ W.heap.size ∧ W.cell? ⟨g60, 0, none⟩ = some (.int .i64 pn) ∧ W.cell? ⟨g60, 1, none⟩ = some (.int .i64 pd) ∧ W.cell? ⟨g220, 0, none⟩ = some (.int .i64 (max lo f)) ∧ W.cell? ⟨g220, 1, none⟩ = some (.int .i64 (min hi (N - (o - f)))) := fun W hW => by
                  obtain ⟨a0, a1, a2, a3, a4, a5, a6, a7, a8, a9, a10, a11, a12, a13⟩ := FA W (Free.Bel.trans _ _ _ (hB) hW)
                  exact ⟨a0, a1, a2, a3, a4, a5, a6, a7, a8, a9, a10, a11, a12, a13⟩
                clear FA HB_wr hz_wr KR
                have FA := FN
                clear FN
                have KR : Free.Bel w28 w28 := Free.Bel.refl _
                clear hB
                go_wp2_with fail
                have hF : ∀ W, Below w28.heap.size w28.drew W → Free.Bel w28 W := fun W hW => (show Below w28.heap.size w28 W from ((Below.refl _ w28).drew).trans hW)
                refine Free2.wp_free (R := Below w28.heap.size) (J := LL w28.heap.size [⟨9, 10, (.cells #[.int .i64 0, .int .i64 0] 29), (.cells #[.int .i64 p, .int .i64 q] 29)⟩]) (by kernel_rfl) (by kernel_rfl) (Below.refl _) (fun _ _ _ => Below.trans) (LL.start (Nat.le_refl _)) ?_
                refine Free2.Chain.ex ?_ 0 rfl [] [5] (by kernel_rfl) (by kernel_rfl) rfl (Below.refl _) (fun X W v h => LL.skip h 0 v (by simp)) ?_ ?_
                rotate_left
                · (intro ev W hb hR hO hD; have hS := hF W hR; obtain ⟨hb1, hb2, hb3⟩ := hb; simp only [Free.AllDeps, Free.AllOuts, Free.At, List.getElem?_cons_succ, List.getElem?_cons_zero, Array.getD_eq_getD_getElem?, List.getElem?_toArray, Option.getD_some, and_true] at hO hD; go_simp; rfl)
                simp only [List.nil_append, List.cons_append]
                refine Free2.Chain.ex ?_ 1 rfl [] [25] (by kernel_rfl) (by kernel_rfl) rfl (Below.refl _) (fun X W v h => LL.skip h 1 v (by simp)) ?_ ?_
                rotate_left
                · (intro ev W hb hR hO hD; have hS := hF W hR; obtain ⟨hb1, hb2, hb3⟩ := hb; simp only [Free.AllDeps, Free.AllOuts, Free.At, List.getElem?_cons_succ, List.getElem?_cons_zero, Array.getD_eq_getD_getElem?, List.getElem?_toArray, Option.getD_some, and_true] at hO hD; go_simp; rfl)
                simp only [List.nil_append, List.cons_append]
                refine Free2.Chain.ex ?_ 2 rfl [] [6] (by kernel_rfl) (by kernel_rfl) rfl (Below.refl _) (fun X W v h => LL.skip h 2 v (by simp)) ?_ ?_
                rotate_left
                · (intro ev W hb hR hO hD; have hS := hF W hR; obtain ⟨hb1, hb2, hb3⟩ := hb; simp only [Free.AllDeps, Free.AllOuts, Free.At, List.getElem?_cons_succ, List.getElem?_cons_zero, Array.getD_eq_getD_getElem?, List.getElem?_toArray, Option.getD_some, and_true] at hO hD; go_simp; rfl)
                simp only [List.nil_append, List.cons_append]
                refine Free2.Chain.ex ?_ 3 rfl [(2, 196)] [] (by kernel_rfl) (by kernel_rfl) rfl (Below.refl _) (fun X W v h => LL.skip h 3 v (by simp)) ?_ ?_
                rotate_left
                · (intro ev W hb hR hO hD; have hS := hF W hR; obtain ⟨hb1, hb2, hb3⟩ := hb; simp only [Free.AllDeps, Free.AllOuts, Free.At, List.getElem?_cons_succ, List.getElem?_cons_zero, Array.getD_eq_getD_getElem?, List.getElem?_toArray, Option.getD_some, and_true] at hO hD; go_simp; rfl)
                simp only [List.nil_append, List.cons_append]
                refine Free2.Chain.pr (fun v _ => v = i2 o 0) 4 rfl [(3, 197)] [] (by kernel_rfl) (by kernel_rfl) rfl (fun _ _ _ _ h => h) ?_ ?_
                · (intro ev W X hb hR hO hD hj hx hax; have hS := hF W hR; obtain ⟨hb1, hb2, hb3⟩ := hb; simp only [Free.AllDeps, Free.AllOuts, Free.At, List.getElem?_cons_succ, List.getElem?_cons_zero, Array.getD_eq_getD_getElem?, List.getElem?_toArray, Option.getD_some, and_true] at hO hD; simp only [Free2.AllX, and_true] at hax; go_simp; refine yields_enter ?_; (with_reducible refine (drawn_any o 0 _).mono ?_); rintro e W2 ⟨rfl, hB2⟩; exact ⟨_, rfl, hB2.mono hj.size, rfl, (hj.bel hB2).skip 4 _ (by simp)⟩)
                simp only [List.nil_append, List.cons_append]
                refine Free2.Chain.pr (fun v _ => v = .tuple #[i2 p q, .int .i64 0]) 5 rfl [(0, 194), (1, 195), (4, 198), (4, 198)] [] (by kernel_rfl) (by kernel_rfl) rfl (fun _ _ _ _ h => h) ?_ ?_
                · (intro ev W X hb hR hO hD hj hx hax; have hS := hF W hR; obtain ⟨hb1, hb2, hb3⟩ := hb; simp only [Free.AllDeps, Free.AllOuts, Free.At, List.getElem?_cons_succ, List.getElem?_cons_zero, Array.getD_eq_getD_getElem?, List.getElem?_toArray, Option.getD_some, and_true] at hO hD; simp only [Free2.AllX, and_true] at hax; go_simp; refine yields_enter ?_; (with_reducible refine (atmost_ok N lo hi D o 0 p q _ hc (by omega) (by omega) HP).mono ?_); rintro e W2 ⟨rfl, hB2⟩; exact ⟨_, rfl, hB2.mono hj.size, rfl, (hj.bel hB2).skip 5 _ (by simp)⟩)
                simp only [List.nil_append, List.cons_append]
                refine Free2.Chain.ex ?_ 6 rfl [(5, 199)] [] (by kernel_rfl) (by kernel_rfl) rfl (Below.refl _) (fun X W v h => LL.skip h 6 v (by simp)) ?_ ?_
                rotate_left
                · (intro ev W hb hR hO hD; have hS := hF W hR; obtain ⟨hb1, hb2, hb3⟩ := hb; simp only [Free.AllDeps, Free.AllOuts, Free.At, List.getElem?_cons_succ, List.getElem?_cons_zero, Array.getD_eq_getD_getElem?, List.getElem?_toArray, Option.getD_some, and_true] at hO hD; go_simp; rfl)
                simp only [List.nil_append, List.cons_append]
                refine Free2.Chain.ex ?_ 7 rfl [(6, 193)] [] (by kernel_rfl) (by kernel_rfl) rfl (Below.refl _) (fun X W v h => LL.skip h 7 v (by simp)) ?_ ?_
                rotate_left
                · (intro ev W hb hR hO hD; have hS := hF W hR; obtain ⟨hb1, hb2, hb3⟩ := hb; simp only [Free.AllDeps, Free.AllOuts, Free.At, List.getElem?_cons_succ, List.getElem?_cons_zero, Array.getD_eq_getD_getElem?, List.getElem?_toArray, Option.getD_some, and_true] at hO hD; go_simp; rfl)
                simp only [List.nil_append, List.cons_append]
                refine Free2.Chain.ex ?_ 8 rfl [(6, 193)] [] (by kernel_rfl) (by kernel_rfl) rfl (Below.refl _) (fun X W v h => LL.skip h 8 v (by simp)) ?_ ?_
                rotate_left
                · (intro ev W hb hR hO hD; have hS := hF W hR; obtain ⟨hb1, hb2, hb3⟩ := hb; simp only [Free.AllDeps, Free.AllOuts, Free.At, List.getElem?_cons_succ, List.getElem?_cons_zero, Array.getD_eq_getD_getElem?, List.getElem?_toArray, Option.getD_some, and_true] at hO hD; go_simp; rfl)
                simp only [List.nil_append, List.cons_append]
                refine Free2.Chain.pr (fun v _ => ∃ b, v = ptr b) 9 rfl [] [] (by kernel_rfl) (by kernel_rfl) rfl (fun _ _ _ _ h => h) ?_ ?_
                · (intro ev W X hb hR hO hD hj hx hax; have hS := hF W hR; obtain ⟨hb1, hb2, hb3⟩ := hb; simp only [Free.AllDeps, Free.AllOuts, Free.At, List.getElem?_cons_succ, List.getElem?_cons_zero, Array.getD_eq_getD_getElem?, List.getElem?_toArray, Option.getD_some, and_true] at hO hD; simp only [Free2.AllX, and_true] at hax; go_simp; exact ⟨(Below.refl _ W).alloc hj.size _, ⟨_, rfl⟩, hj.new ⟨9, 10, (.cells #[.int .i64 0, .int .i64 0] 29), (.cells #[.int .i64 p, .int .i64 q] 29)⟩ (by simp) (by simp) hx⟩)
                simp only [List.nil_append, List.cons_append]
                refine Free2.Chain.pr (fun _ _ => True) 10 rfl [(9, 26), (7, 200), (5, 199), (0, 194), (1, 195), (2, 196), (3, 197), (4, 198), (5, 199), (6, 193), (7, 200), (9, 26)] [] (by kernel_rfl) (by kernel_rfl) rfl (fun _ _ _ _ h => h) ?_ ?_
                · (intro ev W X hb hR hO hD hj hx hax; have hS := hF W hR; obtain ⟨hb1, hb2, hb3⟩ := hb; simp only [Free.AllDeps, Free.AllOuts, Free.At, List.getElem?_cons_succ, List.getElem?_cons_zero, Array.getD_eq_getD_getElem?, List.getElem?_toArray, Option.getD_some, and_true] at hO hD; simp only [Free2.AllX, and_true] at hax; obtain ⟨b, hb9, hs0, hbl⟩ := hj.at_ ⟨9, 10, (.cells #[.int .i64 0, .int .i64 0] 29), (.cells #[.int .i64 p, .int .i64 q] 29)⟩ (by simp) hax.1 hx; have hX := hax.1; rw [hb9] at hX; have hp := hj.puts ⟨9, 10, (.cells #[.int .i64 0, .int .i64 0] 29), (.cells #[.int .i64 p, .int .i64 q] 29)⟩ (by simp) (by simp) hX hs0 hbl [(0, .int .i64 p), (1, .int .i64 q)] rfl; have q0 : W.cell? ⟨b, 0, none⟩ = some (.int .i64 0) := cell_of_heap (o := 0) hbl rfl; have q1 : W.cell? ⟨b, 1, none⟩ = some (.int .i64 0) := cell_of_heap (o := 1) hbl rfl; have p0 : ∀ o, W.frozen? ⟨b, o, none⟩ = false := fun o => frozen_of_heap (o := o) hbl; go_simp; exact ⟨(hp undef).1, (hp _).2⟩)
                simp only [List.nil_append, List.cons_append]
                refine Free2.Chain.ex ?_ 11 rfl [(8, 201), (0, 194), (1, 195), (2, 196), (3, 197), (4, 198), (5, 199), (6, 193), (7, 200), (8, 201), (9, 26)] [] (by kernel_rfl) (by kernel_rfl) rfl (Below.refl _) (fun X W v h => LL.skip h 11 v (by simp)) ?_ ?_
                rotate_left
                · (intro ev W hb hR hO hD; have hS := hF W hR; obtain ⟨hb1, hb2, hb3⟩ := hb; simp only [Free.AllDeps, Free.AllOuts, Free.At, List.getElem?_cons_succ, List.getElem?_cons_zero, Array.getD_eq_getD_getElem?, List.getElem?_toArray, Option.getD_some, and_true] at hO hD; go_simp; rfl)
                simp only [List.nil_append, List.cons_append]
                intro xs w29 hR hV hX
                obtain ⟨X, hj, hxx⟩ := hX
                obtain ⟨b25, hp_b25, hs_b25, hl_b25⟩ := hj.done ⟨9, 10, (.cells #[.int .i64 0, .int .i64 0] 29), (.cells #[.int .i64 p, .int .i64 q] 29)⟩ (by simp) (hxx 9 (show (9 : Nat) < 12 by decide)) (hxx 10 (show (10 : Nat) < 12 by decide))
                simp only [Free.AllV, Free.At, List.length_cons, List.length_nil, Nat.reduceAdd, List.getElem?_cons_succ, List.getElem?_cons_zero, true_and, and_true] at hV
                simp only [Free.putsFrom, Act.put, Nat.zero_add, Nat.reduceAdd, hV, hp_b25, List.setIfInBounds_toArray, List.set_cons_succ, List.set_cons_zero]
                have hN := hF w29 hR
                have HB_w29 := Lib.hid (HB_w28.out.trans ((hN).mono hz_w28))
                have hz_w29 : bb ≤ w29.heap.size := Nat.le_trans hz_w28 (hN).size
                have HL_w29 : Free.Bel w24 w29 := Free.Bel.trans _ _ _ HL_w28 (hN)
                clear HL_w28
                have HWR : Free.Bel wr w29 := Free.Bel.trans _ _ _ HWR (hN)
                have FN : ∀ W, Free.Bel w29 W → W.cell? ⟨0, 0, none⟩ = some (dblF 130) ∧ W.cell? ⟨0, 1, none⟩ = some (dblF 131) ∧ W.cell? ⟨0, 2, none⟩ = some (dblF 132) ∧ W.cell? ⟨bb, 0, none⟩ = some (.int .i64 N) ∧ W.cell? ⟨bb, 1, none⟩ = some (.int .i64 lo) ∧ W.cell? ⟨bb, 2, none⟩ = some (.int .i64 hi) ∧ W.cell? ⟨bb + 1, 0, none⟩ = some (.int .i64 o) ∧ W.cell? ⟨bb + 1, 1, none⟩ = some (.int .i64 f) ∧ bb + 2 ≤ W.heap.size ∧ bb ≤ W.heap.size ∧ W.cell? ⟨g60, 0, none⟩ = some (.int .i64 pn) ∧ W.cell? ⟨g60, 1, none⟩ = some (.int .i64 pd) ∧ W.cell? ⟨g220, 0, none⟩ = some (.int .i64 (max lo f)) ∧ W.cell? ⟨g220, 1, none⟩ = some (.int .i64 (min hi (N - (o - f)))) ∧ W.cell? ⟨b25, 0, none⟩ = some (.int .i64 p) ∧ W.cell? ⟨b25, 1, none⟩ = some (.int .i64 q) := fun W hW => by
                  obtain ⟨a0, a1, a2, a3, a4, a5, a6, a7, a8, a9, a10, a11, a12, a13⟩ := FA W (Free.Bel.trans _ _ _ (hN) hW)
                  exact ⟨a0, a1, a2, a3, a4, a5, a6, a7, a8, a9, a10, a11, a12, a13, keepsB hW (cell_of_heap (o := 0) hl_b25 rfl), keepsB hW (cell_of_heap (o := 1) hl_b25 rfl)⟩
                clear FA HB_w28 hz_w28 KR
                have FA := FN
                clear FN
                have KR : Free.Bel w29 w29 := Free.Bel.refl _
                clear hR hF hj hxx hV hN hp_b25 hs_b25 hl_b25
                go_wp2_with fail
                have hF : ∀ W, Below w29.heap.size w29.drew W → Free.Bel w29 W := fun W hW => (show Below w29.heap.size w29 W from ((Below.refl _ w29).drew).trans hW)
                refine Free2.wp_free (R := Below w29.heap.size) (J := LL w29.heap.size [⟨10, 11, (.cells #[.int .i64 0, .int .i64 0] 29), (.cells #[.int .i64 r, .int .i64 s] 29)⟩]) (by kernel_rfl) (by kernel_rfl) (Below.refl _) (fun _ _ _ => Below.trans) (LL.start (Nat.le_refl _)) ?_
                refine Free2.Chain.ex ?_ 0 rfl [] [5] (by kernel_rfl) (by kernel_rfl) rfl (Below.refl _) (fun X W v h => LL.skip h 0 v (by simp)) ?_ ?_
                rotate_left
                · (intro ev W hb hR hO hD; have hS := hF W hR; obtain ⟨hb1, hb2, hb3⟩ := hb; simp only [Free.AllDeps, Free.AllOuts, Free.At, List.getElem?_cons_succ, List.getElem?_cons_zero, Array.getD_eq_getD_getElem?, List.getElem?_toArray, Option.getD_some, and_true] at hO hD; go_simp; rfl)
                simp only [List.nil_append, List.cons_append]
                refine Free2.Chain.ex ?_ 1 rfl [] [25] (by kernel_rfl) (by kernel_rfl) rfl (Below.refl _) (fun X W v h => LL.skip h 1 v (by simp)) ?_ ?_
                rotate_left
                · (intro ev W hb hR hO hD; have hS := hF W hR; obtain ⟨hb1, hb2, hb3⟩ := hb; simp only [Free.AllDeps, Free.AllOuts, Free.At, List.getElem?_cons_succ, List.getElem?_cons_zero, Array.getD_eq_getD_getElem?, List.getElem?_toArray, Option.getD_some, and_true] at hO hD; go_simp; rfl)
                simp only [List.nil_append, List.cons_append]
                refine Free2.Chain.ex ?_ 2 rfl [] [6] (by kernel_rfl) (by kernel_rfl) rfl (Below.refl _) (fun X W v h => LL.skip h 2 v (by simp)) ?_ ?_
                rotate_left
                · (intro ev W hb hR hO hD; have hS := hF W hR; obtain ⟨hb1, hb2, hb3⟩ := hb; simp only [Free.AllDeps, Free.AllOuts, Free.At, List.getElem?_cons_succ, List.getElem?_cons_zero, Array.getD_eq_getD_getElem?, List.getElem?_toArray, Option.getD_some, and_true] at hO hD; go_simp; rfl)
                simp only [List.nil_append, List.cons_append]
                refine Free2.Chain.ex ?_ 3 rfl [(2, 205)] [] (by kernel_rfl) (by kernel_rfl) rfl (Below.refl _) (fun X W v h => LL.skip h 3 v (by simp)) ?_ ?_
                rotate_left
                · (intro ev W hb hR hO hD; have hS := hF W hR; obtain ⟨hb1, hb2, hb3⟩ := hb; simp only [Free.AllDeps, Free.AllOuts, Free.At, List.getElem?_cons_succ, List.getElem?_cons_zero, Array.getD_eq_getD_getElem?, List.getElem?_toArray, Option.getD_some, and_true] at hO hD; go_simp; rfl)
                simp only [List.nil_append, List.cons_append]
                refine Free2.Chain.ex ?_ 4 rfl [(3, 206)] [] (by kernel_rfl) (by kernel_rfl) rfl (Below.refl _) (fun X W v h => LL.skip h 4 v (by simp)) ?_ ?_
                rotate_left
                · (intro ev W hb hR hO hD; have hS := hF W hR; obtain ⟨hb1, hb2, hb3⟩ := hb; simp only [Free.AllDeps, Free.AllOuts, Free.At, List.getElem?_cons_succ, List.getElem?_cons_zero, Array.getD_eq_getD_getElem?, List.getElem?_toArray, Option.getD_some, and_true] at hO hD; go_simp; rfl)
                simp only [List.nil_append, List.cons_append]
                refine Free2.Chain.pr (fun v _ => v = i2 (o + 1) 0) 5 rfl [(4, 207)] [] (by kernel_rfl) (by kernel_rfl) rfl (fun _ _ _ _ h => h) ?_ ?_
                · (intro ev W X hb hR hO hD hj hx hax; have hS := hF W hR; obtain ⟨hb1, hb2, hb3⟩ := hb; simp only [Free.AllDeps, Free.AllOuts, Free.At, List.getElem?_cons_succ, List.getElem?_cons_zero, Array.getD_eq_getD_getElem?, List.getElem?_toArray, Option.getD_some, and_true] at hO hD; simp only [Free2.AllX, and_true] at hax; go_simp; refine yields_enter ?_; (with_reducible refine (drawn_any (o + 1) 0 _).mono ?_); rintro e W2 ⟨rfl, hB2⟩; exact ⟨_, rfl, hB2.mono hj.size, rfl, (hj.bel hB2).skip 5 _ (by simp)⟩)
                simp only [List.nil_append, List.cons_append]
                refine Free2.Chain.pr (fun v _ => v = .tuple #[i2 r s, .int .i64 0]) 6 rfl [(0, 203), (1, 204), (5, 208), (5, 208)] [] (by kernel_rfl) (by kernel_rfl) rfl (fun _ _ _ _ h => h) ?_ ?_
                · (intro ev W X hb hR hO hD hj hx hax; have hS := hF W hR; obtain ⟨hb1, hb2, hb3⟩ := hb; simp only [Free.AllDeps, Free.AllOuts, Free.At, List.getElem?_cons_succ, List.getElem?_cons_zero, Array.getD_eq_getD_getElem?, List.getElem?_toArray, Option.getD_some, and_true] at hO hD; simp only [Free2.AllX, and_true] at hax; go_simp; refine yields_enter ?_; (with_reducible refine (atmost_ok N lo hi D (o + 1) 0 r s _ hc (by omega) (by omega) HP2).mono ?_); rintro e W2 ⟨rfl, hB2⟩; exact ⟨_, rfl, hB2.mono hj.size, rfl, (hj.bel hB2).skip 6 _ (by simp)⟩)
                simp only [List.nil_append, List.cons_append]
                refine Free2.Chain.ex ?_ 7 rfl [(6, 209)] [] (by kernel_rfl) (by kernel_rfl) rfl (Below.refl _) (fun X W v h => LL.skip h 7 v (by simp)) ?_ ?_
                rotate_left
                · (intro ev W hb hR hO hD; have hS := hF W hR; obtain ⟨hb1, hb2, hb3⟩ := hb; simp only [Free.AllDeps, Free.AllOuts, Free.At, List.getElem?_cons_succ, List.getElem?_cons_zero, Array.getD_eq_getD_getElem?, List.getElem?_toArray, Option.getD_some, and_true] at hO hD; go_simp; rfl)
                simp only [List.nil_append, List.cons_append]
                refine Free2.Chain.ex ?_ 8 rfl [(7, 202)] [] (by kernel_rfl) (by kernel_rfl) rfl (Below.refl _) (fun X W v h => LL.skip h 8 v (by simp)) ?_ ?_
                rotate_left
                · (intro ev W hb hR hO hD; have hS := hF W hR; obtain ⟨hb1, hb2, hb3⟩ := hb; simp only [Free.AllDeps, Free.AllOuts, Free.At, List.getElem?_cons_succ, List.getElem?_cons_zero, Array.getD_eq_getD_getElem?, List.getElem?_toArray, Option.getD_some, and_true] at hO hD; go_simp; rfl)
                simp only [List.nil_append, List.cons_append]
                refine Free2.Chain.ex ?_ 9 rfl [(7, 202)] [] (by kernel_rfl) (by kernel_rfl) rfl (Below.refl _) (fun X W v h => LL.skip h 9 v (by simp)) ?_ ?_
                rotate_left
                · (intro ev W hb hR hO hD; have hS := hF W hR; obtain ⟨hb1, hb2, hb3⟩ := hb; simp only [Free.AllDeps, Free.AllOuts, Free.At, List.getElem?_cons_succ, List.getElem?_cons_zero, Array.getD_eq_getD_getElem?, List.getElem?_toArray, Option.getD_some, and_true] at hO hD; go_simp; rfl)
                simp only [List.nil_append, List.cons_append]
                refine Free2.Chain.pr (fun v _ => ∃ b, v = ptr b) 10 rfl [] [] (by kernel_rfl) (by kernel_rfl) rfl (fun _ _ _ _ h => h) ?_ ?_
                · (intro ev W X hb hR hO hD hj hx hax; have hS := hF W hR; obtain ⟨hb1, hb2, hb3⟩ := hb; simp only [Free.AllDeps, Free.AllOuts, Free.At, List.getElem?_cons_succ, List.getElem?_cons_zero, Array.getD_eq_getD_getElem?, List.getElem?_toArray, Option.getD_some, and_true] at hO hD; simp only [Free2.AllX, and_true] at hax; go_simp; exact ⟨(Below.refl _ W).alloc hj.size _, ⟨_, rfl⟩, hj.new ⟨10, 11, (.cells #[.int .i64 0, .int .i64 0] 29), (.cells #[.int .i64 r, .int .i64 s] 29)⟩ (by simp) (by simp) hx⟩)
                simp only [List.nil_append, List.cons_append]
                refine Free2.Chain.pr (fun _ _ => True) 11 rfl [(10, 28), (8, 210), (6, 209), (0, 203), (1, 204), (2, 205), (3, 206), (4, 207), (5, 208), (6, 209), (7, 202), (8, 210), (10, 28)] [] (by kernel_rfl) (by kernel_rfl) rfl (fun _ _ _ _ h => h) ?_ ?_
                · (intro ev W X hb hR hO hD hj hx hax; have hS := hF W hR; obtain ⟨hb1, hb2, hb3⟩ := hb; simp only [Free.AllDeps, Free.AllOuts, Free.At, List.getElem?_cons_succ, List.getElem?_cons_zero, Array.getD_eq_getD_getElem?, List.getElem?_toArray, Option.getD_some, and_true] at hO hD; simp only [Free2.AllX, and_true] at hax; obtain ⟨b, hb9, hs0, hbl⟩ := hj.at_ ⟨10, 11, (.cells #[.int .i64 0, .int .i64 0] 29), (.cells #[.int .i64 r, .int .i64 s] 29)⟩ (by simp) hax.1 hx; have hX := hax.1; rw [hb9] at hX; have hp := hj.puts ⟨10, 11, (.cells #[.int .i64 0, .int .i64 0] 29), (.cells #[.int .i64 r, .int .i64 s] 29)⟩ (by simp) (by simp) hX hs0 hbl [(0, .int .i64 r), (1, .int .i64 s)] rfl; have q0 : W.cell? ⟨b, 0, none⟩ = some (.int .i64 0) := cell_of_heap (o := 0) hbl rfl; have q1 : W.cell? ⟨b, 1, none⟩ = some (.int .i64 0) := cell_of_heap (o := 1) hbl rfl; have p0 : ∀ o, W.frozen? ⟨b, o, none⟩ = false := fun o => frozen_of_heap (o := o) hbl; go_simp; exact ⟨(hp undef).1, (hp _).2⟩)
                simp only [List.nil_append, List.cons_append]
                refine Free2.Chain.ex ?_ 12 rfl [(9, 211), (0, 203), (1, 204), (2, 205), (3, 206), (4, 207), (5, 208), (6, 209), (7, 202), (8, 210), (9, 211), (10, 28)] [] (by kernel_rfl) (by kernel_rfl) rfl (Below.refl _) (fun X W v h => LL.skip h 12 v (by simp)) ?_ ?_
                rotate_left
                · (intro ev W hb hR hO hD; have hS := hF W hR; obtain ⟨hb1, hb2, hb3⟩ := hb; simp only [Free.AllDeps, Free.AllOuts, Free.At, List.getElem?_cons_succ, List.getElem?_cons_zero, Array.getD_eq_getD_getElem?, List.getElem?_toArray, Option.getD_some, and_true] at hO hD; go_simp; rfl)
                simp only [List.nil_append, List.cons_append]
                intro xs w30 hR hV hX
                obtain ⟨X, hj, hxx⟩ := hX
                obtain ⟨b26, hp_b26, hs_b26, hl_b26⟩ := hj.done ⟨10, 11, (.cells #[.int .i64 0, .int .i64 0] 29), (.cells #[.int .i64 r, .int .i64 s] 29)⟩ (by simp) (hxx 10 (show (10 : Nat) < 13 by decide)) (hxx 11 (show (11 : Nat) < 13 by decide))
                simp only [Free.AllV, Free.At, List.length_cons, List.length_nil, Nat.reduceAdd, List.getElem?_cons_succ, List.getElem?_cons_zero, true_and, and_true] at hV
                simp only [Free.putsFrom, Act.put, Nat.zero_add, Nat.reduceAdd, hV, hp_b26, List.setIfInBounds_toArray, List.set_cons_succ, List.set_cons_zero]
                have hN := hF w30 hR
                have HB_w30 := Lib.hid (HB_w29.out.trans ((hN).mono hz_w29))
                have hz_w30 : bb ≤ w30.heap.size := Nat.le_trans hz_w29 (hN).size
                have HL_w30 : Free.Bel w24 w30 := Free.Bel.trans _ _ _ HL_w29 (hN)
                clear HL_w29
                have HWR : Free.Bel wr w30 := Free.Bel.trans _ _ _ HWR (hN)
                have FN : ∀ W, Free.Bel w30 W → W.cell? ⟨0, 0, none⟩ = some (dblF 130) ∧ W.cell? ⟨0, 1, none⟩ = some (dblF 131) ∧ W.cell? ⟨0, 2, none⟩ = some (dblF 132) ∧ W.cell? ⟨bb, 0, none⟩ = some (.int .i64 N) ∧ W.cell? ⟨bb, 1, none⟩ = some (.int .i64 lo) ∧ W.cell? ⟨bb, 2, none⟩ = some (.int .i64 hi) ∧ W.cell? ⟨bb + 1, 0, none⟩ = some (.int .i64 o) ∧ W.cell? ⟨bb + 1, 1, none⟩ = some (.int .i64 f) ∧ bb + 2 ≤ W.heap.size ∧ bb ≤ W.heap.size ∧ W.cell? ⟨g60, 0, none⟩ = some (.int .i64 pn) ∧ W.cell? ⟨g60, 1, none⟩ = some (.int .i64 pd) ∧ W.cell? ⟨g220, 0, none⟩ = some (.int .i64 (max lo f)) ∧ W.cell? ⟨g220, 1, none⟩ = some (.int .i64 (min hi (N - (o - f)))) ∧ W.cell? ⟨b25, 0, none⟩ = some (.int .i64 p) ∧ W.cell? ⟨b25, 1, none⟩ = some (.int .i64 q) ∧ W.cell? ⟨b26, 0, none⟩ = some (.int .i64 r) ∧ W.cell? ⟨b26, 1, none⟩ = some (.int .i64 s) := fun W hW => by
                  obtain ⟨a0, a1, a2, a3, a4, a5, a6, a7, a8, a9, a10, a11, a12, a13, a14, a15⟩ := FA W (Free.Bel.trans _ _ _ (hN) hW)
                  exact ⟨a0, a1, a2, a3, a4, a5, a6, a7, a8, a9, a10, a11, a12, a13, a14, a15, keepsB hW (cell_of_heap (o := 0) hl_b26 rfl), keepsB hW (cell_of_heap (o := 1) hl_b26 rfl)⟩
                clear FA HB_w29 hz_w29 KR
                have FA := FN
                clear FN
                have KR : Free.Bel w30 w30 := Free.Bel.refl _
                clear hR hF hj hxx hV hN hp_b26 hs_b26 hl_b26
                go_wp2_with fail
                refine (over_any m1 al p q _ (by omega) (by omega) (by omega) (by omega) HO).mono ?_
                rintro e w31 ⟨rfl, hB⟩
                have HB_w31 := Lib.hid (HB_w30.out.trans ((hB).mono hz_w30))
                have hz_w31 : bb ≤ w31.heap.size := Nat.le_trans hz_w30 (hB).size
                have HL_w31 : Free.Bel w24 w31 := Free.Bel.trans _ _ _ HL_w30 (hB)
                clear HL_w30
                have HWR : Free.Bel wr w31 := Free.Bel.trans _ _ _ HWR (hB)
                have FN : ∀ W, Free.Bel w31 W → W.cell? ⟨0, 0, none⟩ = some (dblF 130) ∧ W.cell? ⟨0, 1, none⟩ = some (dblF 131) ∧ W.cell? ⟨0, 2, none⟩ = some (dblF 132) ∧ W.cell? ⟨bb, 0, none⟩ = some (.int .i64 N) ∧ W.cell? ⟨bb, 1, none⟩ = some (.int .i64 lo) ∧ W.cell? ⟨bb, 2, none⟩ = some (.int .i64 hi) ∧ W.cell? ⟨bb + 1, 0, none⟩ = some (.int .i64 o) ∧ W.cell? ⟨bb + 1, 1, none⟩ = some (.int .i64 f) ∧ bb + 2 ≤ W.heap.size ∧ bb ≤ W.heap.size ∧ W.cell? ⟨g60, 0, none⟩ = some (.int .i64 pn) ∧ W.cell? ⟨g60, 1, none⟩ = some (.int .i64 pd) ∧ W.cell? ⟨g220, 0, none⟩ = some (.int .i64 (max lo f)) ∧ W.cell? ⟨g220, 1, none⟩ = some (.int .i64 (min hi (N - (o - f)))) ∧ W.cell? ⟨b25, 0, none⟩ = some (.int .i64 p) ∧ W.cell? ⟨b25, 1, none⟩ = some (.int .i64 q) ∧ W.cell? ⟨b26, 0, none⟩ = some (.int .i64 r) ∧ W.cell? ⟨b26, 1, none⟩ = some (.int .i64 s) := fun W hW => by
                  obtain ⟨a0, a1, a2, a3, a4, a5, a6, a7, a8, a9, a10, a11, a12, a13, a14, a15, a16, a17⟩ := FA W (Free.Bel.trans _ _ _ (hB) hW)
                  exact ⟨a0, a1, a2, a3, a4, a5, a6, a7, a8, a9, a10, a11, a12, a13, a14, a15, a16, a17⟩
                clear FA HB_w30 hz_w30 KR
                have FA := FN
                clear FN
                have KR : Free.Bel w31 w31 := Free.Bel.refl _
                clear hB
                go_wp2_with fail
                refine (choose_any N (o + 1) _ (by omega) (by omega) (by omega)).mono ?_
                rintro e _ ⟨rfl, rfl⟩
                rw [HA2.out]
                go_wp2_with fail
                refine (over_any m2 a2 r s _ (by omega) (by omega) (by omega) (by omega) HO2).mono ?_
                rintro e w32 ⟨rfl, hB⟩
                have HB_w32 := Lib.hid (HB_w31.out.trans ((hB).mono hz_w31))
                have hz_w32 : bb ≤ w32.heap.size := Nat.le_trans hz_w31 (hB).size
                have HL_w32 : Free.Bel w24 w32 := Free.Bel.trans _ _ _ HL_w31 (hB)
                clear HL_w31
                have HWR : Free.Bel wr w32 := Free.Bel.trans _ _ _ HWR (hB)
                have FN : ∀ W, Free.Bel w32 W → W.cell? ⟨0, 0, none⟩ = some (dblF 130) ∧ W.cell? ⟨0, 1, none⟩ = some (dblF 131) ∧ W.cell? ⟨0, 2, none⟩ = some (dblF 132) ∧ W.cell? ⟨bb, 0, none⟩ = some (.int .i64 N) ∧ W.cell? ⟨bb, 1, none⟩ = some (.int .i64 lo) ∧ W.cell? ⟨bb, 2, none⟩ = some (.int .i64 hi) ∧ W.cell? ⟨bb + 1, 0, none⟩ = some (.int .i64 o) ∧ W.cell? ⟨bb + 1, 1, none⟩ = some (.int .i64 f) ∧ bb + 2 ≤ W.heap.size ∧ bb ≤ W.heap.size ∧ W.cell? ⟨g60, 0, none⟩ = some (.int .i64 pn) ∧ W.cell? ⟨g60, 1, none⟩ = some (.int .i64 pd) ∧ W.cell? ⟨g220, 0, none⟩ = some (.int .i64 (max lo f)) ∧ W.cell? ⟨g220, 1, none⟩ = some (.int .i64 (min hi (N - (o - f)))) ∧ W.cell? ⟨b25, 0, none⟩ = some (.int .i64 p) ∧ W.cell? ⟨b25, 1, none⟩ = some (.int .i64 q) ∧ W.cell? ⟨b26, 0, none⟩ = some (.int .i64 r) ∧ W.cell? ⟨b26, 1, none⟩ = some (.int .i64 s) := fun W hW => by
                  obtain ⟨a0, a1, a2, a3, a4, a5, a6, a7, a8, a9, a10, a11, a12, a13, a14, a15, a16, a17⟩ := FA W (Free.Bel.trans _ _ _ (hB) hW)
                  exact ⟨a0, a1, a2, a3, a4, a5, a6, a7, a8, a9, a10, a11, a12, a13, a14, a15, a16, a17⟩
                clear FA HB_w31 hz_w31 KR
                have FA := FN
                clear FN
                have KR : Free.Bel w32 w32 := Free.Bel.refl _
                clear hB
                go_wp2_with fail
                refine (least_int m2 a2 (by omega) (by omega) (by omega) (by omega) _ HO2.out _).mono ?_
                rintro e w33 ⟨rfl, hB⟩
                have HB_w33 := Lib.hid (HB_w32.out.trans ((hB).mono hz_w32))
                have hz_w33 : bb ≤ w33.heap.size := Nat.le_trans hz_w32 (hB).size
                have HL_w33 : Free.Bel w24 w33 := Free.Bel.trans _ _ _ HL_w32 (hB)
                clear HL_w32
                have HWR : Free.Bel wr w33 := Free.Bel.trans _ _ _ HWR (hB)
                have FN : ∀ W, Free.Bel w33 W → W.cell? ⟨0, 0, none⟩ = some (dblF 130) ∧ W.cell? ⟨0, 1, none⟩ = some (dblF 131) ∧ W.cell? ⟨0, 2, none⟩ = some (dblF 132) ∧ W.cell? ⟨bb, 0, none⟩ = some (.int .i64 N) ∧ W.cell? ⟨bb, 1, none⟩ = some (.int .i64 lo) ∧ W.cell? ⟨bb, 2, none⟩ = some (.int .i64 hi) ∧ W.cell? ⟨bb + 1, 0, none⟩ = some (.int .i64 o) ∧ W.cell? ⟨bb + 1, 1, none⟩ = some (.int .i64 f) ∧ bb + 2 ≤ W.heap.size ∧ bb ≤ W.heap.size ∧ W.cell? ⟨g60, 0, none⟩ = some (.int .i64 pn) ∧ W.cell? ⟨g60, 1, none⟩ = some (.int .i64 pd) ∧ W.cell? ⟨g220, 0, none⟩ = some (.int .i64 (max lo f)) ∧ W.cell? ⟨g220, 1, none⟩ = some (.int .i64 (min hi (N - (o - f)))) ∧ W.cell? ⟨b25, 0, none⟩ = some (.int .i64 p) ∧ W.cell? ⟨b25, 1, none⟩ = some (.int .i64 q) ∧ W.cell? ⟨b26, 0, none⟩ = some (.int .i64 r) ∧ W.cell? ⟨b26, 1, none⟩ = some (.int .i64 s) := fun W hW => by
                  obtain ⟨a0, a1, a2, a3, a4, a5, a6, a7, a8, a9, a10, a11, a12, a13, a14, a15, a16, a17⟩ := FA W (Free.Bel.trans _ _ _ (hB) hW)
                  exact ⟨a0, a1, a2, a3, a4, a5, a6, a7, a8, a9, a10, a11, a12, a13, a14, a15, a16, a17⟩
                clear FA HB_w32 hz_w32 KR
                have FA := FN
                clear FN
                have KR : Free.Bel w33 w33 := Free.Bel.refl _
                clear hB
                go_wp2_with fail
                refine (least_int m1 al (by omega) (by omega) (by omega) (by omega) _ HO.out _).mono ?_
                rintro e w34 ⟨rfl, hB⟩
                have HB_w34 := Lib.hid (HB_w33.out.trans ((hB).mono hz_w33))
                have hz_w34 : bb ≤ w34.heap.size := Nat.le_trans hz_w33 (hB).size
                have HL_w34 : Free.Bel w24 w34 := Free.Bel.trans _ _ _ HL_w33 (hB)
                clear HL_w33
                have HWR : Free.Bel wr w34 := Free.Bel.trans _ _ _ HWR (hB)
                have FN : ∀ W, Free.Bel w34 W → W.cell? ⟨0, 0, none⟩ = some (dblF 130) ∧ W.cell? ⟨0, 1, none⟩ = some (dblF 131) ∧ W.cell? ⟨0, 2, none⟩ = some (dblF 132) ∧ W.cell? ⟨bb, 0, none⟩ = some (.int .i64 N) ∧ W.cell? ⟨bb, 1, none⟩ = some (.int .i64 lo) ∧ W.cell? ⟨bb, 2, none⟩ = some (.int .i64 hi) ∧ W.cell? ⟨bb + 1, 0, none⟩ = some (.int .i64 o) ∧ W.cell? ⟨bb + 1, 1, none⟩ = some (.int .i64 f) ∧ bb + 2 ≤ W.heap.size ∧ bb ≤ W.heap.size ∧ W.cell? ⟨g60, 0, none⟩ = some (.int .i64 pn) ∧ W.cell? ⟨g60, 1, none⟩ = some (.int .i64 pd) ∧ W.cell? ⟨g220, 0, none⟩ = some (.int .i64 (max lo f)) ∧ W.cell? ⟨g220, 1, none⟩ = some (.int .i64 (min hi (N - (o - f)))) ∧ W.cell? ⟨b25, 0, none⟩ = some (.int .i64 p) ∧ W.cell? ⟨b25, 1, none⟩ = some (.int .i64 q) ∧ W.cell? ⟨b26, 0, none⟩ = some (.int .i64 r) ∧ W.cell? ⟨b26, 1, none⟩ = some (.int .i64 s) := fun W hW => by
                  obtain ⟨a0, a1, a2, a3, a4, a5, a6, a7, a8, a9, a10, a11, a12, a13, a14, a15, a16, a17⟩ := FA W (Free.Bel.trans _ _ _ (hB) hW)
                  exact ⟨a0, a1, a2, a3, a4, a5, a6, a7, a8, a9, a10, a11, a12, a13, a14, a15, a16, a17⟩
                clear FA HB_w33 hz_w33 KR
                have FA := FN
                clear FN
                have KR : Free.Bel w34 w34 := Free.Bel.refl _
                clear hB
                go_wp2_with fail
                refine (atMostL_any r s p q _ (by omega) (by omega) (by omega) (by omega)).mono ?_
                rintro e w35 ⟨rfl, hB⟩
                have HB_w35 := Lib.hid (HB_w34.out.trans ((hB).mono hz_w34))
                have hz_w35 : bb ≤ w35.heap.size := Nat.le_trans hz_w34 (hB).size
                have HL_w35 : Free.Bel w24 w35 := Free.Bel.trans _ _ _ HL_w34 (hB)
                clear HL_w34
                have HWR : Free.Bel wr w35 := Free.Bel.trans _ _ _ HWR (hB)
                have FN : ∀ W, Free.Bel w35 W → W.cell? ⟨0, 0, none⟩ = some (dblF 130) ∧ W.cell? ⟨0, 1, none⟩ = some (dblF 131) ∧ W.cell? ⟨0, 2, none⟩ = some (dblF 132) ∧ W.cell? ⟨bb, 0, none⟩ = some (.int .i64 N) ∧ W.cell? ⟨bb, 1, none⟩ = some (.int .i64 lo) ∧ W.cell? ⟨bb, 2, none⟩ = some (.int .i64 hi) ∧ W.cell? ⟨bb + 1, 0, none⟩ = some (.int .i64 o) ∧ W.cell? ⟨bb + 1, 1, none⟩ = some (.int .i64 f) ∧ bb + 2 ≤ W.heap.size ∧ bb ≤ W.heap.size ∧ W.cell? ⟨g60, 0, none⟩ = some (.int .i64 pn) ∧ W.cell? ⟨g60, 1, none⟩ = some (.int .i64 pd) ∧ W.cell? ⟨g220, 0, none⟩ = some (.int .i64 (max lo f)) ∧ W.cell? ⟨g220, 1, none⟩ = some (.int .i64 (min hi (N - (o - f)))) ∧ W.cell? ⟨b25, 0, none⟩ = some (.int .i64 p) ∧ W.cell? ⟨b25, 1, none⟩ = some (.int .i64 q) ∧ W.cell? ⟨b26, 0, none⟩ = some (.int .i64 r) ∧ W.cell? ⟨b26, 1, none⟩ = some (.int .i64 s) := fun W hW => by
                  obtain ⟨a0, a1, a2, a3, a4, a5, a6, a7, a8, a9, a10, a11, a12, a13, a14, a15, a16, a17⟩ := FA W (Free.Bel.trans _ _ _ (hB) hW)
                  exact ⟨a0, a1, a2, a3, a4, a5, a6, a7, a8, a9, a10, a11, a12, a13, a14, a15, a16, a17⟩
                clear FA HB_w34 hz_w34 KR
                have FA := FN
                clear FN
                have KR : Free.Bel w35 w35 := Free.Bel.refl _
                clear hB
                rw [HLW.out]
                go_wp2_with fail
                go_ret
                have hbb := HBB.out
                subst hbb
                exact ⟨rfl, HB_w35.out⟩
      · rw [if_pos hne] at hbd
        have KC : Hid (∀ W, Calls Tryd.prog 23 #[.agg #[.int .i64 N, .int .i64 lo, .int .i64 hi], i2 o f] W fun e w' => e = .returned (.tuple #[i2 0 0, .int .i64 8]) ∧ Below W.heap.size W w') := fun W => by
          have := can_any N lo hi o f W
          rw [hcn] at this
          exact this
        have KB : Hid (∀ W, Calls Tryd.prog 24 #[.agg #[.int .i64 N, .int .i64 lo, .int .i64 hi], i2 o f, i2 pn pd] W fun e w' => e = .returned (.tuple #[.int .i64 0, .int .i64 8]) ∧ Below W.heap.size W w') := fun W => by
          have := bound_any N lo hi o f pn pd W
          rw [hbd] at this
          exact this
        clear hcn hbd hbn hne
        go_wp2_with fail
        refine (KC.out _).mono ?_
        rintro e w36 ⟨rfl, hB⟩
        have HB_w36 := Lib.hid (HB_w7.out.trans ((hB).mono hz_w7))
        have hz_w36 : bb ≤ w36.heap.size := Nat.le_trans hz_w7 (hB).size
        have FN : ∀ W, Free.Bel w36 W → W.cell? ⟨0, 0, none⟩ = some (dblF 130) ∧ W.cell? ⟨0, 1, none⟩ = some (dblF 131) ∧ W.cell? ⟨0, 2, none⟩ = some (dblF 132) ∧ W.cell? ⟨bb, 0, none⟩ = some (.int .i64 N) ∧ W.cell? ⟨bb, 1, none⟩ = some (.int .i64 lo) ∧ W.cell? ⟨bb, 2, none⟩ = some (.int .i64 hi) ∧ W.cell? ⟨bb + 1, 0, none⟩ = some (.int .i64 o) ∧ W.cell? ⟨bb + 1, 1, none⟩ = some (.int .i64 f) ∧ bb + 2 ≤ W.heap.size ∧ bb ≤ W.heap.size ∧ W.cell? ⟨g60, 0, none⟩ = some (.int .i64 pn) ∧ W.cell? ⟨g60, 1, none⟩ = some (.int .i64 pd) := fun W hW => by
          obtain ⟨a0, a1, a2, a3, a4, a5, a6, a7, a8, a9, a10, a11⟩ := FA W (Free.Bel.trans _ _ _ (hB) hW)
          exact ⟨a0, a1, a2, a3, a4, a5, a6, a7, a8, a9, a10, a11⟩
        clear FA HB_w7 hz_w7 KR
        have FA := FN
        clear FN
        have KR : Free.Bel w36 w36 := Free.Bel.refl _
        clear hB
        have KA0 : Free.Bel w36 (w36.alloc (.cells #[.int .i64 0, .int .i64 0] 24)) := Bel.allocT (Free.Bel.refl _) _
        go_wp2_with fail
        clear KA0
        have hN : Free.Bel w36 (w36.alloc (.cells #[.int .i64 0, .int .i64 0] 24)) := (Bel.allocT (Free.Bel.refl w36) _)
        have n_g360_0 : (w36.alloc (.cells #[.int .i64 0, .int .i64 0] 24)).cell? ⟨w36.heap.size, 0, none⟩ = some (.int .i64 0) := by simp [go_sem]
        have n_g360_1 : (w36.alloc (.cells #[.int .i64 0, .int .i64 0] 24)).cell? ⟨w36.heap.size, 1, none⟩ = some (.int .i64 0) := by simp [go_sem]
        generalize (w36.alloc (.cells #[.int .i64 0, .int .i64 0] 24)) = w37 at *
        obtain ⟨g360, hgz⟩ : ∃ x, x = w36.heap.size := ⟨_, rfl⟩
        rw [← hgz] at n_g360_0 n_g360_1 ⊢
        clear hgz
        have HB_w37 := Lib.hid (HB_w36.out.trans ((hN).mono hz_w36))
        have hz_w37 : bb ≤ w37.heap.size := Nat.le_trans hz_w36 (hN).size
        have FN : ∀ W, Free.Bel w37 W → W.cell? ⟨0, 0, none⟩ = some (dblF 130) ∧ W.cell? ⟨0, 1, none⟩ = some (dblF 131) ∧ W.cell? ⟨0, 2, none⟩ = some (dblF 132) ∧ W.cell? ⟨bb, 0, none⟩ = some (.int .i64 N) ∧ W.cell? ⟨bb, 1, none⟩ = some (.int .i64 lo) ∧ W.cell? ⟨bb, 2, none⟩ = some (.int .i64 hi) ∧ W.cell? ⟨bb + 1, 0, none⟩ = some (.int .i64 o) ∧ W.cell? ⟨bb + 1, 1, none⟩ = some (.int .i64 f) ∧ bb + 2 ≤ W.heap.size ∧ bb ≤ W.heap.size ∧ W.cell? ⟨g60, 0, none⟩ = some (.int .i64 pn) ∧ W.cell? ⟨g60, 1, none⟩ = some (.int .i64 pd) ∧ W.cell? ⟨g360, 0, none⟩ = some (.int .i64 0) ∧ W.cell? ⟨g360, 1, none⟩ = some (.int .i64 0) := fun W hW => by
          obtain ⟨a0, a1, a2, a3, a4, a5, a6, a7, a8, a9, a10, a11⟩ := FA W (Free.Bel.trans _ _ _ (hN) hW)
          exact ⟨a0, a1, a2, a3, a4, a5, a6, a7, a8, a9, a10, a11, keepsB hW n_g360_0, keepsB hW n_g360_1⟩
        clear FA HB_w36 hz_w36 KR
        have FA := FN
        clear FN
        have KR : Free.Bel w37 w37 := Free.Bel.refl _
        clear hN n_g360_0 n_g360_1
        refine (KB.out _).mono ?_
        rintro e w38 ⟨rfl, hB⟩
        have HB_w38 := Lib.hid (HB_w37.out.trans ((hB).mono hz_w37))
        have hz_w38 : bb ≤ w38.heap.size := Nat.le_trans hz_w37 (hB).size
        have FN : ∀ W, Free.Bel w38 W → W.cell? ⟨0, 0, none⟩ = some (dblF 130) ∧ W.cell? ⟨0, 1, none⟩ = some (dblF 131) ∧ W.cell? ⟨0, 2, none⟩ = some (dblF 132) ∧ W.cell? ⟨bb, 0, none⟩ = some (.int .i64 N) ∧ W.cell? ⟨bb, 1, none⟩ = some (.int .i64 lo) ∧ W.cell? ⟨bb, 2, none⟩ = some (.int .i64 hi) ∧ W.cell? ⟨bb + 1, 0, none⟩ = some (.int .i64 o) ∧ W.cell? ⟨bb + 1, 1, none⟩ = some (.int .i64 f) ∧ bb + 2 ≤ W.heap.size ∧ bb ≤ W.heap.size ∧ W.cell? ⟨g60, 0, none⟩ = some (.int .i64 pn) ∧ W.cell? ⟨g60, 1, none⟩ = some (.int .i64 pd) ∧ W.cell? ⟨g360, 0, none⟩ = some (.int .i64 0) ∧ W.cell? ⟨g360, 1, none⟩ = some (.int .i64 0) := fun W hW => by
          obtain ⟨a0, a1, a2, a3, a4, a5, a6, a7, a8, a9, a10, a11, a12, a13⟩ := FA W (Free.Bel.trans _ _ _ (hB) hW)
          exact ⟨a0, a1, a2, a3, a4, a5, a6, a7, a8, a9, a10, a11, a12, a13⟩
        clear FA HB_w37 hz_w37 KR
        have FA := FN
        clear FN
        have KR : Free.Bel w38 w38 := Free.Bel.refl _
        clear hB
        go_wp2_with fail
        go_loopw [20, 13, 19] (fun i s b wr => ∃ j : Nat, j ≤ (hi - lo + 1).toNat ∧ i = .int .i64 (lo + j) ∧ s = .int .i64 (lastM N lo o f j) ∧ b = .int .i64 (-1) ∧ Free.Bel w38 wr) (fun i _ _ _ => (hi - lo + 1).toNat - (intOf i - lo).toNat)
        case atStart => exact ⟨0, by omega, by simp, rfl, rfl, Free.Bel.refl _⟩
        case round =>
          obtain ⟨j, hj, rfl, rfl, rfl, HKr⟩ := hrel
          have HB_wr := Lib.hid (HB_w38.out.trans ((HKr).mono hz_w38))
          have hz_wr : bb ≤ wr.heap.size := Nat.le_trans hz_w38 (HKr).size
          have FN : ∀ W, Free.Bel wr W → W.cell? ⟨0, 0, none⟩ = some (dblF 130) ∧ W.cell? ⟨0, 1, none⟩ = some (dblF 131) ∧ W.cell? ⟨0, 2, none⟩ = some (dblF 132) ∧ W.cell? ⟨bb, 0, none⟩ = some (.int .i64 N) ∧ W.cell? ⟨bb, 1, none⟩ = some (.int .i64 lo) ∧ W.cell? ⟨bb, 2, none⟩ = some (.int .i64 hi) ∧ W.cell? ⟨bb + 1, 0, none⟩ = some (.int .i64 o) ∧ W.cell? ⟨bb + 1, 1, none⟩ = some (.int .i64 f) ∧ bb + 2 ≤ W.heap.size ∧ bb ≤ W.heap.size ∧ W.cell? ⟨g60, 0, none⟩ = some (.int .i64 pn) ∧ W.cell? ⟨g60, 1, none⟩ = some (.int .i64 pd) ∧ W.cell? ⟨g360, 0, none⟩ = some (.int .i64 0) ∧ W.cell? ⟨g360, 1, none⟩ = some (.int .i64 0) := fun W hW => by
            obtain ⟨a0, a1, a2, a3, a4, a5, a6, a7, a8, a9, a10, a11, a12, a13⟩ := FA W (Free.Bel.trans _ _ _ (HKr) hW)
            exact ⟨a0, a1, a2, a3, a4, a5, a6, a7, a8, a9, a10, a11, a12, a13⟩
          clear FA HB_w38 hz_w38 KR
          have FA := FN
          clear FN
          have KR : Free.Bel wr wr := Free.Bel.refl _
          have HWR : Free.Bel wr wr := Free.Bel.refl _
          have HL_wr : Free.Bel w38 wr := HKr
          clear HKr
          by_cases hlt : j < (hi - lo + 1).toNat
          · have hjm : lo + (j : Int) ≤ hi := by omega
            obtain ⟨z, hz⟩ : ∃ z, lo + (j : Int) = z := ⟨_, rfl⟩
            have hzb : lo ≤ z ∧ z ≤ hi := by omega
            have hls : lastM N lo o f (j + 1) = mostI N z o f := by rw [lastM, hz]
            have hbs : bestB N lo o f pn pd (j + 1) = if 0 < waysI N z o f ∧ boundB N o f pn pd z = true then z else bestB N lo o f pn pd j := by rw [bestB, hz]
            have hwp := waysI_pos N z o f (by omega) (by omega) (by omega) (by omega)
            have hbB : boundB N o f pn pd z = decide (pn * al ≤ mostI N z o f * pd) := by rw [boundB, HAL.out]
            have hml := mostI_le N z o f (by omega) (by omega) (by omega) (by omega)
            rw [HAL.out] at hml
            have hl : lastM N lo o f j = -1 ∨ (0 ≤ lastM N lo o f j ∧ mostI N z o f ≤ lastM N lo o f j) := by
              rcases j with _ | j
              · exact .inl rfl
              · right
                have h1 := most_lessI N (lo + j) o f (by omega) (by omega) (by omega) (by omega)
                have h2 := mostI_le N (lo + j) o f (by omega) (by omega) (by omega) (by omega)
                rw [show lo + (j : Int) + 1 = z by omega] at h1
                exact ⟨h2.1, h1⟩
            obtain ⟨p, q, hpq⟩ : ∃ p q, mostV N z o f = i2 p q := ⟨_, _, rfl⟩
            have HP := Lib.hid hpq
            have HO := Lib.hid (show partV (mostI N z o f).toNat al.toNat = .agg #[.int .i64 p, .int .i64 q] by rw [← HAL.out]; exact hpq)
            obtain ⟨m, hm⟩ : ∃ x, mostI N z o f = x := ⟨_, rfl⟩
            obtain ⟨ls, hls2⟩ : ∃ x, lastM N lo o f j = x := ⟨_, rfl⟩
            obtain ⟨bs, hbs2⟩ : ∃ x, bestB N lo o f pn pd j = x := ⟨_, rfl⟩
            rw [hm] at hls hbB hml hl HO
            rw [hls2] at hl ⊢
            rw [hbs2] at hbs
            rw [hbB] at hbs
            rw [hz]
            have HLS := Lib.hid hls
            have HBS := Lib.hid hbs
            have HW := Lib.hid hwp
            have hz2 : IntKind.i64.wrap (z + 1) = lo + ((j + 1 : Nat) : Int) := by rw [IntWalk.i64_in _ (by omega)]; omega
            have HZ := Lib.hid hz
            have q1 : 0 ≤ m * pd := Int.mul_nonneg (by omega) (by omega)
            have q2 : m * pd ≤ 68719476736 * 1000 := Int.mul_le_mul (by omega) (by omega) (by omega) (by omega)
            have q3 : 0 ≤ al * pn := Int.mul_nonneg (by omega) (by omega)
            have q4 : al * pn ≤ 68719476736 * 1000 := Int.mul_le_mul (by omega) (by omega) (by omega) (by omega)
            have u2 : IntKind.i64.wrap (m * pd) = m * pd := IntWalk.i64_in _ (by omega)
            have u3 : IntKind.i64.wrap (al * pn) = al * pn := IntWalk.i64_in _ (by omega)
            clear hm hls2 hbs2 hls hbs hwp hbB hpq hz
            go_wp2_with fail
            refine (atmost_ok N lo hi z o f p q _ hc hd hzb HP).mono ?_
            rintro e w39 ⟨rfl, hB⟩
            have HB_w39 := Lib.hid (HB_wr.out.trans ((hB).mono hz_wr))
            have hz_w39 : bb ≤ w39.heap.size := Nat.le_trans hz_wr (hB).size
            have HL_w39 : Free.Bel w38 w39 := Free.Bel.trans _ _ _ HL_wr (hB)
            clear HL_wr
            have HWR : Free.Bel wr w39 := Free.Bel.trans _ _ _ HWR (hB)
            have FN : ∀ W, Free.Bel w39 W → W.cell? ⟨0, 0, none⟩ = some (dblF 130) ∧ W.cell? ⟨0, 1, none⟩ = some (dblF 131) ∧ W.cell? ⟨0, 2, none⟩ = some (dblF 132) ∧ W.cell? ⟨bb, 0, none⟩ = some (.int .i64 N) ∧ W.cell? ⟨bb, 1, none⟩ = some (.int .i64 lo) ∧ W.cell? ⟨bb, 2, none⟩ = some (.int .i64 hi) ∧ W.cell? ⟨bb + 1, 0, none⟩ = some (.int .i64 o) ∧ W.cell? ⟨bb + 1, 1, none⟩ = some (.int .i64 f) ∧ bb + 2 ≤ W.heap.size ∧ bb ≤ W.heap.size ∧ W.cell? ⟨g60, 0, none⟩ = some (.int .i64 pn) ∧ W.cell? ⟨g60, 1, none⟩ = some (.int .i64 pd) ∧ W.cell? ⟨g360, 0, none⟩ = some (.int .i64 0) ∧ W.cell? ⟨g360, 1, none⟩ = some (.int .i64 0) := fun W hW => by
              obtain ⟨a0, a1, a2, a3, a4, a5, a6, a7, a8, a9, a10, a11, a12, a13⟩ := FA W (Free.Bel.trans _ _ _ (hB) hW)
              exact ⟨a0, a1, a2, a3, a4, a5, a6, a7, a8, a9, a10, a11, a12, a13⟩
            clear FA HB_wr hz_wr KR
            have FA := FN
            clear FN
            have KR : Free.Bel w39 w39 := Free.Bel.refl _
            clear hB
            have KA0 : Free.Bel w39 (w39.alloc (.cells #[.int .i64 p, .int .i64 q] 29)) := Bel.allocT (Free.Bel.refl _) _
            go_wp2_with fail
            clear KA0
            have hN : Free.Bel w39 (w39.alloc (.cells #[.int .i64 p, .int .i64 q] 29)) := (Bel.allocT (Free.Bel.refl w39) _)
            have n_g390_0 : (w39.alloc (.cells #[.int .i64 p, .int .i64 q] 29)).cell? ⟨w39.heap.size, 0, none⟩ = some (.int .i64 p) := by simp [go_sem]
            have n_g390_1 : (w39.alloc (.cells #[.int .i64 p, .int .i64 q] 29)).cell? ⟨w39.heap.size, 1, none⟩ = some (.int .i64 q) := by simp [go_sem]
            generalize (w39.alloc (.cells #[.int .i64 p, .int .i64 q] 29)) = w40 at *
            obtain ⟨g390, hgz⟩ : ∃ x, x = w39.heap.size := ⟨_, rfl⟩
            rw [← hgz] at n_g390_0 n_g390_1 ⊢
            clear hgz
            have HB_w40 := Lib.hid (HB_w39.out.trans ((hN).mono hz_w39))
            have hz_w40 : bb ≤ w40.heap.size := Nat.le_trans hz_w39 (hN).size
            have HL_w40 : Free.Bel w38 w40 := Free.Bel.trans _ _ _ HL_w39 (hN)
            clear HL_w39
            have HWR : Free.Bel wr w40 := Free.Bel.trans _ _ _ HWR (hN)
            have FN : ∀ W, Free.Bel w40 W → W.cell? ⟨0, 0, none⟩ = some (dblF 130) ∧ W.cell? ⟨0, 1, none⟩ = some (dblF 131) ∧ W.cell? ⟨0, 2, none⟩ = some (dblF 132) ∧ W.cell? ⟨bb, 0, none⟩ = some (.int .i64 N) ∧ W.cell? ⟨bb, 1, none⟩ = some (.int .i64 lo) ∧ W.cell? ⟨bb, 2, none⟩ = some (.int .i64 hi) ∧ W.cell? ⟨bb + 1, 0, none⟩ = some (.int .i64 o) ∧ W.cell? ⟨bb + 1, 1, none⟩ = some (.int .i64 f) ∧ bb + 2 ≤ W.heap.size ∧ bb ≤ W.heap.size ∧ W.cell? ⟨g60, 0, none⟩ = some (.int .i64 pn) ∧ W.cell? ⟨g60, 1, none⟩ = some (.int .i64 pd) ∧ W.cell? ⟨g360, 0, none⟩ = some (.int .i64 0) ∧ W.cell? ⟨g360, 1, none⟩ = some (.int .i64 0) ∧ W.cell? ⟨g390, 0, none⟩ = some (.int .i64 p) ∧ W.cell? ⟨g390, 1, none⟩ = some (.int .i64 q) := fun W hW => by
              obtain ⟨a0, a1, a2, a3, a4, a5, a6, a7, a8, a9, a10, a11, a12, a13⟩ := FA W (Free.Bel.trans _ _ _ (hN) hW)
              exact ⟨a0, a1, a2, a3, a4, a5, a6, a7, a8, a9, a10, a11, a12, a13, keepsB hW n_g390_0, keepsB hW n_g390_1⟩
            clear FA HB_w39 hz_w39 KR
            have FA := FN
            clear FN
            have KR : Free.Bel w40 w40 := Free.Bel.refl _
            clear hN n_g390_0 n_g390_1
            refine (over_any m al p q _ (by omega) (by omega) (by omega) (by omega) HO).mono ?_
            rintro e w41 ⟨rfl, hB⟩
            have HB_w41 := Lib.hid (HB_w40.out.trans ((hB).mono hz_w40))
            have hz_w41 : bb ≤ w41.heap.size := Nat.le_trans hz_w40 (hB).size
            have HL_w41 : Free.Bel w38 w41 := Free.Bel.trans _ _ _ HL_w40 (hB)
            clear HL_w40
            have HWR : Free.Bel wr w41 := Free.Bel.trans _ _ _ HWR (hB)
            have FN : ∀ W, Free.Bel w41 W → W.cell? ⟨0, 0, none⟩ = some (dblF 130) ∧ W.cell? ⟨0, 1, none⟩ = some (dblF 131) ∧ W.cell? ⟨0, 2, none⟩ = some (dblF 132) ∧ W.cell? ⟨bb, 0, none⟩ = some (.int .i64 N) ∧ W.cell? ⟨bb, 1, none⟩ = some (.int .i64 lo) ∧ W.cell? ⟨bb, 2, none⟩ = some (.int .i64 hi) ∧ W.cell? ⟨bb + 1, 0, none⟩ = some (.int .i64 o) ∧ W.cell? ⟨bb + 1, 1, none⟩ = some (.int .i64 f) ∧ bb + 2 ≤ W.heap.size ∧ bb ≤ W.heap.size ∧ W.cell? ⟨g60, 0, none⟩ = some (.int .i64 pn) ∧ W.cell? ⟨g60, 1, none⟩ = some (.int .i64 pd) ∧ W.cell? ⟨g360, 0, none⟩ = some (.int .i64 0) ∧ W.cell? ⟨g360, 1, none⟩ = some (.int .i64 0) ∧ W.cell? ⟨g390, 0, none⟩ = some (.int .i64 p) ∧ W.cell? ⟨g390, 1, none⟩ = some (.int .i64 q) := fun W hW => by
              obtain ⟨a0, a1, a2, a3, a4, a5, a6, a7, a8, a9, a10, a11, a12, a13, a14, a15⟩ := FA W (Free.Bel.trans _ _ _ (hB) hW)
              exact ⟨a0, a1, a2, a3, a4, a5, a6, a7, a8, a9, a10, a11, a12, a13, a14, a15⟩
            clear FA HB_w40 hz_w40 KR
            have FA := FN
            clear FN
            have KR : Free.Bel w41 w41 := Free.Bel.refl _
            clear hB
            rcases hl with rfl | ⟨hl1, hl2⟩
            · have k0 : decide ((0 : Int) ≤ -1) = false := rfl
              go_wp2_with fail
              go_roundw
              case rel => exact ⟨j + 1, by omega, by simp, by rw [HLS.out], rfl, HL_w41⟩
              case measure => have := HZ.out; simp [intOf]; omega
            · have k0 : decide (0 ≤ ls) = true := decide_eq_true hl1
              have k9 : decide (ls < m) = false := decide_eq_false (by omega)
              go_wp2_with fail
              go_roundw
              case rel => exact ⟨j + 1, by omega, by simp, by rw [HLS.out], rfl, HL_w41⟩
              case measure => have := HZ.out; simp [intOf]; omega
          · obtain rfl : j = (hi - lo + 1).toNat := by omega
            have hjm : ¬ (lo + (((hi - lo + 1).toNat : Nat) : Int) ≤ hi) := by omega
            have k0 : decide (lo + (((hi - lo + 1).toNat : Nat) : Int) ≤ hi) = false := decide_eq_false hjm
            by_cases hoN : o = N
            · have k0 : (o == N) = true := by simp [hoN]
              go_wp2_with fail
              go_ret
              have hbb := HBB.out
              subst hbb
              exact ⟨rfl, HB_wr.out⟩
            · have k0 : (o == N) = false := by simp [hoN]
              obtain ⟨D, HD2, hD⟩ := some_bounds lo hi x (by omega)
              have y1 : IntKind.i64.wrap (o + 1) = o + 1 := IntWalk.i64_in _ (by omega)
              obtain ⟨p, q, hpq⟩ : ∃ p q, mostV N D o 0 = i2 p q := ⟨_, _, rfl⟩
              obtain ⟨r, s, hrs⟩ : ∃ p q, mostV N D (o + 1) 0 = i2 p q := ⟨_, _, rfl⟩
              have ml := mostI_le N D o 0 (by omega) (by omega) (by omega) (by omega)
              have ml2 := mostI_le N D (o + 1) 0 (by omega) (by omega) (by omega) (by omega)
              have cp2 := chI_pos N (o + 1) (by omega) (by omega) (by omega) (by omega)
              have nl := none_lessI N D o (by omega) (by omega) (by omega)
              rw [HAL.out] at ml nl
              have hcp1 : 0 < al := by omega
              have hlow := lowest_le ml2 (by omega) ml hcp1 hrs (show partV (mostI N D o 0).toNat al.toNat = i2 p q by rw [← HAL.out]; exact hpq) nl
              have o1 := over_spec _ _ p q ml.1 ml.2 hcp1 (show partV (mostI N D o 0).toNat al.toNat = i2 p q by rw [← HAL.out]; exact hpq)
              have o2 := over_spec _ _ r s ml2.1 ml2.2 (by omega) hrs
              have HP := Lib.hid hpq
              have HP2 := Lib.hid hrs
              have HO := Lib.hid (show partV (mostI N D o 0).toNat al.toNat = .agg #[.int .i64 p, .int .i64 q] by rw [← HAL.out]; exact hpq)
              have HO2 := Lib.hid (show partV (mostI N D (o + 1) 0).toNat (chI N (o + 1)).toNat = .agg #[.int .i64 r, .int .i64 s] from hrs)
              obtain ⟨a2, ha2⟩ : ∃ x, chI N (o + 1) = x := ⟨_, rfl⟩
              obtain ⟨m1, hm1⟩ : ∃ x, mostI N D o 0 = x := ⟨_, rfl⟩
              obtain ⟨m2, hm2⟩ : ∃ x, mostI N D (o + 1) 0 = x := ⟨_, rfl⟩
              have HA2 := Lib.hid ha2
              rw [ha2, hm2] at ml2 HO2 o2
              rw [ha2] at cp2
              rw [hm1] at ml HO o1
              have HLW := Lib.hid (decide_eq_true hlow)
              clear hpq hrs nl hlow ha2 hm1 hm2
              go_wp2_with fail
              refine (some_v N lo hi x D _ ⟨hc.2.2.1, hc.2.2.2.1, Int.le_trans hc.2.2.2.2 hc.2.1⟩ hx HD2).mono ?_
              rintro e w42 ⟨rfl, hB⟩
              have HB_w42 := Lib.hid (HB_wr.out.trans ((hB).mono hz_wr))
              have hz_w42 : bb ≤ w42.heap.size := Nat.le_trans hz_wr (hB).size
              have HL_w42 : Free.Bel w38 w42 := Free.Bel.trans _ _ _ HL_wr (hB)
              clear HL_wr
              have HWR : Free.Bel wr w42 := Free.Bel.trans _ _ _ HWR (hB)
              have FN : ∀ W, Free.Bel w42 W → W.cell? ⟨0, 0, none⟩ = some (dblF 130) ∧ W.cell? ⟨0, 1, none⟩ = some (dblF 131) ∧ W.cell? ⟨0, 2, none⟩ = some (dblF 132) ∧ W.cell? ⟨bb, 0, none⟩ = some (.int .i64 N) ∧ W.cell? ⟨bb, 1, none⟩ = some (.int .i64 lo) ∧ W.cell? ⟨bb, 2, none⟩ = some (.int .i64 hi) ∧ W.cell? ⟨bb + 1, 0, none⟩ = some (.int .i64 o) ∧ W.cell? ⟨bb + 1, 1, none⟩ = some (.int .i64 f) ∧ bb + 2 ≤ W.heap.size ∧ bb ≤ W.heap.size ∧ W.cell? ⟨g60, 0, none⟩ = some (.int .i64 pn) ∧ W.cell? ⟨g60, 1, none⟩ = some (.int .i64 pd) ∧ W.cell? ⟨g360, 0, none⟩ = some (.int .i64 0) ∧ W.cell? ⟨g360, 1, none⟩ = some (.int .i64 0) := fun W hW => by
                obtain ⟨a0, a1, a2, a3, a4, a5, a6, a7, a8, a9, a10, a11, a12, a13⟩ := FA W (Free.Bel.trans _ _ _ (hB) hW)
                exact ⟨a0, a1, a2, a3, a4, a5, a6, a7, a8, a9, a10, a11, a12, a13⟩
              clear FA HB_wr hz_wr KR
              have FA := FN
              clear FN
              have KR : Free.Bel w42 w42 := Free.Bel.refl _
              clear hB
              go_wp2_with fail
              have hF : ∀ W, Below w42.heap.size w42.drew W → Free.Bel w42 W := fun W hW => (show Below w42.heap.size w42 W from ((Below.refl _ w42).drew).trans hW)
              refine Free2.wp_free (R := Below w42.heap.size) (J := LL w42.heap.size [⟨9, 10, (.cells #[.int .i64 0, .int .i64 0] 29), (.cells #[.int .i64 p, .int .i64 q] 29)⟩]) (by kernel_rfl) (by kernel_rfl) (Below.refl _) (fun _ _ _ => Below.trans) (LL.start (Nat.le_refl _)) ?_
              refine Free2.Chain.ex ?_ 0 rfl [] [5] (by kernel_rfl) (by kernel_rfl) rfl (Below.refl _) (fun X W v h => LL.skip h 0 v (by simp)) ?_ ?_
              rotate_left
              · (intro ev W hb hR hO hD; have hS := hF W hR; obtain ⟨hb1, hb2, hb3⟩ := hb; simp only [Free.AllDeps, Free.AllOuts, Free.At, List.getElem?_cons_succ, List.getElem?_cons_zero, Array.getD_eq_getD_getElem?, List.getElem?_toArray, Option.getD_some, and_true] at hO hD; go_simp; rfl)
              simp only [List.nil_append, List.cons_append]
              refine Free2.Chain.ex ?_ 1 rfl [] [25] (by kernel_rfl) (by kernel_rfl) rfl (Below.refl _) (fun X W v h => LL.skip h 1 v (by simp)) ?_ ?_
              rotate_left
              · (intro ev W hb hR hO hD; have hS := hF W hR; obtain ⟨hb1, hb2, hb3⟩ := hb; simp only [Free.AllDeps, Free.AllOuts, Free.At, List.getElem?_cons_succ, List.getElem?_cons_zero, Array.getD_eq_getD_getElem?, List.getElem?_toArray, Option.getD_some, and_true] at hO hD; go_simp; rfl)
              simp only [List.nil_append, List.cons_append]
              refine Free2.Chain.ex ?_ 2 rfl [] [6] (by kernel_rfl) (by kernel_rfl) rfl (Below.refl _) (fun X W v h => LL.skip h 2 v (by simp)) ?_ ?_
              rotate_left
              · (intro ev W hb hR hO hD; have hS := hF W hR; obtain ⟨hb1, hb2, hb3⟩ := hb; simp only [Free.AllDeps, Free.AllOuts, Free.At, List.getElem?_cons_succ, List.getElem?_cons_zero, Array.getD_eq_getD_getElem?, List.getElem?_toArray, Option.getD_some, and_true] at hO hD; go_simp; rfl)
              simp only [List.nil_append, List.cons_append]
              refine Free2.Chain.ex ?_ 3 rfl [(2, 196)] [] (by kernel_rfl) (by kernel_rfl) rfl (Below.refl _) (fun X W v h => LL.skip h 3 v (by simp)) ?_ ?_
              rotate_left
              · (intro ev W hb hR hO hD; have hS := hF W hR; obtain ⟨hb1, hb2, hb3⟩ := hb; simp only [Free.AllDeps, Free.AllOuts, Free.At, List.getElem?_cons_succ, List.getElem?_cons_zero, Array.getD_eq_getD_getElem?, List.getElem?_toArray, Option.getD_some, and_true] at hO hD; go_simp; rfl)
              simp only [List.nil_append, List.cons_append]
              refine Free2.Chain.pr (fun v _ => v = i2 o 0) 4 rfl [(3, 197)] [] (by kernel_rfl) (by kernel_rfl) rfl (fun _ _ _ _ h => h) ?_ ?_
              · (intro ev W X hb hR hO hD hj hx hax; have hS := hF W hR; obtain ⟨hb1, hb2, hb3⟩ := hb; simp only [Free.AllDeps, Free.AllOuts, Free.At, List.getElem?_cons_succ, List.getElem?_cons_zero, Array.getD_eq_getD_getElem?, List.getElem?_toArray, Option.getD_some, and_true] at hO hD; simp only [Free2.AllX, and_true] at hax; go_simp; refine yields_enter ?_; (with_reducible refine (drawn_any o 0 _).mono ?_); rintro e W2 ⟨rfl, hB2⟩; exact ⟨_, rfl, hB2.mono hj.size, rfl, (hj.bel hB2).skip 4 _ (by simp)⟩)
              simp only [List.nil_append, List.cons_append]
              refine Free2.Chain.pr (fun v _ => v = .tuple #[i2 p q, .int .i64 0]) 5 rfl [(0, 194), (1, 195), (4, 198), (4, 198)] [] (by kernel_rfl) (by kernel_rfl) rfl (fun _ _ _ _ h => h) ?_ ?_
              · (intro ev W X hb hR hO hD hj hx hax; have hS := hF W hR; obtain ⟨hb1, hb2, hb3⟩ := hb; simp only [Free.AllDeps, Free.AllOuts, Free.At, List.getElem?_cons_succ, List.getElem?_cons_zero, Array.getD_eq_getD_getElem?, List.getElem?_toArray, Option.getD_some, and_true] at hO hD; simp only [Free2.AllX, and_true] at hax; go_simp; refine yields_enter ?_; (with_reducible refine (atmost_ok N lo hi D o 0 p q _ hc (by omega) (by omega) HP).mono ?_); rintro e W2 ⟨rfl, hB2⟩; exact ⟨_, rfl, hB2.mono hj.size, rfl, (hj.bel hB2).skip 5 _ (by simp)⟩)
              simp only [List.nil_append, List.cons_append]
              refine Free2.Chain.ex ?_ 6 rfl [(5, 199)] [] (by kernel_rfl) (by kernel_rfl) rfl (Below.refl _) (fun X W v h => LL.skip h 6 v (by simp)) ?_ ?_
              rotate_left
              · (intro ev W hb hR hO hD; have hS := hF W hR; obtain ⟨hb1, hb2, hb3⟩ := hb; simp only [Free.AllDeps, Free.AllOuts, Free.At, List.getElem?_cons_succ, List.getElem?_cons_zero, Array.getD_eq_getD_getElem?, List.getElem?_toArray, Option.getD_some, and_true] at hO hD; go_simp; rfl)
              simp only [List.nil_append, List.cons_append]
              refine Free2.Chain.ex ?_ 7 rfl [(6, 193)] [] (by kernel_rfl) (by kernel_rfl) rfl (Below.refl _) (fun X W v h => LL.skip h 7 v (by simp)) ?_ ?_
              rotate_left
              · (intro ev W hb hR hO hD; have hS := hF W hR; obtain ⟨hb1, hb2, hb3⟩ := hb; simp only [Free.AllDeps, Free.AllOuts, Free.At, List.getElem?_cons_succ, List.getElem?_cons_zero, Array.getD_eq_getD_getElem?, List.getElem?_toArray, Option.getD_some, and_true] at hO hD; go_simp; rfl)
              simp only [List.nil_append, List.cons_append]
              refine Free2.Chain.ex ?_ 8 rfl [(6, 193)] [] (by kernel_rfl) (by kernel_rfl) rfl (Below.refl _) (fun X W v h => LL.skip h 8 v (by simp)) ?_ ?_
              rotate_left
              · (intro ev W hb hR hO hD; have hS := hF W hR; obtain ⟨hb1, hb2, hb3⟩ := hb; simp only [Free.AllDeps, Free.AllOuts, Free.At, List.getElem?_cons_succ, List.getElem?_cons_zero, Array.getD_eq_getD_getElem?, List.getElem?_toArray, Option.getD_some, and_true] at hO hD; go_simp; rfl)
              simp only [List.nil_append, List.cons_append]
              refine Free2.Chain.pr (fun v _ => ∃ b, v = ptr b) 9 rfl [] [] (by kernel_rfl) (by kernel_rfl) rfl (fun _ _ _ _ h => h) ?_ ?_
              · (intro ev W X hb hR hO hD hj hx hax; have hS := hF W hR; obtain ⟨hb1, hb2, hb3⟩ := hb; simp only [Free.AllDeps, Free.AllOuts, Free.At, List.getElem?_cons_succ, List.getElem?_cons_zero, Array.getD_eq_getD_getElem?, List.getElem?_toArray, Option.getD_some, and_true] at hO hD; simp only [Free2.AllX, and_true] at hax; go_simp; exact ⟨(Below.refl _ W).alloc hj.size _, ⟨_, rfl⟩, hj.new ⟨9, 10, (.cells #[.int .i64 0, .int .i64 0] 29), (.cells #[.int .i64 p, .int .i64 q] 29)⟩ (by simp) (by simp) hx⟩)
              simp only [List.nil_append, List.cons_append]
              refine Free2.Chain.pr (fun _ _ => True) 10 rfl [(9, 26), (7, 200), (5, 199), (0, 194), (1, 195), (2, 196), (3, 197), (4, 198), (5, 199), (6, 193), (7, 200), (9, 26)] [] (by kernel_rfl) (by kernel_rfl) rfl (fun _ _ _ _ h => h) ?_ ?_
              · (intro ev W X hb hR hO hD hj hx hax; have hS := hF W hR; obtain ⟨hb1, hb2, hb3⟩ := hb; simp only [Free.AllDeps, Free.AllOuts, Free.At, List.getElem?_cons_succ, List.getElem?_cons_zero, Array.getD_eq_getD_getElem?, List.getElem?_toArray, Option.getD_some, and_true] at hO hD; simp only [Free2.AllX, and_true] at hax; obtain ⟨b, hb9, hs0, hbl⟩ := hj.at_ ⟨9, 10, (.cells #[.int .i64 0, .int .i64 0] 29), (.cells #[.int .i64 p, .int .i64 q] 29)⟩ (by simp) hax.1 hx; have hX := hax.1; rw [hb9] at hX; have hp := hj.puts ⟨9, 10, (.cells #[.int .i64 0, .int .i64 0] 29), (.cells #[.int .i64 p, .int .i64 q] 29)⟩ (by simp) (by simp) hX hs0 hbl [(0, .int .i64 p), (1, .int .i64 q)] rfl; have q0 : W.cell? ⟨b, 0, none⟩ = some (.int .i64 0) := cell_of_heap (o := 0) hbl rfl; have q1 : W.cell? ⟨b, 1, none⟩ = some (.int .i64 0) := cell_of_heap (o := 1) hbl rfl; have p0 : ∀ o, W.frozen? ⟨b, o, none⟩ = false := fun o => frozen_of_heap (o := o) hbl; go_simp; exact ⟨(hp undef).1, (hp _).2⟩)
              simp only [List.nil_append, List.cons_append]
              refine Free2.Chain.ex ?_ 11 rfl [(8, 201), (0, 194), (1, 195), (2, 196), (3, 197), (4, 198), (5, 199), (6, 193), (7, 200), (8, 201), (9, 26)] [] (by kernel_rfl) (by kernel_rfl) rfl (Below.refl _) (fun X W v h => LL.skip h 11 v (by simp)) ?_ ?_
              rotate_left
              · (intro ev W hb hR hO hD; have hS := hF W hR; obtain ⟨hb1, hb2, hb3⟩ := hb; simp only [Free.AllDeps, Free.AllOuts, Free.At, List.getElem?_cons_succ, List.getElem?_cons_zero, Array.getD_eq_getD_getElem?, List.getElem?_toArray, Option.getD_some, and_true] at hO hD; go_simp; rfl)
              simp only [List.nil_append, List.cons_append]
              intro xs w43 hR hV hX
              obtain ⟨X, hj, hxx⟩ := hX
              obtain ⟨b25, hp_b25, hs_b25, hl_b25⟩ := hj.done ⟨9, 10, (.cells #[.int .i64 0, .int .i64 0] 29), (.cells #[.int .i64 p, .int .i64 q] 29)⟩ (by simp) (hxx 9 (show (9 : Nat) < 12 by decide)) (hxx 10 (show (10 : Nat) < 12 by decide))
              simp only [Free.AllV, Free.At, List.length_cons, List.length_nil, Nat.reduceAdd, List.getElem?_cons_succ, List.getElem?_cons_zero, true_and, and_true] at hV
              simp only [Free.putsFrom, Act.put, Nat.zero_add, Nat.reduceAdd, hV, hp_b25, List.setIfInBounds_toArray, List.set_cons_succ, List.set_cons_zero]
              have hN := hF w43 hR
              have HB_w43 := Lib.hid (HB_w42.out.trans ((hN).mono hz_w42))
              have hz_w43 : bb ≤ w43.heap.size := Nat.le_trans hz_w42 (hN).size
              have HL_w43 : Free.Bel w38 w43 := Free.Bel.trans _ _ _ HL_w42 (hN)
              clear HL_w42
              have HWR : Free.Bel wr w43 := Free.Bel.trans _ _ _ HWR (hN)
              have FN : ∀ W, Free.Bel w43 W → W.cell? ⟨0, 0, none⟩ = some (dblF 130) ∧ W.cell? ⟨0, 1, none⟩ = some (dblF 131) ∧ W.cell? ⟨0, 2, none⟩ = some (dblF 132) ∧ W.cell? ⟨bb, 0, none⟩ = some (.int .i64 N) ∧ W.cell? ⟨bb, 1, none⟩ = some (.int .i64 lo) ∧ W.cell? ⟨bb, 2, none⟩ = some (.int .i64 hi) ∧ W.cell? ⟨bb + 1, 0, none⟩ = some (.int .i64 o) ∧ W.cell? ⟨bb + 1, 1, none⟩ = some (.int .i64 f) ∧ bb + 2 ≤ W.heap.size ∧ bb ≤ W.heap.size ∧ W.cell? ⟨g60, 0, none⟩ = some (.int .i64 pn) ∧ W.cell? ⟨g60, 1, none⟩ = some (.int .i64 pd) ∧ W.cell? ⟨g360, 0, none⟩ = some (.int .i64 0) ∧ W.cell? ⟨g360, 1, none⟩ = some (.int .i64 0) ∧ W.cell? ⟨b25, 0, none⟩ = some (.int .i64 p) ∧ W.cell? ⟨b25, 1, none⟩ = some (.int .i64 q) := fun W hW => by
                obtain ⟨a0, a1, a2, a3, a4, a5, a6, a7, a8, a9, a10, a11, a12, a13⟩ := FA W (Free.Bel.trans _ _ _ (hN) hW)
                exact ⟨a0, a1, a2, a3, a4, a5, a6, a7, a8, a9, a10, a11, a12, a13, keepsB hW (cell_of_heap (o := 0) hl_b25 rfl), keepsB hW (cell_of_heap (o := 1) hl_b25 rfl)⟩
              clear FA HB_w42 hz_w42 KR
              have FA := FN
              clear FN
              have KR : Free.Bel w43 w43 := Free.Bel.refl _
              clear hR hF hj hxx hV hN hp_b25 hs_b25 hl_b25
              go_wp2_with fail
              have hF : ∀ W, Below w43.heap.size w43.drew W → Free.Bel w43 W := fun W hW => (show Below w43.heap.size w43 W from ((Below.refl _ w43).drew).trans hW)
              refine Free2.wp_free (R := Below w43.heap.size) (J := LL w43.heap.size [⟨10, 11, (.cells #[.int .i64 0, .int .i64 0] 29), (.cells #[.int .i64 r, .int .i64 s] 29)⟩]) (by kernel_rfl) (by kernel_rfl) (Below.refl _) (fun _ _ _ => Below.trans) (LL.start (Nat.le_refl _)) ?_
              refine Free2.Chain.ex ?_ 0 rfl [] [5] (by kernel_rfl) (by kernel_rfl) rfl (Below.refl _) (fun X W v h => LL.skip h 0 v (by simp)) ?_ ?_
              rotate_left
              · (intro ev W hb hR hO hD; have hS := hF W hR; obtain ⟨hb1, hb2, hb3⟩ := hb; simp only [Free.AllDeps, Free.AllOuts, Free.At, List.getElem?_cons_succ, List.getElem?_cons_zero, Array.getD_eq_getD_getElem?, List.getElem?_toArray, Option.getD_some, and_true] at hO hD; go_simp; rfl)
              simp only [List.nil_append, List.cons_append]
              refine Free2.Chain.ex ?_ 1 rfl [] [25] (by kernel_rfl) (by kernel_rfl) rfl (Below.refl _) (fun X W v h => LL.skip h 1 v (by simp)) ?_ ?_
              rotate_left
              · (intro ev W hb hR hO hD; have hS := hF W hR; obtain ⟨hb1, hb2, hb3⟩ := hb; simp only [Free.AllDeps, Free.AllOuts, Free.At, List.getElem?_cons_succ, List.getElem?_cons_zero, Array.getD_eq_getD_getElem?, List.getElem?_toArray, Option.getD_some, and_true] at hO hD; go_simp; rfl)
              simp only [List.nil_append, List.cons_append]
              refine Free2.Chain.ex ?_ 2 rfl [] [6] (by kernel_rfl) (by kernel_rfl) rfl (Below.refl _) (fun X W v h => LL.skip h 2 v (by simp)) ?_ ?_
              rotate_left
              · (intro ev W hb hR hO hD; have hS := hF W hR; obtain ⟨hb1, hb2, hb3⟩ := hb; simp only [Free.AllDeps, Free.AllOuts, Free.At, List.getElem?_cons_succ, List.getElem?_cons_zero, Array.getD_eq_getD_getElem?, List.getElem?_toArray, Option.getD_some, and_true] at hO hD; go_simp; rfl)
              simp only [List.nil_append, List.cons_append]
              refine Free2.Chain.ex ?_ 3 rfl [(2, 205)] [] (by kernel_rfl) (by kernel_rfl) rfl (Below.refl _) (fun X W v h => LL.skip h 3 v (by simp)) ?_ ?_
              rotate_left
              · (intro ev W hb hR hO hD; have hS := hF W hR; obtain ⟨hb1, hb2, hb3⟩ := hb; simp only [Free.AllDeps, Free.AllOuts, Free.At, List.getElem?_cons_succ, List.getElem?_cons_zero, Array.getD_eq_getD_getElem?, List.getElem?_toArray, Option.getD_some, and_true] at hO hD; go_simp; rfl)
              simp only [List.nil_append, List.cons_append]
              refine Free2.Chain.ex ?_ 4 rfl [(3, 206)] [] (by kernel_rfl) (by kernel_rfl) rfl (Below.refl _) (fun X W v h => LL.skip h 4 v (by simp)) ?_ ?_
              rotate_left
              · (intro ev W hb hR hO hD; have hS := hF W hR; obtain ⟨hb1, hb2, hb3⟩ := hb; simp only [Free.AllDeps, Free.AllOuts, Free.At, List.getElem?_cons_succ, List.getElem?_cons_zero, Array.getD_eq_getD_getElem?, List.getElem?_toArray, Option.getD_some, and_true] at hO hD; go_simp; rfl)
              simp only [List.nil_append, List.cons_append]
              refine Free2.Chain.pr (fun v _ => v = i2 (o + 1) 0) 5 rfl [(4, 207)] [] (by kernel_rfl) (by kernel_rfl) rfl (fun _ _ _ _ h => h) ?_ ?_
              · (intro ev W X hb hR hO hD hj hx hax; have hS := hF W hR; obtain ⟨hb1, hb2, hb3⟩ := hb; simp only [Free.AllDeps, Free.AllOuts, Free.At, List.getElem?_cons_succ, List.getElem?_cons_zero, Array.getD_eq_getD_getElem?, List.getElem?_toArray, Option.getD_some, and_true] at hO hD; simp only [Free2.AllX, and_true] at hax; go_simp; refine yields_enter ?_; (with_reducible refine (drawn_any (o + 1) 0 _).mono ?_); rintro e W2 ⟨rfl, hB2⟩; exact ⟨_, rfl, hB2.mono hj.size, rfl, (hj.bel hB2).skip 5 _ (by simp)⟩)
              simp only [List.nil_append, List.cons_append]
              refine Free2.Chain.pr (fun v _ => v = .tuple #[i2 r s, .int .i64 0]) 6 rfl [(0, 203), (1, 204), (5, 208), (5, 208)] [] (by kernel_rfl) (by kernel_rfl) rfl (fun _ _ _ _ h => h) ?_ ?_
              · (intro ev W X hb hR hO hD hj hx hax; have hS := hF W hR; obtain ⟨hb1, hb2, hb3⟩ := hb; simp only [Free.AllDeps, Free.AllOuts, Free.At, List.getElem?_cons_succ, List.getElem?_cons_zero, Array.getD_eq_getD_getElem?, List.getElem?_toArray, Option.getD_some, and_true] at hO hD; simp only [Free2.AllX, and_true] at hax; go_simp; refine yields_enter ?_; (with_reducible refine (atmost_ok N lo hi D (o + 1) 0 r s _ hc (by omega) (by omega) HP2).mono ?_); rintro e W2 ⟨rfl, hB2⟩; exact ⟨_, rfl, hB2.mono hj.size, rfl, (hj.bel hB2).skip 6 _ (by simp)⟩)
              simp only [List.nil_append, List.cons_append]
              refine Free2.Chain.ex ?_ 7 rfl [(6, 209)] [] (by kernel_rfl) (by kernel_rfl) rfl (Below.refl _) (fun X W v h => LL.skip h 7 v (by simp)) ?_ ?_
              rotate_left
              · (intro ev W hb hR hO hD; have hS := hF W hR; obtain ⟨hb1, hb2, hb3⟩ := hb; simp only [Free.AllDeps, Free.AllOuts, Free.At, List.getElem?_cons_succ, List.getElem?_cons_zero, Array.getD_eq_getD_getElem?, List.getElem?_toArray, Option.getD_some, and_true] at hO hD; go_simp; rfl)
              simp only [List.nil_append, List.cons_append]
              refine Free2.Chain.ex ?_ 8 rfl [(7, 202)] [] (by kernel_rfl) (by kernel_rfl) rfl (Below.refl _) (fun X W v h => LL.skip h 8 v (by simp)) ?_ ?_
              rotate_left
              · (intro ev W hb hR hO hD; have hS := hF W hR; obtain ⟨hb1, hb2, hb3⟩ := hb; simp only [Free.AllDeps, Free.AllOuts, Free.At, List.getElem?_cons_succ, List.getElem?_cons_zero, Array.getD_eq_getD_getElem?, List.getElem?_toArray, Option.getD_some, and_true] at hO hD; go_simp; rfl)
              simp only [List.nil_append, List.cons_append]
              refine Free2.Chain.ex ?_ 9 rfl [(7, 202)] [] (by kernel_rfl) (by kernel_rfl) rfl (Below.refl _) (fun X W v h => LL.skip h 9 v (by simp)) ?_ ?_
              rotate_left
              · (intro ev W hb hR hO hD; have hS := hF W hR; obtain ⟨hb1, hb2, hb3⟩ := hb; simp only [Free.AllDeps, Free.AllOuts, Free.At, List.getElem?_cons_succ, List.getElem?_cons_zero, Array.getD_eq_getD_getElem?, List.getElem?_toArray, Option.getD_some, and_true] at hO hD; go_simp; rfl)
              simp only [List.nil_append, List.cons_append]
              refine Free2.Chain.pr (fun v _ => ∃ b, v = ptr b) 10 rfl [] [] (by kernel_rfl) (by kernel_rfl) rfl (fun _ _ _ _ h => h) ?_ ?_
              · (intro ev W X hb hR hO hD hj hx hax; have hS := hF W hR; obtain ⟨hb1, hb2, hb3⟩ := hb; simp only [Free.AllDeps, Free.AllOuts, Free.At, List.getElem?_cons_succ, List.getElem?_cons_zero, Array.getD_eq_getD_getElem?, List.getElem?_toArray, Option.getD_some, and_true] at hO hD; simp only [Free2.AllX, and_true] at hax; go_simp; exact ⟨(Below.refl _ W).alloc hj.size _, ⟨_, rfl⟩, hj.new ⟨10, 11, (.cells #[.int .i64 0, .int .i64 0] 29), (.cells #[.int .i64 r, .int .i64 s] 29)⟩ (by simp) (by simp) hx⟩)
              simp only [List.nil_append, List.cons_append]
              refine Free2.Chain.pr (fun _ _ => True) 11 rfl [(10, 28), (8, 210), (6, 209), (0, 203), (1, 204), (2, 205), (3, 206), (4, 207), (5, 208), (6, 209), (7, 202), (8, 210), (10, 28)] [] (by kernel_rfl) (by kernel_rfl) rfl (fun _ _ _ _ h => h) ?_ ?_
              · (intro ev W X hb hR hO hD hj hx hax; have hS := hF W hR; obtain ⟨hb1, hb2, hb3⟩ := hb; simp only [Free.AllDeps, Free.AllOuts, Free.At, List.getElem?_cons_succ, List.getElem?_cons_zero, Array.getD_eq_getD_getElem?, List.getElem?_toArray, Option.getD_some, and_true] at hO hD; simp only [Free2.AllX, and_true] at hax; obtain ⟨b, hb9, hs0, hbl⟩ := hj.at_ ⟨10, 11, (.cells #[.int .i64 0, .int .i64 0] 29), (.cells #[.int .i64 r, .int .i64 s] 29)⟩ (by simp) hax.1 hx; have hX := hax.1; rw [hb9] at hX; have hp := hj.puts ⟨10, 11, (.cells #[.int .i64 0, .int .i64 0] 29), (.cells #[.int .i64 r, .int .i64 s] 29)⟩ (by simp) (by simp) hX hs0 hbl [(0, .int .i64 r), (1, .int .i64 s)] rfl; have q0 : W.cell? ⟨b, 0, none⟩ = some (.int .i64 0) := cell_of_heap (o := 0) hbl rfl; have q1 : W.cell? ⟨b, 1, none⟩ = some (.int .i64 0) := cell_of_heap (o := 1) hbl rfl; have p0 : ∀ o, W.frozen? ⟨b, o, none⟩ = false := fun o => frozen_of_heap (o := o) hbl; go_simp; exact ⟨(hp undef).1, (hp _).2⟩)
              simp only [List.nil_append, List.cons_append]
              refine Free2.Chain.ex ?_ 12 rfl [(9, 211), (0, 203), (1, 204), (2, 205), (3, 206), (4, 207), (5, 208), (6, 209), (7, 202), (8, 210), (9, 211), (10, 28)] [] (by kernel_rfl) (by kernel_rfl) rfl (Below.refl _) (fun X W v h => LL.skip h 12 v (by simp)) ?_ ?_
              rotate_left
              · (intro ev W hb hR hO hD; have hS := hF W hR; obtain ⟨hb1, hb2, hb3⟩ := hb; simp only [Free.AllDeps, Free.AllOuts, Free.At, List.getElem?_cons_succ, List.getElem?_cons_zero, Array.getD_eq_getD_getElem?, List.getElem?_toArray, Option.getD_some, and_true] at hO hD; go_simp; rfl)
              simp only [List.nil_append, List.cons_append]
              intro xs w44 hR hV hX
              obtain ⟨X, hj, hxx⟩ := hX
              obtain ⟨b26, hp_b26, hs_b26, hl_b26⟩ := hj.done ⟨10, 11, (.cells #[.int .i64 0, .int .i64 0] 29), (.cells #[.int .i64 r, .int .i64 s] 29)⟩ (by simp) (hxx 10 (show (10 : Nat) < 13 by decide)) (hxx 11 (show (11 : Nat) < 13 by decide))
              simp only [Free.AllV, Free.At, List.length_cons, List.length_nil, Nat.reduceAdd, List.getElem?_cons_succ, List.getElem?_cons_zero, true_and, and_true] at hV
              simp only [Free.putsFrom, Act.put, Nat.zero_add, Nat.reduceAdd, hV, hp_b26, List.setIfInBounds_toArray, List.set_cons_succ, List.set_cons_zero]
              have hN := hF w44 hR
              have HB_w44 := Lib.hid (HB_w43.out.trans ((hN).mono hz_w43))
              have hz_w44 : bb ≤ w44.heap.size := Nat.le_trans hz_w43 (hN).size
              have HL_w44 : Free.Bel w38 w44 := Free.Bel.trans _ _ _ HL_w43 (hN)
              clear HL_w43
              have HWR : Free.Bel wr w44 := Free.Bel.trans _ _ _ HWR (hN)
              have FN : ∀ W, Free.Bel w44 W → W.cell? ⟨0, 0, none⟩ = some (dblF 130) ∧ W.cell? ⟨0, 1, none⟩ = some (dblF 131) ∧ W.cell? ⟨0, 2, none⟩ = some (dblF 132) ∧ W.cell? ⟨bb, 0, none⟩ = some (.int .i64 N) ∧ W.cell? ⟨bb, 1, none⟩ = some (.int .i64 lo) ∧ W.cell? ⟨bb, 2, none⟩ = some (.int .i64 hi) ∧ W.cell? ⟨bb + 1, 0, none⟩ = some (.int .i64 o) ∧ W.cell? ⟨bb + 1, 1, none⟩ = some (.int .i64 f) ∧ bb + 2 ≤ W.heap.size ∧ bb ≤ W.heap.size ∧ W.cell? ⟨g60, 0, none⟩ = some (.int .i64 pn) ∧ W.cell? ⟨g60, 1, none⟩ = some (.int .i64 pd) ∧ W.cell? ⟨g360, 0, none⟩ = some (.int .i64 0) ∧ W.cell? ⟨g360, 1, none⟩ = some (.int .i64 0) ∧ W.cell? ⟨b25, 0, none⟩ = some (.int .i64 p) ∧ W.cell? ⟨b25, 1, none⟩ = some (.int .i64 q) ∧ W.cell? ⟨b26, 0, none⟩ = some (.int .i64 r) ∧ W.cell? ⟨b26, 1, none⟩ = some (.int .i64 s) := fun W hW => by
                obtain ⟨a0, a1, a2, a3, a4, a5, a6, a7, a8, a9, a10, a11, a12, a13, a14, a15⟩ := FA W (Free.Bel.trans _ _ _ (hN) hW)
                exact ⟨a0, a1, a2, a3, a4, a5, a6, a7, a8, a9, a10, a11, a12, a13, a14, a15, keepsB hW (cell_of_heap (o := 0) hl_b26 rfl), keepsB hW (cell_of_heap (o := 1) hl_b26 rfl)⟩
              clear FA HB_w43 hz_w43 KR
              have FA := FN
              clear FN
              have KR : Free.Bel w44 w44 := Free.Bel.refl _
              clear hR hF hj hxx hV hN hp_b26 hs_b26 hl_b26
              go_wp2_with fail
              refine (over_any m1 al p q _ (by omega) (by omega) (by omega) (by omega) HO).mono ?_
              rintro e w45 ⟨rfl, hB⟩
              have HB_w45 := Lib.hid (HB_w44.out.trans ((hB).mono hz_w44))
              have hz_w45 : bb ≤ w45.heap.size := Nat.le_trans hz_w44 (hB).size
              have HL_w45 : Free.Bel w38 w45 := Free.Bel.trans _ _ _ HL_w44 (hB)
              clear HL_w44
              have HWR : Free.Bel wr w45 := Free.Bel.trans _ _ _ HWR (hB)
              have FN : ∀ W, Free.Bel w45 W → W.cell? ⟨0, 0, none⟩ = some (dblF 130) ∧ W.cell? ⟨0, 1, none⟩ = some (dblF 131) ∧ W.cell? ⟨0, 2, none⟩ = some (dblF 132) ∧ W.cell? ⟨bb, 0, none⟩ = some (.int .i64 N) ∧ W.cell? ⟨bb, 1, none⟩ = some (.int .i64 lo) ∧ W.cell? ⟨bb, 2, none⟩ = some (.int .i64 hi) ∧ W.cell? ⟨bb + 1, 0, none⟩ = some (.int .i64 o) ∧ W.cell? ⟨bb + 1, 1, none⟩ = some (.int .i64 f) ∧ bb + 2 ≤ W.heap.size ∧ bb ≤ W.heap.size ∧ W.cell? ⟨g60, 0, none⟩ = some (.int .i64 pn) ∧ W.cell? ⟨g60, 1, none⟩ = some (.int .i64 pd) ∧ W.cell? ⟨g360, 0, none⟩ = some (.int .i64 0) ∧ W.cell? ⟨g360, 1, none⟩ = some (.int .i64 0) ∧ W.cell? ⟨b25, 0, none⟩ = some (.int .i64 p) ∧ W.cell? ⟨b25, 1, none⟩ = some (.int .i64 q) ∧ W.cell? ⟨b26, 0, none⟩ = some (.int .i64 r) ∧ W.cell? ⟨b26, 1, none⟩ = some (.int .i64 s) := fun W hW => by
                obtain ⟨a0, a1, a2, a3, a4, a5, a6, a7, a8, a9, a10, a11, a12, a13, a14, a15, a16, a17⟩ := FA W (Free.Bel.trans _ _ _ (hB) hW)
                exact ⟨a0, a1, a2, a3, a4, a5, a6, a7, a8, a9, a10, a11, a12, a13, a14, a15, a16, a17⟩
              clear FA HB_w44 hz_w44 KR
              have FA := FN
              clear FN
              have KR : Free.Bel w45 w45 := Free.Bel.refl _
              clear hB
              go_wp2_with fail
              refine (choose_any N (o + 1) _ (by omega) (by omega) (by omega)).mono ?_
              rintro e _ ⟨rfl, rfl⟩
              rw [HA2.out]
              go_wp2_with fail
              refine (over_any m2 a2 r s _ (by omega) (by omega) (by omega) (by omega) HO2).mono ?_
              rintro e w46 ⟨rfl, hB⟩
              have HB_w46 := Lib.hid (HB_w45.out.trans ((hB).mono hz_w45))
              have hz_w46 : bb ≤ w46.heap.size := Nat.le_trans hz_w45 (hB).size
              have HL_w46 : Free.Bel w38 w46 := Free.Bel.trans _ _ _ HL_w45 (hB)
              clear HL_w45
              have HWR : Free.Bel wr w46 := Free.Bel.trans _ _ _ HWR (hB)
              have FN : ∀ W, Free.Bel w46 W → W.cell? ⟨0, 0, none⟩ = some (dblF 130) ∧ W.cell? ⟨0, 1, none⟩ = some (dblF 131) ∧ W.cell? ⟨0, 2, none⟩ = some (dblF 132) ∧ W.cell? ⟨bb, 0, none⟩ = some (.int .i64 N) ∧ W.cell? ⟨bb, 1, none⟩ = some (.int .i64 lo) ∧ W.cell? ⟨bb, 2, none⟩ = some (.int .i64 hi) ∧ W.cell? ⟨bb + 1, 0, none⟩ = some (.int .i64 o) ∧ W.cell? ⟨bb + 1, 1, none⟩ = some (.int .i64 f) ∧ bb + 2 ≤ W.heap.size ∧ bb ≤ W.heap.size ∧ W.cell? ⟨g60, 0, none⟩ = some (.int .i64 pn) ∧ W.cell? ⟨g60, 1, none⟩ = some (.int .i64 pd) ∧ W.cell? ⟨g360, 0, none⟩ = some (.int .i64 0) ∧ W.cell? ⟨g360, 1, none⟩ = some (.int .i64 0) ∧ W.cell? ⟨b25, 0, none⟩ = some (.int .i64 p) ∧ W.cell? ⟨b25, 1, none⟩ = some (.int .i64 q) ∧ W.cell? ⟨b26, 0, none⟩ = some (.int .i64 r) ∧ W.cell? ⟨b26, 1, none⟩ = some (.int .i64 s) := fun W hW => by
                obtain ⟨a0, a1, a2, a3, a4, a5, a6, a7, a8, a9, a10, a11, a12, a13, a14, a15, a16, a17⟩ := FA W (Free.Bel.trans _ _ _ (hB) hW)
                exact ⟨a0, a1, a2, a3, a4, a5, a6, a7, a8, a9, a10, a11, a12, a13, a14, a15, a16, a17⟩
              clear FA HB_w45 hz_w45 KR
              have FA := FN
              clear FN
              have KR : Free.Bel w46 w46 := Free.Bel.refl _
              clear hB
              go_wp2_with fail
              refine (least_int m2 a2 (by omega) (by omega) (by omega) (by omega) _ HO2.out _).mono ?_
              rintro e w47 ⟨rfl, hB⟩
              have HB_w47 := Lib.hid (HB_w46.out.trans ((hB).mono hz_w46))
              have hz_w47 : bb ≤ w47.heap.size := Nat.le_trans hz_w46 (hB).size
              have HL_w47 : Free.Bel w38 w47 := Free.Bel.trans _ _ _ HL_w46 (hB)
              clear HL_w46
              have HWR : Free.Bel wr w47 := Free.Bel.trans _ _ _ HWR (hB)
              have FN : ∀ W, Free.Bel w47 W → W.cell? ⟨0, 0, none⟩ = some (dblF 130) ∧ W.cell? ⟨0, 1, none⟩ = some (dblF 131) ∧ W.cell? ⟨0, 2, none⟩ = some (dblF 132) ∧ W.cell? ⟨bb, 0, none⟩ = some (.int .i64 N) ∧ W.cell? ⟨bb, 1, none⟩ = some (.int .i64 lo) ∧ W.cell? ⟨bb, 2, none⟩ = some (.int .i64 hi) ∧ W.cell? ⟨bb + 1, 0, none⟩ = some (.int .i64 o) ∧ W.cell? ⟨bb + 1, 1, none⟩ = some (.int .i64 f) ∧ bb + 2 ≤ W.heap.size ∧ bb ≤ W.heap.size ∧ W.cell? ⟨g60, 0, none⟩ = some (.int .i64 pn) ∧ W.cell? ⟨g60, 1, none⟩ = some (.int .i64 pd) ∧ W.cell? ⟨g360, 0, none⟩ = some (.int .i64 0) ∧ W.cell? ⟨g360, 1, none⟩ = some (.int .i64 0) ∧ W.cell? ⟨b25, 0, none⟩ = some (.int .i64 p) ∧ W.cell? ⟨b25, 1, none⟩ = some (.int .i64 q) ∧ W.cell? ⟨b26, 0, none⟩ = some (.int .i64 r) ∧ W.cell? ⟨b26, 1, none⟩ = some (.int .i64 s) := fun W hW => by
                obtain ⟨a0, a1, a2, a3, a4, a5, a6, a7, a8, a9, a10, a11, a12, a13, a14, a15, a16, a17⟩ := FA W (Free.Bel.trans _ _ _ (hB) hW)
                exact ⟨a0, a1, a2, a3, a4, a5, a6, a7, a8, a9, a10, a11, a12, a13, a14, a15, a16, a17⟩
              clear FA HB_w46 hz_w46 KR
              have FA := FN
              clear FN
              have KR : Free.Bel w47 w47 := Free.Bel.refl _
              clear hB
              go_wp2_with fail
              refine (least_int m1 al (by omega) (by omega) (by omega) (by omega) _ HO.out _).mono ?_
              rintro e w48 ⟨rfl, hB⟩
              have HB_w48 := Lib.hid (HB_w47.out.trans ((hB).mono hz_w47))
              have hz_w48 : bb ≤ w48.heap.size := Nat.le_trans hz_w47 (hB).size
              have HL_w48 : Free.Bel w38 w48 := Free.Bel.trans _ _ _ HL_w47 (hB)
              clear HL_w47
              have HWR : Free.Bel wr w48 := Free.Bel.trans _ _ _ HWR (hB)
              have FN : ∀ W, Free.Bel w48 W → W.cell? ⟨0, 0, none⟩ = some (dblF 130) ∧ W.cell? ⟨0, 1, none⟩ = some (dblF 131) ∧ W.cell? ⟨0, 2, none⟩ = some (dblF 132) ∧ W.cell? ⟨bb, 0, none⟩ = some (.int .i64 N) ∧ W.cell? ⟨bb, 1, none⟩ = some (.int .i64 lo) ∧ W.cell? ⟨bb, 2, none⟩ = some (.int .i64 hi) ∧ W.cell? ⟨bb + 1, 0, none⟩ = some (.int .i64 o) ∧ W.cell? ⟨bb + 1, 1, none⟩ = some (.int .i64 f) ∧ bb + 2 ≤ W.heap.size ∧ bb ≤ W.heap.size ∧ W.cell? ⟨g60, 0, none⟩ = some (.int .i64 pn) ∧ W.cell? ⟨g60, 1, none⟩ = some (.int .i64 pd) ∧ W.cell? ⟨g360, 0, none⟩ = some (.int .i64 0) ∧ W.cell? ⟨g360, 1, none⟩ = some (.int .i64 0) ∧ W.cell? ⟨b25, 0, none⟩ = some (.int .i64 p) ∧ W.cell? ⟨b25, 1, none⟩ = some (.int .i64 q) ∧ W.cell? ⟨b26, 0, none⟩ = some (.int .i64 r) ∧ W.cell? ⟨b26, 1, none⟩ = some (.int .i64 s) := fun W hW => by
                obtain ⟨a0, a1, a2, a3, a4, a5, a6, a7, a8, a9, a10, a11, a12, a13, a14, a15, a16, a17⟩ := FA W (Free.Bel.trans _ _ _ (hB) hW)
                exact ⟨a0, a1, a2, a3, a4, a5, a6, a7, a8, a9, a10, a11, a12, a13, a14, a15, a16, a17⟩
              clear FA HB_w47 hz_w47 KR
              have FA := FN
              clear FN
              have KR : Free.Bel w48 w48 := Free.Bel.refl _
              clear hB
              go_wp2_with fail
              refine (atMostL_any r s p q _ (by omega) (by omega) (by omega) (by omega)).mono ?_
              rintro e w49 ⟨rfl, hB⟩
              have HB_w49 := Lib.hid (HB_w48.out.trans ((hB).mono hz_w48))
              have hz_w49 : bb ≤ w49.heap.size := Nat.le_trans hz_w48 (hB).size
              have HL_w49 : Free.Bel w38 w49 := Free.Bel.trans _ _ _ HL_w48 (hB)
              clear HL_w48
              have HWR : Free.Bel wr w49 := Free.Bel.trans _ _ _ HWR (hB)
              have FN : ∀ W, Free.Bel w49 W → W.cell? ⟨0, 0, none⟩ = some (dblF 130) ∧ W.cell? ⟨0, 1, none⟩ = some (dblF 131) ∧ W.cell? ⟨0, 2, none⟩ = some (dblF 132) ∧ W.cell? ⟨bb, 0, none⟩ = some (.int .i64 N) ∧ W.cell? ⟨bb, 1, none⟩ = some (.int .i64 lo) ∧ W.cell? ⟨bb, 2, none⟩ = some (.int .i64 hi) ∧ W.cell? ⟨bb + 1, 0, none⟩ = some (.int .i64 o) ∧ W.cell? ⟨bb + 1, 1, none⟩ = some (.int .i64 f) ∧ bb + 2 ≤ W.heap.size ∧ bb ≤ W.heap.size ∧ W.cell? ⟨g60, 0, none⟩ = some (.int .i64 pn) ∧ W.cell? ⟨g60, 1, none⟩ = some (.int .i64 pd) ∧ W.cell? ⟨g360, 0, none⟩ = some (.int .i64 0) ∧ W.cell? ⟨g360, 1, none⟩ = some (.int .i64 0) ∧ W.cell? ⟨b25, 0, none⟩ = some (.int .i64 p) ∧ W.cell? ⟨b25, 1, none⟩ = some (.int .i64 q) ∧ W.cell? ⟨b26, 0, none⟩ = some (.int .i64 r) ∧ W.cell? ⟨b26, 1, none⟩ = some (.int .i64 s) := fun W hW => by
                obtain ⟨a0, a1, a2, a3, a4, a5, a6, a7, a8, a9, a10, a11, a12, a13, a14, a15, a16, a17⟩ := FA W (Free.Bel.trans _ _ _ (hB) hW)
                exact ⟨a0, a1, a2, a3, a4, a5, a6, a7, a8, a9, a10, a11, a12, a13, a14, a15, a16, a17⟩
              clear FA HB_w48 hz_w48 KR
              have FA := FN
              clear FN
              have KR : Free.Bel w49 w49 := Free.Bel.refl _
              clear hB
              rw [HLW.out]
              go_wp2_with fail
              go_ret
              have hbb := HBB.out
              subst hbb
              exact ⟨rfl, HB_w49.out⟩
end Go.Proofs.YtdiclofeggkjcaaDoor

/- For every input the law SampleMore returns true, and its arguments read behind the call as they read before; what a double rule is asked lies in the table as the program's text lays it (tied). Condition: that table. -/
namespace Go.Proofs.YtdiclofeggkjcaaDoor.lawSampleMore
open Go Go.ChangeShapes Go.WideShapes Go.ChangeAt Go.RowKit
set_option linter.unusedVariables false
set_option linter.unusedSimpArgs false

set_option maxRecDepth 100000 in
theorem contract (H : Type) (enc : TypeId × Value → H) (W : World) (base : Nat) (args : Array Value) (ds gs : List (DataW H)) (before : List MemPlace)
    (hval : ∀ (j : Nat) t v, Tryd.f4.params[j]? = some t → args[j]? = some v → Value.okWide Tryd.prog W .any base t v)
    (hW : DataW.Whole enc Tryd.prog Tryd.f4.params.toList Rows.sampleMoreSpec.vars false W args.toList ds gs before) (hL : laidMetH Tryd.prog Rows.sampleMoreRow.laid W) :
    Calls Tryd.prog 4 args W fun e W' => ∃ v, e = .returned v ∧ Rows.sampleMoreSpec.post enc Tryd.prog Tryd.f4 false true false false W args v W' := by
  have hW' := hW
  obtain ⟨p, q, hA0, hV, rfl, hfz, hnd⟩ := hW
  have hA : DataW.TrodAll enc Tryd.prog W 0 (fun _ => true) true Tryd.f4.params.toList args.toList ds p := hA0
  have hAk := hA
  rw [Tryd.params4] at hA hval
  obtain ⟨v0, vs0, d0, ds0, p0, q0, hargs, rfl, rfl, h0, r0⟩ := trodAll_cons hA
  obtain ⟨v1, vs1, d1, ds1, p1, q1, rfl, rfl, rfl, h1, r1⟩ := trodAll_cons r0
  obtain ⟨v2, vs2, d2, ds2, p2, q2, rfl, rfl, rfl, h2, r2⟩ := trodAll_cons r1
  obtain ⟨v3, vs3, d3, ds3, p3, q3, rfl, rfl, rfl, h3, r3⟩ := trodAll_cons r2
  obtain ⟨v4, vs4, d4, ds4, p4, q4, rfl, rfl, rfl, h4, r4⟩ := trodAll_cons r3
  obtain ⟨rfl, rfl, rfl⟩ := trodAll_nil r4
  obtain rfl : args = #[v0, v1, v2, v3, v4] := by cases args; simp_all
  obtain ⟨rfl, rfl⟩ := trodVars_none hV
  have hlt : ∀ x ∈ p0 ++ (p1 ++ (p2 ++ (p3 ++ (p4 ++ ([]))))), x.block < W.heap.size := fun x hx => by
    have := hW'.lt x (by simpa using hx)
    simpa using this
  obtain ⟨N, lo, hi, rfl⟩ := Law.shape12 Tryd.underlying26 (by kernel_rfl) Tryd.underlying3 rfl (by kernel_rfl) rfl (by kernel_rfl) Tryd.underlying24 Tryd.underlying3 Tryd.underlying3 rfl rfl (by kernel_rfl) (by kernel_rfl) (hval 0 26 _ rfl rfl) h0
  obtain ⟨o, f, rfl⟩ := Law.shape2 Tryd.underlying34 (by kernel_rfl) (by kernel_rfl) Tryd.underlying3 Tryd.underlying3 (hval 1 34 _ rfl rfl) h1
  obtain ⟨x, rfl, _, hwf2⟩ := open_int Tryd.underlying5 (hval 2 5 _ rfl rfl) h2
  obtain ⟨n, rfl, _, hwf3⟩ := open_int Tryd.underlying37 (hval 3 37 _ rfl rfl) h3
  obtain ⟨dn, rfl, _, hwf4⟩ := open_int Tryd.underlying37 (hval 4 37 _ rfl rfl) h4
  refine (more_walk N lo hi o f x n dn W (Tab.of_laid hL) (u8_wf hwf2.2) (u16_wf hwf3.2) (u16_wf hwf4.2)).mono fun e W' ⟨he, hg⟩ => ?_
  subst he
  refine ⟨_, rfl, _, _, _, [], p0 ++ (p1 ++ (p2 ++ (p3 ++ (p4 ++ ([]))))), [], hW', ?_, ?_, ?_, hg.frame _, fun h => by cases h⟩
  · exact trodAll_cons_mk (shut_bool Tryd.underlying4 true) trodAll_mk0
  · exact Law.args_below Tab.laidOut (by kernel_rfl) hg hAk hlt
  · rfl

set_option maxRecDepth 100000 in
theorem lifted (os : Os) (started : os.Started) (H : Type) (enc : TypeId × Value → H) :
    ReturnsInHanded {} Tryd.checked os 4 .any (fun w args => (Rows.sampleMoreSpec.pre enc Tryd.prog Tryd.f4 [] false w args ∧ laidMetH Tryd.prog Rows.sampleMoreRow.laid w) ∧ sizedMet enc Tryd.prog Tryd.f4 (OpenSpec.ofChange Rows.sampleMoreSpec) false w args) (Rows.sampleMoreSpec.post enc Tryd.prog Tryd.f4 false true false false) := by
  refine returnsInHanded_of_change_and (C := Tryd.checked) (X := fun w _ => laidMetH Tryd.prog Rows.sampleMoreRow.laid w) (fun _ _ _ hh h => h.of_heap hh) Tab.own started (by kernel_rfl) Tryd.func4
    (ChangeSpec.witness_shaped (enc := enc) (C := Tryd.checked) (os := os) (X := fun w _ => laidMetH Tryd.prog Rows.sampleMoreRow.laid w) false (World.doorLaid Tryd.prog 17 os) #[.agg #[.int .i64 0, .int .i64 0, .int .i64 0], .agg #[.int .i64 0, .int .i64 0], .int .u8 0, .int .u16 0, .int .u16 0] 8 rfl (World.shaped_of_RefB (by kernel_rfl) (by kernel_rfl)) (by kernel_rfl) (by kernel_rfl) (by kernel_rfl) (Tab.door_met os _)) ?_
  intro W base args ds gs before hval hW _ _ hL _
  exact contract H enc W base args ds gs before hval hW hL

theorem said : Rows.SampleMoreSaid :=
  OpenClaim.holds_of_wide 4 Tryd.f4 rfl rfl rfl rfl rfl rfl rfl ⟨rfl, rfl, rfl, rfl, rfl⟩ rfl rfl rfl rfl rfl (by kernel_rfl) Tryd.func4 (by kernel_rfl)
    (of_decide_eq_true (by kernel_rfl)) (by unfold Func.isWrapper; first | (rw [if_pos (by decide +kernel)]; kernel_rfl) | (rw [if_neg (by decide +kernel)]; exact ⟨rfl, rfl⟩))
    (fun os started H enc _ => lifted os started H enc)

theorem plain (f : FuncId) (fn : Func) (hf : Tryd.pinned.checked.prog.funcNamed "oilcake/oilcakelaw01.SampleMore" = some f) (hfn : Tryd.pinned.checked.prog.funcs[f]? = some fn) :
    false = Tryd.pinned.checked.prog.looks [] ∧ ∀ (j : Nat) t, fn.params[j]? = some t → Tryd.pinned.checked.prog.wantsStandIn t = false := by
  obtain rfl : f = 4 := Option.some.inj ((show Tryd.prog.funcNamed "oilcake/oilcakelaw01.SampleMore" = some 4 by kernel_rfl).symm.trans hf) |>.symm
  obtain rfl : fn = Tryd.f4 := (Option.some.inj (Tryd.func4.symm.trans hfn)).symm
  refine ⟨by kernel_rfl, fun j t ht => ?_⟩
  rw [Tryd.params4] at ht
  have hm := Array.mem_of_getElem? ht
  have hall : (Tryd.f4.params.toList.all fun u => !Tryd.prog.wantsStandIn u) = true := by kernel_rfl
  rw [Tryd.params4] at hall
  exact (show Tryd.prog.wantsStandIn t = false by simpa using List.all_eq_true.1 hall t (by simpa using hm))

theorem card : Rows.SampleMoreCardSaid :=
  Claim7.holds_tied_plain_at .later [] _ _ _ _ said (fun _ h => by cases h) (by kernel_rfl) (fun _ h => by cases h) sampleMore_row_tie rfl ⟨rfl, rfl⟩ (by kernel_rfl) rfl plain (by kernel_rfl)
#print axioms card
end Go.Proofs.YtdiclofeggkjcaaDoor.lawSampleMore

