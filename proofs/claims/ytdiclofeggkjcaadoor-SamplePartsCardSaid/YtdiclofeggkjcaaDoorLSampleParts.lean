/- For every input the law SampleParts returns true, and its arguments read behind the call as they read before; what a double rule is asked lies in the table as the program's text lays it (tied). Condition: that table. -/
/- What can be is an interval; the greatest number with a chance is the last one. No walk here. -/
import Derived.Test.YtdiclofeggkjcaaDoorB7
namespace Go.Proofs.YtdiclofeggkjcaaDoor
set_option linter.unusedSimpArgs false
set_option linter.unusedVariables false
open Go.RowKit Go.Proofs.YtdiclofeggkjcaaDoor.ML Go.Proofs.YtdiclofeggkjcaaDoor.Samp

theorem foldl_min_spec : ∀ (zs : List Int) (a : Int), zs.foldl min a ≤ a ∧ (zs.foldl min a = a ∨ zs.foldl min a ∈ zs) ∧ ∀ x ∈ zs, zs.foldl min a ≤ x
  | [], a => ⟨Int.le_refl _, .inl rfl, by simp⟩
  | z :: zs, a => by
    obtain ⟨h1, h2, h3⟩ := foldl_min_spec zs (min a z)
    simp only [List.foldl_cons, List.mem_cons]
    refine ⟨by omega, ?_, fun x hx => ?_⟩
    · rcases h2 with h2 | h2
      · rw [h2]
        by_cases h : a ≤ z
        · left; omega
        · right; left; omega
      · exact .inr (.inr h2)
    · rcases hx with rfl | hx
      · omega
      · exact h3 x hx
theorem foldl_max_spec : ∀ (zs : List Int) (a : Int), a ≤ zs.foldl max a ∧ (zs.foldl max a = a ∨ zs.foldl max a ∈ zs) ∧ ∀ x ∈ zs, x ≤ zs.foldl max a
  | [], a => ⟨Int.le_refl _, .inl rfl, by simp⟩
  | z :: zs, a => by
    obtain ⟨h1, h2, h3⟩ := foldl_max_spec zs (max a z)
    simp only [List.foldl_cons, List.mem_cons]
    refine ⟨by omega, ?_, fun x hx => ?_⟩
    · rcases h2 with h2 | h2
      · rw [h2]
        by_cases h : z ≤ a
        · left; omega
        · right; left; omega
      · exact .inr (.inr h2)
    · rcases hx with rfl | hx
      · omega
      · exact h3 x hx
theorem minOf_spec (L : List Int) (h : L ≠ []) : Lib.minOf L ∈ L ∧ ∀ x ∈ L, Lib.minOf L ≤ x := by
  obtain ⟨z, zs, rfl⟩ := List.exists_cons_of_ne_nil h
  obtain ⟨h1, h2, h3⟩ := foldl_min_spec (z :: zs) z
  exact ⟨by rcases h2 with h2 | h2
            · show (z :: zs).foldl min z ∈ _
              rw [h2]; simp
            · exact h2, h3⟩
theorem maxOf_spec (L : List Int) (h : L ≠ []) : Lib.maxOf L ∈ L ∧ ∀ x ∈ L, x ≤ Lib.maxOf L := by
  obtain ⟨z, zs, rfl⟩ := List.exists_cons_of_ne_nil h
  obtain ⟨h1, h2, h3⟩ := foldl_max_spec (z :: zs) z
  exact ⟨by rcases h2 with h2 | h2
            · show (z :: zs).foldl max z ∈ _
              rw [h2]; simp
            · exact h2, h3⟩
theorem ableK_iff (N lo o f : Int) : ∀ (k : Nat) (x : Int), x ∈ ableK N lo o f k ↔ lo ≤ x ∧ x < lo + k ∧ 0 < waysI N x o f
  | 0, x => by simp [ableK]; intro h1 h2; omega
  | k + 1, x => by
    have ih := ableK_iff N lo o f k x
    rw [ableK]
    by_cases h : 0 < waysI N (lo + k) o f
    · rw [if_pos h, List.mem_append, ih, List.mem_singleton]
      constructor
      · rintro (⟨h1, h2, h3⟩ | rfl)
        · exact ⟨h1, by omega, h3⟩
        · exact ⟨by omega, by omega, h⟩
      · rintro ⟨h1, h2, h3⟩
        by_cases e : x = lo + k
        · exact .inr e
        · exact .inl ⟨h1, by omega, h3⟩
    · rw [if_neg h, ih]
      constructor
      · rintro ⟨h1, h2, h3⟩
        exact ⟨h1, by omega, h3⟩
      · rintro ⟨h1, h2, h3⟩
        by_cases e : x = lo + k
        · rw [e] at h3; exact absurd h3 h
        · exact ⟨h1, by omega, h3⟩
/-- A number can be. -/
theorem able_iff (N lo hi o f x : Int) (hc : 1 ≤ N ∧ N ≤ 36 ∧ 0 ≤ lo ∧ lo ≤ hi ∧ hi ≤ N) (hd : 0 ≤ o ∧ o ≤ N ∧ 0 ≤ f ∧ f ≤ o) : x ∈ ableL N lo hi o f ↔ lo ≤ x ∧ x ≤ hi ∧ f ≤ x ∧ o - f ≤ N - x := by
  rw [ableL, ableK_iff]
  constructor
  · rintro ⟨h1, h2, h3⟩
    have := (waysI_pos N x o f (by omega) (by omega) (by omega) (by omega)).1 h3
    omega
  · rintro ⟨h1, h2, h3⟩
    exact ⟨h1, by omega, (waysI_pos N x o f (by omega) (by omega) (by omega) (by omega)).2 h3⟩
/-- What Can tells where nothing is wrong. -/
theorem can_at (N lo hi o f : Int) (hc : 1 ≤ N ∧ N ≤ 36 ∧ 0 ≤ lo ∧ lo ≤ hi ∧ hi ≤ N) (hd : 0 ≤ o ∧ o ≤ N ∧ 0 ≤ f ∧ f ≤ o) :
    (max lo f ≤ min hi (N - (o - f)) ∧ ableL N lo hi o f ≠ [] ∧ canR N lo hi o f = .tuple #[i2 (max lo f) (min hi (N - (o - f))), .int .i64 0]) ∨ (min hi (N - (o - f)) < max lo f ∧ ableL N lo hi o f = [] ∧ canR N lo hi o f = .tuple #[i2 0 0, .int .i64 8]) := by
  have hcB := cargoB_ok hc
  have hdB := drawB_ok hd
  by_cases hL : ableL N lo hi o f = []
  · right
    refine ⟨?_, hL, ?_⟩
    · by_cases h : min hi (N - (o - f)) < max lo f
      · exact h
      · have := (able_iff N lo hi o f (max lo f) hc hd).2 (by omega)
        rw [hL] at this
        cases this
    · rw [canR, hcB, hdB, if_neg (by decide), if_neg (by decide), if_pos hL]
  · left
    obtain ⟨m1, m2⟩ := minOf_spec _ hL
    obtain ⟨x1, x2⟩ := maxOf_spec _ hL
    have a1 := (able_iff N lo hi o f _ hc hd).1 m1
    have a2 := (able_iff N lo hi o f _ hc hd).1 x1
    have a3 := m2 (max lo f) ((able_iff N lo hi o f _ hc hd).2 (by omega))
    have a4 := x2 (min hi (N - (o - f))) ((able_iff N lo hi o f _ hc hd).2 (by omega))
    refine ⟨by omega, hL, ?_⟩
    rw [canR, hcB, hdB, if_neg (by decide), if_neg (by decide), if_neg hL, show Lib.minOf (ableL N lo hi o f) = max lo f by omega, show Lib.maxOf (ableL N lo hi o f) = min hi (N - (o - f)) by omega]
/-- The last number that can be and is likely enough; -1. -/
def bestB (N lo o f n d : Int) : Nat → Int
  | 0 => -1
  | k + 1 => if 0 < waysI N (lo + k) o f ∧ boundB N o f n d (lo + k) = true then lo + k else bestB N lo o f n d k
theorem revI_snd (xs : List Int) : ∀ k : Nat, k ≤ xs.length → (revI xs k).map (·.2) = xs.reverse.take k
  | 0, _ => by simp [revI]
  | k + 1, h => by
    rw [revI, List.map_append, revI_snd xs k (by omega), List.take_succ_eq_append_getElem (by simp; omega)]
    simp [List.getElem_reverse, show xs.length - (k + 1) < xs.length by omega]
    congr 1; omega
theorem find_snd (p : Int → Bool) : ∀ l : List (Int × Int), (l.find? fun x => p x.2).map (·.2) = (l.map (·.2)).find? p
  | [] => rfl
  | x :: r => by
    simp only [List.find?_cons, List.map_cons]
    cases p x.2 <;> simp [find_snd p r]
theorem bestB_find (N lo o f n d : Int) (hlo : 0 ≤ lo) : ∀ k : Nat, ((ableK N lo o f k).reverse.find? (boundB N o f n d) = none ∧ bestB N lo o f n d k = -1) ∨ ((ableK N lo o f k).reverse.find? (boundB N o f n d) = some (bestB N lo o f n d k) ∧ 0 ≤ bestB N lo o f n d k)
  | 0 => .inl ⟨rfl, rfl⟩
  | k + 1 => by
    have ih := bestB_find N lo o f n d hlo k
    by_cases h : 0 < waysI N (lo + k) o f
    · have e1 : ableK N lo o f (k + 1) = ableK N lo o f k ++ [lo + k] := by rw [ableK, if_pos h]
      rw [e1, List.reverse_append, List.reverse_singleton, List.singleton_append, List.find?_cons]
      by_cases hb : boundB N o f n d (lo + k) = true
      · have e2 : bestB N lo o f n d (k + 1) = lo + k := by rw [bestB, if_pos ⟨h, hb⟩]
        rw [e2, hb]
        exact .inr ⟨rfl, by omega⟩
      · have e2 : bestB N lo o f n d (k + 1) = bestB N lo o f n d k := by rw [bestB, if_neg (fun h' => hb h'.2)]
        have hb' : boundB N o f n d (lo + k) = false := by simpa using hb
        rw [e2, hb']
        exact ih
    · have e1 : ableK N lo o f (k + 1) = ableK N lo o f k := by rw [ableK, if_neg h]
      have e2 : bestB N lo o f n d (k + 1) = bestB N lo o f n d k := by rw [bestB, if_neg (fun h' => h h'.1)]
      rw [e1, e2]
      exact ih
theorem boundP_best (N lo hi o f n d : Int) (hlo : 0 ≤ lo) : boundP N lo hi o f n d = if 0 ≤ bestB N lo o f n d (hi - lo + 1).toNat then (bestB N lo o f n d (hi - lo + 1).toNat, 0) else (0, 6) := by
  have h1 := revI_snd (ableL N lo hi o f) (ableL N lo hi o f).length (Nat.le_refl _)
  have h2 := find_snd (boundB N o f n d) (revI (ableL N lo hi o f) (ableL N lo hi o f).length)
  rw [h1, List.take_of_length_le (by simp)] at h2
  rw [boundP, boundL]
  rcases bestB_find N lo o f n d hlo (hi - lo + 1).toNat with ⟨h3, h4⟩ | ⟨h3, h4⟩
  · rw [show (ableL N lo hi o f).reverse.find? (boundB N o f n d) = none from h3, Option.map_eq_none_iff] at h2
    rw [h2, if_neg (by omega)]
  · rw [show (ableL N lo hi o f).reverse.find? (boundB N o f n d) = _ from h3] at h2
    obtain ⟨x, hx, hx2⟩ := Option.map_eq_some_iff.1 h2
    rw [hx, if_pos h4]
    simp only
    rw [hx2]
/-- What Bound tells where nothing is wrong. -/
theorem bound_at (N lo hi o f n d : Int) (hc : 1 ≤ N ∧ N ≤ 36 ∧ 0 ≤ lo ∧ lo ≤ hi ∧ hi ≤ N) (hd : 0 ≤ o ∧ o ≤ N ∧ 0 ≤ f ∧ f ≤ o) (hg : 1 ≤ d ∧ d ≤ 1000 ∧ 0 ≤ n ∧ n ≤ d) :
    boundAll N lo hi o f n d = if ableL N lo hi o f = [] then .tuple #[.int .i64 0, .int .i64 8] else if 0 ≤ bestB N lo o f n d (hi - lo + 1).toNat then .tuple #[.int .i64 (bestB N lo o f n d (hi - lo + 1).toNat), .int .i64 0] else .tuple #[.int .i64 0, .int .i64 6] := by
  have h2 : givenB n d = true := (givenB_iff n d).2 hg
  rw [boundAll, cargoB_ok hc, if_neg (by decide), if_neg (by simp [boundE, drawB_ok hd, h2, unlessV, firstE])]
  split
  · rfl
  · rw [boundP_best N lo hi o f n d hc.2.2.1]
    split <;> rfl
end Go.Proofs.YtdiclofeggkjcaaDoor

/- The bags that were not opened: Rest, where nothing is wrong. -/
namespace Go.Proofs.YtdiclofeggkjcaaDoor
set_option linter.unusedSimpArgs false
set_option linter.unusedVariables false
open Go.RowKit Go.Proofs.YtdiclofeggkjcaaDoor.ML Go.Proofs.YtdiclofeggkjcaaDoor.Samp

theorem three_stores {w : World} {b : Nat} {x y z : Value} (u v t : Value) (h0 : w.cell? ⟨b, 0, none⟩ = some x) (h1 : w.cell? ⟨b, 1, none⟩ = some y) (h2 : w.cell? ⟨b, 2, none⟩ = some z) :
    (((w.setCell ⟨b, 0, none⟩ u).setCell ⟨b, 1, none⟩ v).setCell ⟨b, 2, none⟩ t).cell? ⟨b, 0, none⟩ = some u ∧ (((w.setCell ⟨b, 0, none⟩ u).setCell ⟨b, 1, none⟩ v).setCell ⟨b, 2, none⟩ t).cell? ⟨b, 1, none⟩ = some v ∧ (((w.setCell ⟨b, 0, none⟩ u).setCell ⟨b, 1, none⟩ v).setCell ⟨b, 2, none⟩ t).cell? ⟨b, 2, none⟩ = some t := by
  refine ⟨?_, ?_, ?_⟩
  · rw [World.cell?_setCell_other _ _ _ _ (by simp), World.cell?_setCell_other _ _ _ _ (by simp)]
    exact World.cell?_setCell_same' _ _ _ (by rw [h0]; rfl)
  · rw [World.cell?_setCell_other _ _ _ _ (by simp)]
    exact World.cell?_setCell_same' _ _ _ (by rw [World.cell?_setCell_other _ _ _ _ (by simp), h1]; rfl)
  · exact World.cell?_setCell_same' _ _ _ (by rw [World.cell?_setCell_other _ _ _ _ (by simp), World.cell?_setCell_other _ _ _ _ (by simp), h2]; rfl)
abbrev i3 (a b c : Int) : Value := .agg #[.int .i64 a, .int .i64 b, .int .i64 c]
theorem can_v (N lo hi o f : Int) (w : World) (v : Value) (hv : Hid (canR N lo hi o f = v)) : Calls Tryd.prog 23 #[.agg #[.int .i64 N, .int .i64 lo, .int .i64 hi], i2 o f] w fun e w' => e = .returned v ∧ Below w.heap.size w w' := by
  have := can_any N lo hi o f w
  rw [hv.out] at this
  exact this

set_option maxRecDepth 100000 in
set_option maxHeartbeats 4000000 in
theorem rest_bad (N lo hi o f : Int) (w : World) (hc : 1 ≤ N ∧ N ≤ 36 ∧ 0 ≤ lo ∧ lo ≤ hi ∧ hi ≤ N) (hd : 0 ≤ o ∧ o ≤ N ∧ 0 ≤ f ∧ f ≤ o) (hv : Hid (canR N lo hi o f = .tuple #[i2 0 0, .int .i64 8])) :
    Calls Tryd.prog 34 #[.agg #[.int .i64 N, .int .i64 lo, .int .i64 hi], i2 o f] w fun e w' => e = .returned (.tuple #[i3 0 0 0, .int .i64 8]) ∧ Below w.heap.size w w' := by
  have hB0 : Below w.heap.size w (((w.alloc (.cells #[.int .i64 N, .int .i64 lo, .int .i64 hi] 26)).alloc (.cells #[.int .i64 o, .int .i64 f] 34)).alloc (.cells #[.int .i64 0, .int .i64 0, .int .i64 0] 26)) := (((Below.refl _ w).alloc (Nat.le_refl _) _).alloc (by simp) _).alloc (by simp; omega) _
  have c0_0 : (((w.alloc (.cells #[.int .i64 N, .int .i64 lo, .int .i64 hi] 26)).alloc (.cells #[.int .i64 o, .int .i64 f] 34)).alloc (.cells #[.int .i64 0, .int .i64 0, .int .i64 0] 26)).cell? ⟨w.heap.size, 0, none⟩ = some (.int .i64 N) := by simp [go_sem]
  have c0_1 : (((w.alloc (.cells #[.int .i64 N, .int .i64 lo, .int .i64 hi] 26)).alloc (.cells #[.int .i64 o, .int .i64 f] 34)).alloc (.cells #[.int .i64 0, .int .i64 0, .int .i64 0] 26)).cell? ⟨w.heap.size, 1, none⟩ = some (.int .i64 lo) := by simp [go_sem]
  have c0_2 : (((w.alloc (.cells #[.int .i64 N, .int .i64 lo, .int .i64 hi] 26)).alloc (.cells #[.int .i64 o, .int .i64 f] 34)).alloc (.cells #[.int .i64 0, .int .i64 0, .int .i64 0] 26)).cell? ⟨w.heap.size, 2, none⟩ = some (.int .i64 hi) := by simp [go_sem]
  have c1_0 : (((w.alloc (.cells #[.int .i64 N, .int .i64 lo, .int .i64 hi] 26)).alloc (.cells #[.int .i64 o, .int .i64 f] 34)).alloc (.cells #[.int .i64 0, .int .i64 0, .int .i64 0] 26)).cell? ⟨w.heap.size + 1, 0, none⟩ = some (.int .i64 o) := by simp [go_sem]
  have c1_1 : (((w.alloc (.cells #[.int .i64 N, .int .i64 lo, .int .i64 hi] 26)).alloc (.cells #[.int .i64 o, .int .i64 f] 34)).alloc (.cells #[.int .i64 0, .int .i64 0, .int .i64 0] 26)).cell? ⟨w.heap.size + 1, 1, none⟩ = some (.int .i64 f) := by simp [go_sem]
  have c2_0 : (((w.alloc (.cells #[.int .i64 N, .int .i64 lo, .int .i64 hi] 26)).alloc (.cells #[.int .i64 o, .int .i64 f] 34)).alloc (.cells #[.int .i64 0, .int .i64 0, .int .i64 0] 26)).cell? ⟨w.heap.size + 1 + 1, 0, none⟩ = some (.int .i64 0) := by simp [go_sem]
  have c2_1 : (((w.alloc (.cells #[.int .i64 N, .int .i64 lo, .int .i64 hi] 26)).alloc (.cells #[.int .i64 o, .int .i64 f] 34)).alloc (.cells #[.int .i64 0, .int .i64 0, .int .i64 0] 26)).cell? ⟨w.heap.size + 1 + 1, 1, none⟩ = some (.int .i64 0) := by simp [go_sem]
  have c2_2 : (((w.alloc (.cells #[.int .i64 N, .int .i64 lo, .int .i64 hi] 26)).alloc (.cells #[.int .i64 o, .int .i64 f] 34)).alloc (.cells #[.int .i64 0, .int .i64 0, .int .i64 0] 26)).cell? ⟨w.heap.size + 1 + 1, 2, none⟩ = some (.int .i64 0) := by simp [go_sem]
  have f2_0 : (((w.alloc (.cells #[.int .i64 N, .int .i64 lo, .int .i64 hi] 26)).alloc (.cells #[.int .i64 o, .int .i64 f] 34)).alloc (.cells #[.int .i64 0, .int .i64 0, .int .i64 0] 26)).frozen? ⟨w.heap.size + 1 + 1, 0, none⟩ = false := by simp [go_sem]
  have f2_1 : (((w.alloc (.cells #[.int .i64 N, .int .i64 lo, .int .i64 hi] 26)).alloc (.cells #[.int .i64 o, .int .i64 f] 34)).alloc (.cells #[.int .i64 0, .int .i64 0, .int .i64 0] 26)).frozen? ⟨w.heap.size + 1 + 1, 1, none⟩ = false := by simp [go_sem]
  have f2_2 : (((w.alloc (.cells #[.int .i64 N, .int .i64 lo, .int .i64 hi] 26)).alloc (.cells #[.int .i64 o, .int .i64 f] 34)).alloc (.cells #[.int .i64 0, .int .i64 0, .int .i64 0] 26)).frozen? ⟨w.heap.size + 1 + 1, 2, none⟩ = false := by simp [go_sem]
  go_enter Tryd.func34, Tryd.ntmps34
  go_wp2_with fail
  refine (can_v N lo hi o f _ _ hv).mono ?_
  rintro e w1 ⟨rfl, hB1⟩
  have hBz : Below w.heap.size w w1 := hB0.trans (hB1.mono (by simp; omega))
  have hzz : w.heap.size ≤ w1.heap.size := hBz.size
  have hzn : w.heap.size + 3 ≤ w1.heap.size := by have := hB1.size; simp at this; omega
  have kc0_0 := keepsB hB1 c0_0
  have kc0_1 := keepsB hB1 c0_1
  have kc0_2 := keepsB hB1 c0_2
  have kc1_0 := keepsB hB1 c1_0
  have kc1_1 := keepsB hB1 c1_1
  have kc2_0 := keepsB hB1 c2_0
  have kc2_1 := keepsB hB1 c2_1
  have kc2_2 := keepsB hB1 c2_2
  have kf2_0 := (hB1.frozen (p := ⟨w.heap.size + 1 + 1, 0, none⟩) (by first | (simp; done) | (simp; omega))).trans f2_0
  have kf2_1 := (hB1.frozen (p := ⟨w.heap.size + 1 + 1, 1, none⟩) (by first | (simp; done) | (simp; omega))).trans f2_1
  have kf2_2 := (hB1.frozen (p := ⟨w.heap.size + 1 + 1, 2, none⟩) (by first | (simp; done) | (simp; omega))).trans f2_2
  clear hB0 hB1 c0_0 c0_1 c0_2 c1_0 c1_1 c2_0 c2_1 c2_2 f2_0 f2_1 f2_2
  generalize hbb : w.heap.size = bb at *
  have HBB := Lib.hid hbb
  clear hbb
  have HB_w1 := Lib.hid (show Below bb w w1 from hBz)
  have hz_w1 : bb ≤ w1.heap.size := hzz
  have FA : ∀ W, Free.Bel w1 W → W.cell? ⟨bb, 0, none⟩ = some (.int .i64 N) ∧ W.cell? ⟨bb, 1, none⟩ = some (.int .i64 lo) ∧ W.cell? ⟨bb, 2, none⟩ = some (.int .i64 hi) ∧ W.cell? ⟨bb + 1, 0, none⟩ = some (.int .i64 o) ∧ W.cell? ⟨bb + 1, 1, none⟩ = some (.int .i64 f) ∧ W.cell? ⟨bb + 1 + 1, 0, none⟩ = some (.int .i64 0) ∧ W.cell? ⟨bb + 1 + 1, 1, none⟩ = some (.int .i64 0) ∧ W.cell? ⟨bb + 1 + 1, 2, none⟩ = some (.int .i64 0) ∧ W.frozen? ⟨bb + 1 + 1, 0, none⟩ = false ∧ W.frozen? ⟨bb + 1 + 1, 1, none⟩ = false ∧ W.frozen? ⟨bb + 1 + 1, 2, none⟩ = false ∧ bb + 3 ≤ W.heap.size ∧ bb ≤ W.heap.size := fun W hW => ⟨keepsB hW kc0_0, keepsB hW kc0_1, keepsB hW kc0_2, keepsB hW kc1_0, keepsB hW kc1_1, keepsB hW kc2_0, keepsB hW kc2_1, keepsB hW kc2_2, (hW.frozen (p := ⟨bb + 1 + 1, 0, none⟩) (by simp; omega)).trans kf2_0, (hW.frozen (p := ⟨bb + 1 + 1, 1, none⟩) (by simp; omega)).trans kf2_1, (hW.frozen (p := ⟨bb + 1 + 1, 2, none⟩) (by simp; omega)).trans kf2_2, Nat.le_trans hzn hW.size, Nat.le_trans hz_w1 hW.size⟩
  have KR : Free.Bel w1 w1 := Free.Bel.refl _
  clear hBz hzz kc0_0 kc0_1 kc0_2 kc1_0 kc1_1 kc2_0 kc2_1 kc2_2 kf2_0 kf2_1 kf2_2 hzn
  have KA0 : Free.Bel w1 (w1.alloc (.cells #[.int .i64 0, .int .i64 0] 24)) := belAlloc _ _
  have n0 : (w1.alloc (.cells #[.int .i64 0, .int .i64 0] 24)).cell? ⟨w1.heap.size, 0, none⟩ = some (.int .i64 0) := by simp [go_sem]
  have n1 : (w1.alloc (.cells #[.int .i64 0, .int .i64 0] 24)).cell? ⟨w1.heap.size, 1, none⟩ = some (.int .i64 0) := by simp [go_sem]
  have hz := FA _ KA0
  have ts := three_stores (w := (w1.alloc (.cells #[.int .i64 0, .int .i64 0] 24))) (b := bb + 1 + 1) (x := .int .i64 0) (y := .int .i64 0) (z := .int .i64 0) (.int .i64 0) (.int .i64 0) (.int .i64 0) (by simp [hz]) (by simp [hz]) (by simp [hz])
  have hBB : Below bb w ((((w1.alloc (.cells #[.int .i64 0, .int .i64 0] 24)).setCell ⟨bb + 1 + 1, 0, none⟩ (.int .i64 0)).setCell ⟨bb + 1 + 1, 1, none⟩ (.int .i64 0)).setCell ⟨bb + 1 + 1, 2, none⟩ (.int .i64 0)) := (((HB_w1.out.trans (KA0.mono hz_w1)).setCell (p := ⟨bb + 1 + 1, 0, none⟩) (by simp; omega) _).setCell (p := ⟨bb + 1 + 1, 1, none⟩) (by simp; omega) _).setCell (p := ⟨bb + 1 + 1, 2, none⟩) (by simp; omega) _
  have HTS := Lib.hid ts
  have HBS := Lib.hid hBB
  clear hz ts hBB
  go_wp2_with fail
  have r0 := HTS.out.1
  have r1 := HTS.out.2.1
  have r2 := HTS.out.2.2
  have hbb := HBB.out
  subst hbb
  exact bodyPost_ret (v := .tuple #[i3 (0) (0) (0), .int .i64 8]) (by simp [results, Tryd.results34, go_sem, r0, r1, r2]) rfl ⟨rfl, HBS.out⟩

set_option maxRecDepth 100000 in
set_option maxHeartbeats 4000000 in
theorem rest_full (N lo hi f : Int) (w : World) (hc : 1 ≤ N ∧ N ≤ 36 ∧ 0 ≤ lo ∧ lo ≤ hi ∧ hi ≤ N) (hd : 0 ≤ N ∧ N ≤ N ∧ 0 ≤ f ∧ f ≤ N) (cx cy : Int) (hv : Hid (canR N lo hi N f = .tuple #[i2 cx cy, .int .i64 0])) :
    Calls Tryd.prog 34 #[.agg #[.int .i64 N, .int .i64 lo, .int .i64 hi], i2 N f] w fun e w' => e = .returned (.tuple #[i3 0 0 0, .int .i64 6]) ∧ Below w.heap.size w w' := by
  have hB0 : Below w.heap.size w (((w.alloc (.cells #[.int .i64 N, .int .i64 lo, .int .i64 hi] 26)).alloc (.cells #[.int .i64 N, .int .i64 f] 34)).alloc (.cells #[.int .i64 0, .int .i64 0, .int .i64 0] 26)) := (((Below.refl _ w).alloc (Nat.le_refl _) _).alloc (by simp) _).alloc (by simp; omega) _
  have c0_0 : (((w.alloc (.cells #[.int .i64 N, .int .i64 lo, .int .i64 hi] 26)).alloc (.cells #[.int .i64 N, .int .i64 f] 34)).alloc (.cells #[.int .i64 0, .int .i64 0, .int .i64 0] 26)).cell? ⟨w.heap.size, 0, none⟩ = some (.int .i64 N) := by simp [go_sem]
  have c0_1 : (((w.alloc (.cells #[.int .i64 N, .int .i64 lo, .int .i64 hi] 26)).alloc (.cells #[.int .i64 N, .int .i64 f] 34)).alloc (.cells #[.int .i64 0, .int .i64 0, .int .i64 0] 26)).cell? ⟨w.heap.size, 1, none⟩ = some (.int .i64 lo) := by simp [go_sem]
  have c0_2 : (((w.alloc (.cells #[.int .i64 N, .int .i64 lo, .int .i64 hi] 26)).alloc (.cells #[.int .i64 N, .int .i64 f] 34)).alloc (.cells #[.int .i64 0, .int .i64 0, .int .i64 0] 26)).cell? ⟨w.heap.size, 2, none⟩ = some (.int .i64 hi) := by simp [go_sem]
  have c1_0 : (((w.alloc (.cells #[.int .i64 N, .int .i64 lo, .int .i64 hi] 26)).alloc (.cells #[.int .i64 N, .int .i64 f] 34)).alloc (.cells #[.int .i64 0, .int .i64 0, .int .i64 0] 26)).cell? ⟨w.heap.size + 1, 0, none⟩ = some (.int .i64 N) := by simp [go_sem]
  have c1_1 : (((w.alloc (.cells #[.int .i64 N, .int .i64 lo, .int .i64 hi] 26)).alloc (.cells #[.int .i64 N, .int .i64 f] 34)).alloc (.cells #[.int .i64 0, .int .i64 0, .int .i64 0] 26)).cell? ⟨w.heap.size + 1, 1, none⟩ = some (.int .i64 f) := by simp [go_sem]
  have c2_0 : (((w.alloc (.cells #[.int .i64 N, .int .i64 lo, .int .i64 hi] 26)).alloc (.cells #[.int .i64 N, .int .i64 f] 34)).alloc (.cells #[.int .i64 0, .int .i64 0, .int .i64 0] 26)).cell? ⟨w.heap.size + 1 + 1, 0, none⟩ = some (.int .i64 0) := by simp [go_sem]
  have c2_1 : (((w.alloc (.cells #[.int .i64 N, .int .i64 lo, .int .i64 hi] 26)).alloc (.cells #[.int .i64 N, .int .i64 f] 34)).alloc (.cells #[.int .i64 0, .int .i64 0, .int .i64 0] 26)).cell? ⟨w.heap.size + 1 + 1, 1, none⟩ = some (.int .i64 0) := by simp [go_sem]
  have c2_2 : (((w.alloc (.cells #[.int .i64 N, .int .i64 lo, .int .i64 hi] 26)).alloc (.cells #[.int .i64 N, .int .i64 f] 34)).alloc (.cells #[.int .i64 0, .int .i64 0, .int .i64 0] 26)).cell? ⟨w.heap.size + 1 + 1, 2, none⟩ = some (.int .i64 0) := by simp [go_sem]
  have f2_0 : (((w.alloc (.cells #[.int .i64 N, .int .i64 lo, .int .i64 hi] 26)).alloc (.cells #[.int .i64 N, .int .i64 f] 34)).alloc (.cells #[.int .i64 0, .int .i64 0, .int .i64 0] 26)).frozen? ⟨w.heap.size + 1 + 1, 0, none⟩ = false := by simp [go_sem]
  have f2_1 : (((w.alloc (.cells #[.int .i64 N, .int .i64 lo, .int .i64 hi] 26)).alloc (.cells #[.int .i64 N, .int .i64 f] 34)).alloc (.cells #[.int .i64 0, .int .i64 0, .int .i64 0] 26)).frozen? ⟨w.heap.size + 1 + 1, 1, none⟩ = false := by simp [go_sem]
  have f2_2 : (((w.alloc (.cells #[.int .i64 N, .int .i64 lo, .int .i64 hi] 26)).alloc (.cells #[.int .i64 N, .int .i64 f] 34)).alloc (.cells #[.int .i64 0, .int .i64 0, .int .i64 0] 26)).frozen? ⟨w.heap.size + 1 + 1, 2, none⟩ = false := by simp [go_sem]
  go_enter Tryd.func34, Tryd.ntmps34
  go_wp2_with fail
  refine (can_v N lo hi N f _ _ hv).mono ?_
  rintro e w1 ⟨rfl, hB1⟩
  have hBz : Below w.heap.size w w1 := hB0.trans (hB1.mono (by simp; omega))
  have hzz : w.heap.size ≤ w1.heap.size := hBz.size
  have hzn : w.heap.size + 3 ≤ w1.heap.size := by have := hB1.size; simp at this; omega
  have kc0_0 := keepsB hB1 c0_0
  have kc0_1 := keepsB hB1 c0_1
  have kc0_2 := keepsB hB1 c0_2
  have kc1_0 := keepsB hB1 c1_0
  have kc1_1 := keepsB hB1 c1_1
  have kc2_0 := keepsB hB1 c2_0
  have kc2_1 := keepsB hB1 c2_1
  have kc2_2 := keepsB hB1 c2_2
  have kf2_0 := (hB1.frozen (p := ⟨w.heap.size + 1 + 1, 0, none⟩) (by first | (simp; done) | (simp; omega))).trans f2_0
  have kf2_1 := (hB1.frozen (p := ⟨w.heap.size + 1 + 1, 1, none⟩) (by first | (simp; done) | (simp; omega))).trans f2_1
  have kf2_2 := (hB1.frozen (p := ⟨w.heap.size + 1 + 1, 2, none⟩) (by first | (simp; done) | (simp; omega))).trans f2_2
  clear hB0 hB1 c0_0 c0_1 c0_2 c1_0 c1_1 c2_0 c2_1 c2_2 f2_0 f2_1 f2_2
  generalize hbb : w.heap.size = bb at *
  have HBB := Lib.hid hbb
  clear hbb
  have HB_w1 := Lib.hid (show Below bb w w1 from hBz)
  have hz_w1 : bb ≤ w1.heap.size := hzz
  have FA : ∀ W, Free.Bel w1 W → W.cell? ⟨bb, 0, none⟩ = some (.int .i64 N) ∧ W.cell? ⟨bb, 1, none⟩ = some (.int .i64 lo) ∧ W.cell? ⟨bb, 2, none⟩ = some (.int .i64 hi) ∧ W.cell? ⟨bb + 1, 0, none⟩ = some (.int .i64 N) ∧ W.cell? ⟨bb + 1, 1, none⟩ = some (.int .i64 f) ∧ W.cell? ⟨bb + 1 + 1, 0, none⟩ = some (.int .i64 0) ∧ W.cell? ⟨bb + 1 + 1, 1, none⟩ = some (.int .i64 0) ∧ W.cell? ⟨bb + 1 + 1, 2, none⟩ = some (.int .i64 0) ∧ W.frozen? ⟨bb + 1 + 1, 0, none⟩ = false ∧ W.frozen? ⟨bb + 1 + 1, 1, none⟩ = false ∧ W.frozen? ⟨bb + 1 + 1, 2, none⟩ = false ∧ bb + 3 ≤ W.heap.size ∧ bb ≤ W.heap.size := fun W hW => ⟨keepsB hW kc0_0, keepsB hW kc0_1, keepsB hW kc0_2, keepsB hW kc1_0, keepsB hW kc1_1, keepsB hW kc2_0, keepsB hW kc2_1, keepsB hW kc2_2, (hW.frozen (p := ⟨bb + 1 + 1, 0, none⟩) (by simp; omega)).trans kf2_0, (hW.frozen (p := ⟨bb + 1 + 1, 1, none⟩) (by simp; omega)).trans kf2_1, (hW.frozen (p := ⟨bb + 1 + 1, 2, none⟩) (by simp; omega)).trans kf2_2, Nat.le_trans hzn hW.size, Nat.le_trans hz_w1 hW.size⟩
  have KR : Free.Bel w1 w1 := Free.Bel.refl _
  clear hBz hzz kc0_0 kc0_1 kc0_2 kc1_0 kc1_1 kc2_0 kc2_1 kc2_2 kf2_0 kf2_1 kf2_2 hzn
  have KA0 : Free.Bel w1 (w1.alloc (.cells #[.int .i64 cx, .int .i64 cy] 24)) := belAlloc _ _
  have n0 : (w1.alloc (.cells #[.int .i64 cx, .int .i64 cy] 24)).cell? ⟨w1.heap.size, 0, none⟩ = some (.int .i64 cx) := by simp [go_sem]
  have n1 : (w1.alloc (.cells #[.int .i64 cx, .int .i64 cy] 24)).cell? ⟨w1.heap.size, 1, none⟩ = some (.int .i64 cy) := by simp [go_sem]
  have hz := FA _ KA0
  have ts := three_stores (w := (w1.alloc (.cells #[.int .i64 cx, .int .i64 cy] 24))) (b := bb + 1 + 1) (x := .int .i64 0) (y := .int .i64 0) (z := .int .i64 0) (.int .i64 0) (.int .i64 0) (.int .i64 0) (by simp [hz]) (by simp [hz]) (by simp [hz])
  have hBB : Below bb w ((((w1.alloc (.cells #[.int .i64 cx, .int .i64 cy] 24)).setCell ⟨bb + 1 + 1, 0, none⟩ (.int .i64 0)).setCell ⟨bb + 1 + 1, 1, none⟩ (.int .i64 0)).setCell ⟨bb + 1 + 1, 2, none⟩ (.int .i64 0)) := (((HB_w1.out.trans (KA0.mono hz_w1)).setCell (p := ⟨bb + 1 + 1, 0, none⟩) (by simp; omega) _).setCell (p := ⟨bb + 1 + 1, 1, none⟩) (by simp; omega) _).setCell (p := ⟨bb + 1 + 1, 2, none⟩) (by simp; omega) _
  have HTS := Lib.hid ts
  have HBS := Lib.hid hBB
  clear hz ts hBB
  go_wp2_with fail
  have r0 := HTS.out.1
  have r1 := HTS.out.2.1
  have r2 := HTS.out.2.2
  have hbb := HBB.out
  subst hbb
  exact bodyPost_ret (v := .tuple #[i3 (0) (0) (0), .int .i64 6]) (by simp [results, Tryd.results34, go_sem, r0, r1, r2]) rfl ⟨rfl, HBS.out⟩

set_option maxRecDepth 100000 in
set_option maxHeartbeats 4000000 in
theorem rest_ok (N lo hi o f : Int) (w : World) (hc : 1 ≤ N ∧ N ≤ 36 ∧ 0 ≤ lo ∧ lo ≤ hi ∧ hi ≤ N) (hd : 0 ≤ o ∧ o ≤ N ∧ 0 ≤ f ∧ f ≤ o) (cx cy : Int) (hv : Hid (canR N lo hi o f = .tuple #[i2 cx cy, .int .i64 0])) (hb : 0 ≤ cx ∧ cx ≤ 36 ∧ 0 ≤ cy ∧ cy ≤ 36) (hoN : o < N) :
    Calls Tryd.prog 34 #[.agg #[.int .i64 N, .int .i64 lo, .int .i64 hi], i2 o f] w fun e w' => e = .returned (.tuple #[i3 (N - o) (cx - f) (cy - f), .int .i64 0]) ∧ Below w.heap.size w w' := by
  have hB0 : Below w.heap.size w (((w.alloc (.cells #[.int .i64 N, .int .i64 lo, .int .i64 hi] 26)).alloc (.cells #[.int .i64 o, .int .i64 f] 34)).alloc (.cells #[.int .i64 0, .int .i64 0, .int .i64 0] 26)) := (((Below.refl _ w).alloc (Nat.le_refl _) _).alloc (by simp) _).alloc (by simp; omega) _
  have c0_0 : (((w.alloc (.cells #[.int .i64 N, .int .i64 lo, .int .i64 hi] 26)).alloc (.cells #[.int .i64 o, .int .i64 f] 34)).alloc (.cells #[.int .i64 0, .int .i64 0, .int .i64 0] 26)).cell? ⟨w.heap.size, 0, none⟩ = some (.int .i64 N) := by simp [go_sem]
  have c0_1 : (((w.alloc (.cells #[.int .i64 N, .int .i64 lo, .int .i64 hi] 26)).alloc (.cells #[.int .i64 o, .int .i64 f] 34)).alloc (.cells #[.int .i64 0, .int .i64 0, .int .i64 0] 26)).cell? ⟨w.heap.size, 1, none⟩ = some (.int .i64 lo) := by simp [go_sem]
  have c0_2 : (((w.alloc (.cells #[.int .i64 N, .int .i64 lo, .int .i64 hi] 26)).alloc (.cells #[.int .i64 o, .int .i64 f] 34)).alloc (.cells #[.int .i64 0, .int .i64 0, .int .i64 0] 26)).cell? ⟨w.heap.size, 2, none⟩ = some (.int .i64 hi) := by simp [go_sem]
  have c1_0 : (((w.alloc (.cells #[.int .i64 N, .int .i64 lo, .int .i64 hi] 26)).alloc (.cells #[.int .i64 o, .int .i64 f] 34)).alloc (.cells #[.int .i64 0, .int .i64 0, .int .i64 0] 26)).cell? ⟨w.heap.size + 1, 0, none⟩ = some (.int .i64 o) := by simp [go_sem]
  have c1_1 : (((w.alloc (.cells #[.int .i64 N, .int .i64 lo, .int .i64 hi] 26)).alloc (.cells #[.int .i64 o, .int .i64 f] 34)).alloc (.cells #[.int .i64 0, .int .i64 0, .int .i64 0] 26)).cell? ⟨w.heap.size + 1, 1, none⟩ = some (.int .i64 f) := by simp [go_sem]
  have c2_0 : (((w.alloc (.cells #[.int .i64 N, .int .i64 lo, .int .i64 hi] 26)).alloc (.cells #[.int .i64 o, .int .i64 f] 34)).alloc (.cells #[.int .i64 0, .int .i64 0, .int .i64 0] 26)).cell? ⟨w.heap.size + 1 + 1, 0, none⟩ = some (.int .i64 0) := by simp [go_sem]
  have c2_1 : (((w.alloc (.cells #[.int .i64 N, .int .i64 lo, .int .i64 hi] 26)).alloc (.cells #[.int .i64 o, .int .i64 f] 34)).alloc (.cells #[.int .i64 0, .int .i64 0, .int .i64 0] 26)).cell? ⟨w.heap.size + 1 + 1, 1, none⟩ = some (.int .i64 0) := by simp [go_sem]
  have c2_2 : (((w.alloc (.cells #[.int .i64 N, .int .i64 lo, .int .i64 hi] 26)).alloc (.cells #[.int .i64 o, .int .i64 f] 34)).alloc (.cells #[.int .i64 0, .int .i64 0, .int .i64 0] 26)).cell? ⟨w.heap.size + 1 + 1, 2, none⟩ = some (.int .i64 0) := by simp [go_sem]
  have f2_0 : (((w.alloc (.cells #[.int .i64 N, .int .i64 lo, .int .i64 hi] 26)).alloc (.cells #[.int .i64 o, .int .i64 f] 34)).alloc (.cells #[.int .i64 0, .int .i64 0, .int .i64 0] 26)).frozen? ⟨w.heap.size + 1 + 1, 0, none⟩ = false := by simp [go_sem]
  have f2_1 : (((w.alloc (.cells #[.int .i64 N, .int .i64 lo, .int .i64 hi] 26)).alloc (.cells #[.int .i64 o, .int .i64 f] 34)).alloc (.cells #[.int .i64 0, .int .i64 0, .int .i64 0] 26)).frozen? ⟨w.heap.size + 1 + 1, 1, none⟩ = false := by simp [go_sem]
  have f2_2 : (((w.alloc (.cells #[.int .i64 N, .int .i64 lo, .int .i64 hi] 26)).alloc (.cells #[.int .i64 o, .int .i64 f] 34)).alloc (.cells #[.int .i64 0, .int .i64 0, .int .i64 0] 26)).frozen? ⟨w.heap.size + 1 + 1, 2, none⟩ = false := by simp [go_sem]
  go_enter Tryd.func34, Tryd.ntmps34
  go_wp2_with fail
  refine (can_v N lo hi o f _ _ hv).mono ?_
  rintro e w1 ⟨rfl, hB1⟩
  have hBz : Below w.heap.size w w1 := hB0.trans (hB1.mono (by simp; omega))
  have hzz : w.heap.size ≤ w1.heap.size := hBz.size
  have hzn : w.heap.size + 3 ≤ w1.heap.size := by have := hB1.size; simp at this; omega
  have kc0_0 := keepsB hB1 c0_0
  have kc0_1 := keepsB hB1 c0_1
  have kc0_2 := keepsB hB1 c0_2
  have kc1_0 := keepsB hB1 c1_0
  have kc1_1 := keepsB hB1 c1_1
  have kc2_0 := keepsB hB1 c2_0
  have kc2_1 := keepsB hB1 c2_1
  have kc2_2 := keepsB hB1 c2_2
  have kf2_0 := (hB1.frozen (p := ⟨w.heap.size + 1 + 1, 0, none⟩) (by first | (simp; done) | (simp; omega))).trans f2_0
  have kf2_1 := (hB1.frozen (p := ⟨w.heap.size + 1 + 1, 1, none⟩) (by first | (simp; done) | (simp; omega))).trans f2_1
  have kf2_2 := (hB1.frozen (p := ⟨w.heap.size + 1 + 1, 2, none⟩) (by first | (simp; done) | (simp; omega))).trans f2_2
  clear hB0 hB1 c0_0 c0_1 c0_2 c1_0 c1_1 c2_0 c2_1 c2_2 f2_0 f2_1 f2_2
  generalize hbb : w.heap.size = bb at *
  have HBB := Lib.hid hbb
  clear hbb
  have HB_w1 := Lib.hid (show Below bb w w1 from hBz)
  have hz_w1 : bb ≤ w1.heap.size := hzz
  have FA : ∀ W, Free.Bel w1 W → W.cell? ⟨bb, 0, none⟩ = some (.int .i64 N) ∧ W.cell? ⟨bb, 1, none⟩ = some (.int .i64 lo) ∧ W.cell? ⟨bb, 2, none⟩ = some (.int .i64 hi) ∧ W.cell? ⟨bb + 1, 0, none⟩ = some (.int .i64 o) ∧ W.cell? ⟨bb + 1, 1, none⟩ = some (.int .i64 f) ∧ W.cell? ⟨bb + 1 + 1, 0, none⟩ = some (.int .i64 0) ∧ W.cell? ⟨bb + 1 + 1, 1, none⟩ = some (.int .i64 0) ∧ W.cell? ⟨bb + 1 + 1, 2, none⟩ = some (.int .i64 0) ∧ W.frozen? ⟨bb + 1 + 1, 0, none⟩ = false ∧ W.frozen? ⟨bb + 1 + 1, 1, none⟩ = false ∧ W.frozen? ⟨bb + 1 + 1, 2, none⟩ = false ∧ bb + 3 ≤ W.heap.size ∧ bb ≤ W.heap.size := fun W hW => ⟨keepsB hW kc0_0, keepsB hW kc0_1, keepsB hW kc0_2, keepsB hW kc1_0, keepsB hW kc1_1, keepsB hW kc2_0, keepsB hW kc2_1, keepsB hW kc2_2, (hW.frozen (p := ⟨bb + 1 + 1, 0, none⟩) (by simp; omega)).trans kf2_0, (hW.frozen (p := ⟨bb + 1 + 1, 1, none⟩) (by simp; omega)).trans kf2_1, (hW.frozen (p := ⟨bb + 1 + 1, 2, none⟩) (by simp; omega)).trans kf2_2, Nat.le_trans hzn hW.size, Nat.le_trans hz_w1 hW.size⟩
  have KR : Free.Bel w1 w1 := Free.Bel.refl _
  clear hBz hzz kc0_0 kc0_1 kc0_2 kc1_0 kc1_1 kc2_0 kc2_1 kc2_2 kf2_0 kf2_1 kf2_2 hzn
  have k0 : (o == N) = false := by simp; omega
  have v1 : IntKind.i64.wrap (N - o) = N - o := IntWalk.i64_in _ (by omega)
  have v2 : IntKind.i64.wrap (cx - f) = cx - f := IntWalk.i64_in _ (by omega)
  have v3 : IntKind.i64.wrap (cy - f) = cy - f := IntWalk.i64_in _ (by omega)
  have KA0 : Free.Bel w1 (w1.alloc (.cells #[.int .i64 cx, .int .i64 cy] 24)) := belAlloc _ _
  have n0 : (w1.alloc (.cells #[.int .i64 cx, .int .i64 cy] 24)).cell? ⟨w1.heap.size, 0, none⟩ = some (.int .i64 cx) := by simp [go_sem]
  have n1 : (w1.alloc (.cells #[.int .i64 cx, .int .i64 cy] 24)).cell? ⟨w1.heap.size, 1, none⟩ = some (.int .i64 cy) := by simp [go_sem]
  have hz := FA _ KA0
  have ts := three_stores (w := (w1.alloc (.cells #[.int .i64 cx, .int .i64 cy] 24))) (b := bb + 1 + 1) (x := .int .i64 0) (y := .int .i64 0) (z := .int .i64 0) (.int .i64 (N - o)) (.int .i64 (cx - f)) (.int .i64 (cy - f)) (by simp [hz]) (by simp [hz]) (by simp [hz])
  have hBB : Below bb w ((((w1.alloc (.cells #[.int .i64 cx, .int .i64 cy] 24)).setCell ⟨bb + 1 + 1, 0, none⟩ (.int .i64 (N - o))).setCell ⟨bb + 1 + 1, 1, none⟩ (.int .i64 (cx - f))).setCell ⟨bb + 1 + 1, 2, none⟩ (.int .i64 (cy - f))) := (((HB_w1.out.trans (KA0.mono hz_w1)).setCell (p := ⟨bb + 1 + 1, 0, none⟩) (by simp; omega) _).setCell (p := ⟨bb + 1 + 1, 1, none⟩) (by simp; omega) _).setCell (p := ⟨bb + 1 + 1, 2, none⟩) (by simp; omega) _
  have HTS := Lib.hid ts
  have HBS := Lib.hid hBB
  clear hz ts hBB
  go_wp2_with fail
  have r0 := HTS.out.1
  have r1 := HTS.out.2.1
  have r2 := HTS.out.2.2
  have hbb := HBB.out
  subst hbb
  exact bodyPost_ret (v := .tuple #[i3 ((N - o)) ((cx - f)) ((cy - f)), .int .i64 0]) (by simp [results, Tryd.results34, go_sem, r0, r1, r2]) rfl ⟨rfl, HBS.out⟩
end Go.Proofs.YtdiclofeggkjcaaDoor

/- The law that a draw in two parts is a draw: its walk. -/
namespace Go.Proofs.YtdiclofeggkjcaaDoor
set_option linter.unusedSimpArgs false
set_option linter.unusedVariables false
open Go.RowKit Go.Proofs.YtdiclofeggkjcaaDoor.ML Go.Proofs.YtdiclofeggkjcaaDoor.Samp

theorem minOf2 (x y : Int) : (if y < x then y else x) = min x y := by split <;> omega
/-- What the first findings add. -/
def partsI (N d a b k : Int) : Nat → Int
  | 0 => 0
  | j + 1 => partsI N d a b k j + if (j : Int) ≤ k ∧ k - j ≤ b then waysI N d a j * waysI (N - a) (d - j) b (k - j) else 0
theorem partsI_nat (N d a b k : Nat) (hd : d ≤ N) (ha : a ≤ N) : ∀ j : Nat, j ≤ a + 1 → partsI N d a b k j = (sumTo (twoParts d (N - d) a b k) j : Nat)
  | 0, _ => by simp [partsI, sumTo]
  | j + 1, h => by
    rw [partsI, partsI_nat N d a b k hd ha j (by omega)]
    simp only [sumTo, Int.natCast_add]
    congr 1
    unfold twoParts
    by_cases h1 : j ≤ k ∧ k - j ≤ b
    · rw [if_pos (by omega), if_pos h1, waysI_natT N d a j hd (by omega)]
      by_cases h2 : Samp.ways d (N - d) a j = 0
      · rw [h2]; simp
      · have h3 : j ≤ d ∧ a - j ≤ N - d := by
          unfold Samp.ways at h2
          rw [if_pos (by omega)] at h2
          refine ⟨?_, ?_⟩
          · by_cases h4 : j ≤ d
            · exact h4
            · rw [nCk_gt d j (by omega)] at h2; simp at h2
          · by_cases h4 : a - j ≤ N - d
            · exact h4
            · rw [nCk_gt (N - d) (a - j) (by omega)] at h2; simp at h2
        have e := waysI_natT (N - a) (d - j) b (k - j) (by omega) (by omega)
        rw [show ((N : Int) - a) = ((N - a : Nat) : Int) by omega, show ((d : Int) - j) = ((d - j : Nat) : Int) by omega, show ((k : Int) - j) = ((k - j : Nat) : Int) by omega, e, show N - a - (d - j) = N - d - (a - j) by omega]
        simp
    · rw [if_neg (by omega), if_neg h1]; rfl
theorem waysI_nn (N D o f : Int) (h : 0 ≤ D) (h2 : D ≤ N) : 0 ≤ waysI N D o f := waysI_nonneg N D o f h h2
theorem parts_all (N d a b k : Int) (hN : 1 ≤ N ∧ N ≤ 36) (hd : 0 ≤ d ∧ d ≤ N) (ha : 0 ≤ a ∧ a ≤ N) (hb : 0 ≤ b ∧ b ≤ N - a) (hk : 0 ≤ k ∧ k ≤ a + b) :
    partsI N d a b k (a.toNat + 1) * chI N (a + b) = waysI N d (a + b) k * (chI N a * chI (N - a) b) ∧ partsI N d a b k (a.toNat + 1) ≤ chI N a * chI (N - a) b := by
  obtain ⟨n, rfl⟩ := Int.eq_ofNat_of_zero_le (show 0 ≤ N by omega)
  obtain ⟨D, rfl⟩ := Int.eq_ofNat_of_zero_le hd.1
  obtain ⟨A, rfl⟩ := Int.eq_ofNat_of_zero_le ha.1
  obtain ⟨B, rfl⟩ := Int.eq_ofNat_of_zero_le hb.1
  obtain ⟨K, rfl⟩ := Int.eq_ofNat_of_zero_le hk.1
  have h1 := partsI_nat n D A B K (by omega) (by omega) (A + 1) (by omega)
  rw [twoParts_sum D (n - D) A B K (by omega)] at h1
  have h2 := nCk_sub n A (A + B) (by omega)
  rw [show A + B - A = B by omega] at h2
  have h3 := waysI_natT n D (A + B) K (by omega) (by omega)
  have h4 := (waysI_le n D (A + B) K (by omega) (by omega) (by omega) (by omega)).2
  rw [show ((A : Int) + B) = ((A + B : Nat) : Int) by omega] at *
  rw [h3] at h4 ⊢
  rw [Int.toNat_natCast, h1, chI_nat, chI_nat, show ((n : Int) - A) = ((n - A : Nat) : Int) by omega, chI_nat]
  rw [chI_nat] at h4
  refine ⟨?_, ?_⟩
  · rw [← Int.natCast_mul (nCk n A), h2, ← Int.natCast_mul, ← Int.natCast_mul]
    congr 1; ac_rfl
  · rw [← Int.natCast_mul (nCk n A), h2]
    have h5 : Samp.ways D (n - D) (A + B) K ≤ nCk n (A + B) := by exact_mod_cast h4
    have h6 := Nat.mul_le_mul_left (nCk (A + B) A) h5
    rw [Nat.mul_comm (nCk (A + B) A) (nCk n (A + B))] at h6
    exact_mod_cast h6
theorem partsI_step (N d a b k : Int) (hd : 0 ≤ d ∧ d ≤ N) (ha : 0 ≤ a ∧ a ≤ N) (j : Nat) (hj : (j : Int) ≤ a) : partsI N d a b k j ≤ partsI N d a b k (j + 1) := by
  rw [partsI]
  have : 0 ≤ if (j : Int) ≤ k ∧ k - j ≤ b then waysI N d a j * waysI (N - a) (d - j) b (k - j) else 0 := by
    split
    · by_cases h : waysI N d a j = 0
      · rw [h, Int.zero_mul]; exact Int.le_refl _
      · have := ways_ne N d a j hd.1 hd.2 h
        exact Int.mul_nonneg (waysI_nn N d a j hd.1 hd.2) (waysI_nn (N - a) (d - j) b (k - j) (by omega) (by omega))
    · exact Int.le_refl _
  omega
theorem partsI_mono (N d a b k : Int) (hd : 0 ≤ d ∧ d ≤ N) (ha : 0 ≤ a ∧ a ≤ N) (i : Nat) : ∀ j : Nat, i ≤ j → (j : Int) ≤ a + 1 → partsI N d a b k i ≤ partsI N d a b k j
  | 0, h, _ => by obtain rfl : i = 0 := by omega
                  exact Int.le_refl _
  | j + 1, h, h2 => by
    by_cases e : i = j + 1
    · rw [e]; exact Int.le_refl _
    · exact Int.le_trans (partsI_mono N d a b k hd ha i j (by omega) (by omega)) (partsI_step N d a b k hd ha j (by omega))

set_option maxRecDepth 100000 in
set_option maxHeartbeats 8000000 in
theorem parts_walk (n x0 x1 x2 x3 : Int) (w : World) (hT : TabD w) (hn : 0 ≤ n ∧ n ≤ 255) (h0 : 0 ≤ x0 ∧ x0 ≤ 255) (h1 : 0 ≤ x1 ∧ x1 ≤ 255) (h2 : 0 ≤ x2 ∧ x2 ≤ 255) (h3 : 0 ≤ x3 ∧ x3 ≤ 255) :
    Calls Tryd.prog 9 #[.int .u8 n, .int .u8 x0, .int .u8 x1, .int .u8 x2, .int .u8 x3] w fun e w' => e = .returned (.bool true) ∧ Below w.heap.size w w' := by
  have hB0 : Below w.heap.size w w := Below.refl _ _
  have t0 := hT.1
  have t1 := hT.2.1
  have t2 := hT.2.2
  clear hT
  go_enter Tryd.func9, Tryd.ntmps9
  go_wp2_with fail
  refine (alive_any _ (tabD_mk t0 t1 t2)).mono ?_
  rintro e w1 ⟨rfl, hB1⟩
  have hBz : Below w.heap.size w w1 := hB0.trans (hB1.mono (by simp))
  have hzz : w.heap.size ≤ w1.heap.size := hBz.size
  have kt0 := keepsB hB1 t0
  have kt1 := keepsB hB1 t1
  have kt2 := keepsB hB1 t2
  clear hB0 hB1 t0 t1 t2
  generalize hbb : w.heap.size = bb at *
  have HBB := Lib.hid hbb
  clear hbb
  have HB_w1 := Lib.hid (show Below bb w w1 from hBz)
  have hz_w1 : bb ≤ w1.heap.size := hzz
  have FA : ∀ W, Free.Bel w1 W → W.cell? ⟨0, 0, none⟩ = some (dblF 130) ∧ W.cell? ⟨0, 1, none⟩ = some (dblF 131) ∧ W.cell? ⟨0, 2, none⟩ = some (dblF 132) ∧ bb ≤ W.heap.size := fun W hW => ⟨keepsB hW kt0, keepsB hW kt1, keepsB hW kt2, Nat.le_trans hz_w1 hW.size⟩
  have KR : Free.Bel w1 w1 := Free.Bel.refl _
  clear hBz hzz kt0 kt1 kt2
  have mn00 : 0 ≤ n % 35 := Int.emod_nonneg _ (by omega)
  have mn01 : n % 35 < 35 := Int.emod_lt_of_pos _ (by omega)
  have cn0 : IntKind.i64.wrap n = n := IntWalk.i64_in _ (by omega)
  have dn0 : n.tmod 35 = n % 35 := Int.tmod_eq_emod_of_nonneg (by omega)
  obtain ⟨n0, hn0⟩ : ∃ v9, n % 35 = v9 := ⟨_, rfl⟩
  rw [hn0] at mn00 mn01 dn0
  clear hn0
  have en0 : IntKind.i64.wrap n0 = n0 := IntWalk.i64_in _ (by omega)
  obtain ⟨N, hN⟩ : ∃ v9, 2 + n0 = v9 := ⟨_, rfl⟩
  have hNb : 2 ≤ N ∧ N ≤ 36 := by omega
  have v1 : IntKind.i64.wrap (2 + n0) = N := by rw [hN]; exact IntWalk.i64_in _ (by omega)
  clear hN
  have v2 : IntKind.i64.wrap (N + 1) = N + 1 := IntWalk.i64_in _ (by omega)
  have v3 : (N + 1 != 0) = true := by simp; omega
  have v3b : ¬ (N + 1 = 0) := by omega
  have v4 : (N != 0) = true := by simp; omega
  have v4b : ¬ (N = 0) := by omega
  have md0 : 0 ≤ x0 % (N + 1) := Int.emod_nonneg _ (by omega)
  have md1 : x0 % (N + 1) < (N + 1) := Int.emod_lt_of_pos _ (by omega)
  have cd : IntKind.i64.wrap x0 = x0 := IntWalk.i64_in _ (by omega)
  have dd : x0.tmod (N + 1) = x0 % (N + 1) := Int.tmod_eq_emod_of_nonneg (by omega)
  obtain ⟨d, hd⟩ : ∃ v9, x0 % (N + 1) = v9 := ⟨_, rfl⟩
  rw [hd] at md0 md1 dd
  clear hd
  have ed : IntKind.i64.wrap d = d := IntWalk.i64_in _ (by omega)
  have ma0 : 0 ≤ x1 % N := Int.emod_nonneg _ (by omega)
  have ma1 : x1 % N < N := Int.emod_lt_of_pos _ (by omega)
  have ca : IntKind.i64.wrap x1 = x1 := IntWalk.i64_in _ (by omega)
  have da : x1.tmod N = x1 % N := Int.tmod_eq_emod_of_nonneg (by omega)
  obtain ⟨a, ha⟩ : ∃ v9, x1 % N = v9 := ⟨_, rfl⟩
  rw [ha] at ma0 ma1 da
  clear ha
  have ea : IntKind.i64.wrap a = a := IntWalk.i64_in _ (by omega)
  have v5 : IntKind.i64.wrap (N - a) = N - a := IntWalk.i64_in _ (by omega)
  have v6 : IntKind.i64.wrap (N - a + 1) = N - a + 1 := IntWalk.i64_in _ (by omega)
  have v7 : (N - a + 1 != 0) = true := by simp; omega
  have v7b : ¬ (N - a + 1 = 0) := by omega
  have mb0 : 0 ≤ x2 % (N - a + 1) := Int.emod_nonneg _ (by omega)
  have mb1 : x2 % (N - a + 1) < (N - a + 1) := Int.emod_lt_of_pos _ (by omega)
  have cb : IntKind.i64.wrap x2 = x2 := IntWalk.i64_in _ (by omega)
  have db : x2.tmod (N - a + 1) = x2 % (N - a + 1) := Int.tmod_eq_emod_of_nonneg (by omega)
  obtain ⟨b, hb⟩ : ∃ v9, x2 % (N - a + 1) = v9 := ⟨_, rfl⟩
  rw [hb] at mb0 mb1 db
  clear hb
  have eb : IntKind.i64.wrap b = b := IntWalk.i64_in _ (by omega)
  have v8 : IntKind.i64.wrap (a + b) = a + b := IntWalk.i64_in _ (by omega)
  have v9 : IntKind.i64.wrap (a + b + 1) = a + b + 1 := IntWalk.i64_in _ (by omega)
  have v10 : (a + b + 1 != 0) = true := by simp; omega
  have v10b : ¬ (a + b + 1 = 0) := by omega
  have mk0 : 0 ≤ x3 % (a + b + 1) := Int.emod_nonneg _ (by omega)
  have mk1 : x3 % (a + b + 1) < (a + b + 1) := Int.emod_lt_of_pos _ (by omega)
  have ck : IntKind.i64.wrap x3 = x3 := IntWalk.i64_in _ (by omega)
  have dk : x3.tmod (a + b + 1) = x3 % (a + b + 1) := Int.tmod_eq_emod_of_nonneg (by omega)
  obtain ⟨k, hk⟩ : ∃ v9, x3 % (a + b + 1) = v9 := ⟨_, rfl⟩
  rw [hk] at mk0 mk1 dk
  clear hk
  have ek : IntKind.i64.wrap k = k := IntWalk.i64_in _ (by omega)
  obtain ⟨p0, q0, hpq0⟩ : ∃ p q, partV (waysI N d (a + b) k).toNat (chI N (a + b)).toNat = i2 p q := ⟨_, _, rfl⟩
  have hall := parts_all N d a b k (by omega) (by omega) (by omega) (by omega) (by omega)
  have c1 := chI_pos N a (by omega) (by omega) (by omega) (by omega)
  have c2 := chI_pos (N - a) b (by omega) (by omega) (by omega) (by omega)
  have c3 := chI_pos N (a + b) (by omega) (by omega) (by omega) (by omega)
  have hw0 := waysI_nonneg N d (a + b) k (by omega) (by omega)
  have h33 := chI_three N a b (by omega) (by omega) (by omega)
  have hmono := fun (j : Nat) (hj : j ≤ a.toNat + 1) => partsI_mono N d a b k (by omega) (by omega) j (a.toNat + 1) hj (by omega)
  have hmono0 := fun (j : Nat) (hj : j ≤ a.toNat + 1) => partsI_mono N d a b k (by omega) (by omega) 0 j (by omega) (by omega)
  have hfs0 : 0 < chI N a * chI (N - a) b := Int.mul_pos (by omega) (by omega)
  have hsum0 : 0 ≤ partsI N d a b k (a.toNat + 1) := hmono0 (a.toNat + 1) (Nat.le_refl _)
  have hend : partV (partsI N d a b k (a.toNat + 1)).toNat (chI N a * chI (N - a) b).toNat = i2 p0 q0 := by
    rw [← hpq0]
    exact partV_cross _ _ _ _ hsum0 hfs0 hw0 (by omega) hall.1
  have HP0 := Lib.hid hpq0
  have HEND := Lib.hid hend
  have HMONO := Lib.hid (fun (j : Nat) (hj : j ≤ a.toNat + 1) => (⟨hmono0 j hj, Int.le_trans (hmono j hj) hall.2⟩ : 0 ≤ partsI N d a b k j ∧ partsI N d a b k j ≤ chI N a * chI (N - a) b))
  obtain ⟨F, hF⟩ : ∃ x, chI N a = x := ⟨_, rfl⟩
  obtain ⟨S, hS⟩ : ∃ x, chI (N - a) b = x := ⟨_, rfl⟩
  have HFS := Lib.hid (And.intro hF hS)
  rw [hF] at c1
  rw [hS] at c2
  rw [hF, hS] at HMONO HEND h33 hfs0
  have v11 : IntKind.i64.wrap (F * S) = F * S := IntWalk.i64_in _ (by omega)
  have v12 : IntKind.i64.wrap (a + 1) = ((a.toNat + 1 : Nat) : Int) := by rw [IntWalk.i64_in _ (by omega)]; omega
  clear hpq0 hall hend hmono hmono0 hF hS hw0 hsum0 c3
  go_wp2_with fail
  refine (bags_any N _).mono ?_
  rintro e w2 ⟨rfl, hB⟩
  have HB_w2 := Lib.hid (HB_w1.out.trans ((hB).mono hz_w1))
  have hz_w2 : bb ≤ w2.heap.size := Nat.le_trans hz_w1 (hB).size
  have FN : ∀ W, Free.Bel w2 W → W.cell? ⟨0, 0, none⟩ = some (dblF 130) ∧ W.cell? ⟨0, 1, none⟩ = some (dblF 131) ∧ W.cell? ⟨0, 2, none⟩ = some (dblF 132) ∧ bb ≤ W.heap.size := fun W hW => by
    obtain ⟨a0, a1, a2, a3⟩ := FA W (Free.Bel.trans _ _ _ (hB) hW)
    exact ⟨a0, a1, a2, a3⟩
  clear FA HB_w1 hz_w1 KR
  have FA := FN
  clear FN
  have KR : Free.Bel w2 w2 := Free.Bel.refl _
  clear hB
  have KA0 : Free.Bel w2 (w2.alloc (.cells #[.int .i64 N, .int .i64 0, .int .i64 N] 26)) := Bel.allocT (Free.Bel.refl _) _
  go_wp2_with fail
  clear KA0
  have hN : Free.Bel w2 (w2.alloc (.cells #[.int .i64 N, .int .i64 0, .int .i64 N] 26)) := (Bel.allocT (Free.Bel.refl w2) _)
  have n_g20_0 : (w2.alloc (.cells #[.int .i64 N, .int .i64 0, .int .i64 N] 26)).cell? ⟨w2.heap.size, 0, none⟩ = some (.int .i64 N) := by simp [go_sem]
  have n_g20_1 : (w2.alloc (.cells #[.int .i64 N, .int .i64 0, .int .i64 N] 26)).cell? ⟨w2.heap.size, 1, none⟩ = some (.int .i64 0) := by simp [go_sem]
  have n_g20_2 : (w2.alloc (.cells #[.int .i64 N, .int .i64 0, .int .i64 N] 26)).cell? ⟨w2.heap.size, 2, none⟩ = some (.int .i64 N) := by simp [go_sem]
  generalize (w2.alloc (.cells #[.int .i64 N, .int .i64 0, .int .i64 N] 26)) = w3 at *
  obtain ⟨g20, hgz⟩ : ∃ x, x = w2.heap.size := ⟨_, rfl⟩
  rw [← hgz] at n_g20_0 n_g20_1 n_g20_2 ⊢
  clear hgz
  have HB_w3 := Lib.hid (HB_w2.out.trans ((hN).mono hz_w2))
  have hz_w3 : bb ≤ w3.heap.size := Nat.le_trans hz_w2 (hN).size
  have FN : ∀ W, Free.Bel w3 W → W.cell? ⟨0, 0, none⟩ = some (dblF 130) ∧ W.cell? ⟨0, 1, none⟩ = some (dblF 131) ∧ W.cell? ⟨0, 2, none⟩ = some (dblF 132) ∧ bb ≤ W.heap.size ∧ W.cell? ⟨g20, 0, none⟩ = some (.int .i64 N) ∧ W.cell? ⟨g20, 1, none⟩ = some (.int .i64 0) ∧ W.cell? ⟨g20, 2, none⟩ = some (.int .i64 N) := fun W hW => by
    obtain ⟨a0, a1, a2, a3⟩ := FA W (Free.Bel.trans _ _ _ (hN) hW)
    exact ⟨a0, a1, a2, a3, keepsB hW n_g20_0, keepsB hW n_g20_1, keepsB hW n_g20_2⟩
  clear FA HB_w2 hz_w2 KR
  have FA := FN
  clear FN
  have KR : Free.Bel w3 w3 := Free.Bel.refl _
  clear hN n_g20_0 n_g20_1 n_g20_2
  have hF : ∀ W, Below w3.heap.size w3.drew W → Free.Bel w3 W := fun W hW => (show Below w3.heap.size w3 W from ((Below.refl _ w3).drew).trans hW)
  refine Free2.wp_free (R := Below w3.heap.size) (J := LL w3.heap.size [⟨11, 12, (.cells #[.int .i64 0, .int .i64 0] 29), (.cells #[.int .i64 p0, .int .i64 q0] 29)⟩]) (by kernel_rfl) (by kernel_rfl) (Below.refl _) (fun _ _ _ => Below.trans) (LL.start (Nat.le_refl _)) ?_
  refine Free2.Chain.ex ?_ 0 rfl [] [12] (by kernel_rfl) (by kernel_rfl) rfl (Below.refl _) (fun X W v h => LL.skip h 0 v (by simp)) ?_ ?_
  rotate_left
  · (intro ev W hb hR hO hD; have hS := hF W hR; obtain ⟨hb1, hb2, hb3⟩ := hb; simp only [Free.AllDeps, Free.AllOuts, Free.At, List.getElem?_cons_succ, List.getElem?_cons_zero, Array.getD_eq_getD_getElem?, List.getElem?_toArray, Option.getD_some, and_true] at hO hD; go_simp; rfl)
  simp only [List.nil_append, List.cons_append]
  refine Free2.Chain.ex ?_ 1 rfl [] [13] (by kernel_rfl) (by kernel_rfl) rfl (Below.refl _) (fun X W v h => LL.skip h 1 v (by simp)) ?_ ?_
  rotate_left
  · (intro ev W hb hR hO hD; have hS := hF W hR; obtain ⟨hb1, hb2, hb3⟩ := hb; simp only [Free.AllDeps, Free.AllOuts, Free.At, List.getElem?_cons_succ, List.getElem?_cons_zero, Array.getD_eq_getD_getElem?, List.getElem?_toArray, Option.getD_some, and_true] at hO hD; go_simp; rfl)
  simp only [List.nil_append, List.cons_append]
  refine Free2.Chain.ex ?_ 2 rfl [] [14] (by kernel_rfl) (by kernel_rfl) rfl (Below.refl _) (fun X W v h => LL.skip h 2 v (by simp)) ?_ ?_
  rotate_left
  · (intro ev W hb hR hO hD; have hS := hF W hR; obtain ⟨hb1, hb2, hb3⟩ := hb; simp only [Free.AllDeps, Free.AllOuts, Free.At, List.getElem?_cons_succ, List.getElem?_cons_zero, Array.getD_eq_getD_getElem?, List.getElem?_toArray, Option.getD_some, and_true] at hO hD; go_simp; rfl)
  simp only [List.nil_append, List.cons_append]
  refine Free2.Chain.ex ?_ 3 rfl [] [15] (by kernel_rfl) (by kernel_rfl) rfl (Below.refl _) (fun X W v h => LL.skip h 3 v (by simp)) ?_ ?_
  rotate_left
  · (intro ev W hb hR hO hD; have hS := hF W hR; obtain ⟨hb1, hb2, hb3⟩ := hb; simp only [Free.AllDeps, Free.AllOuts, Free.At, List.getElem?_cons_succ, List.getElem?_cons_zero, Array.getD_eq_getD_getElem?, List.getElem?_toArray, Option.getD_some, and_true] at hO hD; go_simp; rfl)
  simp only [List.nil_append, List.cons_append]
  refine Free2.Chain.ex ?_ 4 rfl [(2, 68), (3, 69)] [] (by kernel_rfl) (by kernel_rfl) rfl (Below.refl _) (fun X W v h => LL.skip h 4 v (by simp)) ?_ ?_
  rotate_left
  · (intro ev W hb hR hO hD; have hS := hF W hR; obtain ⟨hb1, hb2, hb3⟩ := hb; simp only [Free.AllDeps, Free.AllOuts, Free.At, List.getElem?_cons_succ, List.getElem?_cons_zero, Array.getD_eq_getD_getElem?, List.getElem?_toArray, Option.getD_some, and_true] at hO hD; go_simp; rfl)
  simp only [List.nil_append, List.cons_append]
  refine Free2.Chain.ex ?_ 5 rfl [] [16] (by kernel_rfl) (by kernel_rfl) rfl (Below.refl _) (fun X W v h => LL.skip h 5 v (by simp)) ?_ ?_
  rotate_left
  · (intro ev W hb hR hO hD; have hS := hF W hR; obtain ⟨hb1, hb2, hb3⟩ := hb; simp only [Free.AllDeps, Free.AllOuts, Free.At, List.getElem?_cons_succ, List.getElem?_cons_zero, Array.getD_eq_getD_getElem?, List.getElem?_toArray, Option.getD_some, and_true] at hO hD; go_simp; rfl)
  simp only [List.nil_append, List.cons_append]
  refine Free2.Chain.pr (fun v _ => v = i2 (a + b) k) 6 rfl [(4, 70), (5, 71)] [] (by kernel_rfl) (by kernel_rfl) rfl (fun _ _ _ _ h => h) ?_ ?_
  · (intro ev W X hb hR hO hD hj hx hax; have hS := hF W hR; obtain ⟨hb1, hb2, hb3⟩ := hb; simp only [Free.AllDeps, Free.AllOuts, Free.At, List.getElem?_cons_succ, List.getElem?_cons_zero, Array.getD_eq_getD_getElem?, List.getElem?_toArray, Option.getD_some, and_true] at hO hD; simp only [Free2.AllX, and_true] at hax; go_simp; refine yields_enter ?_; (with_reducible refine (drawn_any (a + b) k _).mono ?_); rintro e W2 ⟨rfl, hB2⟩; exact ⟨_, rfl, hB2.mono hj.size, rfl, (hj.bel hB2).skip 6 _ (by simp)⟩)
  simp only [List.nil_append, List.cons_append]
  refine Free2.Chain.pr (fun v _ => v = .tuple #[i2 p0 q0, .int .i64 0]) 7 rfl [(0, 66), (1, 67), (6, 72), (6, 72)] [] (by kernel_rfl) (by kernel_rfl) rfl (fun _ _ _ _ h => h) ?_ ?_
  · (intro ev W X hb hR hO hD hj hx hax; have hS := hF W hR; obtain ⟨hb1, hb2, hb3⟩ := hb; simp only [Free.AllDeps, Free.AllOuts, Free.At, List.getElem?_cons_succ, List.getElem?_cons_zero, Array.getD_eq_getD_getElem?, List.getElem?_toArray, Option.getD_some, and_true] at hO hD; simp only [Free2.AllX, and_true] at hax; go_simp; refine yields_enter ?_; (with_reducible refine (chance_ok N 0 N d (a + b) k p0 q0 _ (by omega) (by omega) (by omega) HP0).mono ?_); rintro e W2 ⟨rfl, hB2⟩; exact ⟨_, rfl, hB2.mono hj.size, rfl, (hj.bel hB2).skip 7 _ (by simp)⟩)
  simp only [List.nil_append, List.cons_append]
  refine Free2.Chain.ex ?_ 8 rfl [(7, 73)] [] (by kernel_rfl) (by kernel_rfl) rfl (Below.refl _) (fun X W v h => LL.skip h 8 v (by simp)) ?_ ?_
  rotate_left
  · (intro ev W hb hR hO hD; have hS := hF W hR; obtain ⟨hb1, hb2, hb3⟩ := hb; simp only [Free.AllDeps, Free.AllOuts, Free.At, List.getElem?_cons_succ, List.getElem?_cons_zero, Array.getD_eq_getD_getElem?, List.getElem?_toArray, Option.getD_some, and_true] at hO hD; go_simp; rfl)
  simp only [List.nil_append, List.cons_append]
  refine Free2.Chain.ex ?_ 9 rfl [(8, 65)] [] (by kernel_rfl) (by kernel_rfl) rfl (Below.refl _) (fun X W v h => LL.skip h 9 v (by simp)) ?_ ?_
  rotate_left
  · (intro ev W hb hR hO hD; have hS := hF W hR; obtain ⟨hb1, hb2, hb3⟩ := hb; simp only [Free.AllDeps, Free.AllOuts, Free.At, List.getElem?_cons_succ, List.getElem?_cons_zero, Array.getD_eq_getD_getElem?, List.getElem?_toArray, Option.getD_some, and_true] at hO hD; go_simp; rfl)
  simp only [List.nil_append, List.cons_append]
  refine Free2.Chain.ex ?_ 10 rfl [(8, 65)] [] (by kernel_rfl) (by kernel_rfl) rfl (Below.refl _) (fun X W v h => LL.skip h 10 v (by simp)) ?_ ?_
  rotate_left
  · (intro ev W hb hR hO hD; have hS := hF W hR; obtain ⟨hb1, hb2, hb3⟩ := hb; simp only [Free.AllDeps, Free.AllOuts, Free.At, List.getElem?_cons_succ, List.getElem?_cons_zero, Array.getD_eq_getD_getElem?, List.getElem?_toArray, Option.getD_some, and_true] at hO hD; go_simp; rfl)
  simp only [List.nil_append, List.cons_append]
  refine Free2.Chain.pr (fun v _ => ∃ b, v = ptr b) 11 rfl [] [] (by kernel_rfl) (by kernel_rfl) rfl (fun _ _ _ _ h => h) ?_ ?_
  · (intro ev W X hb hR hO hD hj hx hax; have hS := hF W hR; obtain ⟨hb1, hb2, hb3⟩ := hb; simp only [Free.AllDeps, Free.AllOuts, Free.At, List.getElem?_cons_succ, List.getElem?_cons_zero, Array.getD_eq_getD_getElem?, List.getElem?_toArray, Option.getD_some, and_true] at hO hD; simp only [Free2.AllX, and_true] at hax; go_simp; exact ⟨(Below.refl _ W).alloc hj.size _, ⟨_, rfl⟩, hj.new ⟨11, 12, (.cells #[.int .i64 0, .int .i64 0] 29), (.cells #[.int .i64 p0, .int .i64 q0] 29)⟩ (by simp) (by simp) hx⟩)
  simp only [List.nil_append, List.cons_append]
  refine Free2.Chain.pr (fun _ _ => True) 12 rfl [(11, 17), (9, 74), (7, 73), (0, 66), (1, 67), (2, 68), (3, 69), (4, 70), (5, 71), (6, 72), (7, 73), (8, 65), (9, 74), (11, 17)] [] (by kernel_rfl) (by kernel_rfl) rfl (fun _ _ _ _ h => h) ?_ ?_
  · (intro ev W X hb hR hO hD hj hx hax; have hS := hF W hR; obtain ⟨hb1, hb2, hb3⟩ := hb; simp only [Free.AllDeps, Free.AllOuts, Free.At, List.getElem?_cons_succ, List.getElem?_cons_zero, Array.getD_eq_getD_getElem?, List.getElem?_toArray, Option.getD_some, and_true] at hO hD; simp only [Free2.AllX, and_true] at hax; obtain ⟨b, hb9, hs0, hbl⟩ := hj.at_ ⟨11, 12, (.cells #[.int .i64 0, .int .i64 0] 29), (.cells #[.int .i64 p0, .int .i64 q0] 29)⟩ (by simp) hax.1 hx; have hX := hax.1; rw [hb9] at hX; have hp := hj.puts ⟨11, 12, (.cells #[.int .i64 0, .int .i64 0] 29), (.cells #[.int .i64 p0, .int .i64 q0] 29)⟩ (by simp) (by simp) hX hs0 hbl [(0, .int .i64 p0), (1, .int .i64 q0)] rfl; have q0 : W.cell? ⟨b, 0, none⟩ = some (.int .i64 0) := cell_of_heap (o := 0) hbl rfl; have q1 : W.cell? ⟨b, 1, none⟩ = some (.int .i64 0) := cell_of_heap (o := 1) hbl rfl; have p0 : ∀ o, W.frozen? ⟨b, o, none⟩ = false := fun o => frozen_of_heap (o := o) hbl; go_simp; exact ⟨(hp undef).1, (hp _).2⟩)
  simp only [List.nil_append, List.cons_append]
  refine Free2.Chain.ex ?_ 13 rfl [(10, 75), (0, 66), (1, 67), (2, 68), (3, 69), (4, 70), (5, 71), (6, 72), (7, 73), (8, 65), (9, 74), (10, 75), (11, 17)] [] (by kernel_rfl) (by kernel_rfl) rfl (Below.refl _) (fun X W v h => LL.skip h 13 v (by simp)) ?_ ?_
  rotate_left
  · (intro ev W hb hR hO hD; have hS := hF W hR; obtain ⟨hb1, hb2, hb3⟩ := hb; simp only [Free.AllDeps, Free.AllOuts, Free.At, List.getElem?_cons_succ, List.getElem?_cons_zero, Array.getD_eq_getD_getElem?, List.getElem?_toArray, Option.getD_some, and_true] at hO hD; go_simp; rfl)
  simp only [List.nil_append, List.cons_append]
  intro xs w4 hR hV hX
  obtain ⟨X, hj, hxx⟩ := hX
  obtain ⟨b7, hp_b7, hs_b7, hl_b7⟩ := hj.done ⟨11, 12, (.cells #[.int .i64 0, .int .i64 0] 29), (.cells #[.int .i64 p0, .int .i64 q0] 29)⟩ (by simp) (hxx 11 (show (11 : Nat) < 14 by decide)) (hxx 12 (show (12 : Nat) < 14 by decide))
  simp only [Free.AllV, Free.At, List.length_cons, List.length_nil, Nat.reduceAdd, List.getElem?_cons_succ, List.getElem?_cons_zero, true_and, and_true] at hV
  simp only [Free.putsFrom, Act.put, Nat.zero_add, Nat.reduceAdd, hV, hp_b7, List.setIfInBounds_toArray, List.set_cons_succ, List.set_cons_zero]
  have hN := hF w4 hR
  have HB_w4 := Lib.hid (HB_w3.out.trans ((hN).mono hz_w3))
  have hz_w4 : bb ≤ w4.heap.size := Nat.le_trans hz_w3 (hN).size
  have FN : ∀ W, Free.Bel w4 W → W.cell? ⟨0, 0, none⟩ = some (dblF 130) ∧ W.cell? ⟨0, 1, none⟩ = some (dblF 131) ∧ W.cell? ⟨0, 2, none⟩ = some (dblF 132) ∧ bb ≤ W.heap.size ∧ W.cell? ⟨g20, 0, none⟩ = some (.int .i64 N) ∧ W.cell? ⟨g20, 1, none⟩ = some (.int .i64 0) ∧ W.cell? ⟨g20, 2, none⟩ = some (.int .i64 N) ∧ W.cell? ⟨b7, 0, none⟩ = some (.int .i64 p0) ∧ W.cell? ⟨b7, 1, none⟩ = some (.int .i64 q0) := fun W hW => by
    obtain ⟨a0, a1, a2, a3, a4, a5, a6⟩ := FA W (Free.Bel.trans _ _ _ (hN) hW)
    exact ⟨a0, a1, a2, a3, a4, a5, a6, keepsB hW (cell_of_heap (o := 0) hl_b7 rfl), keepsB hW (cell_of_heap (o := 1) hl_b7 rfl)⟩
  clear FA HB_w3 hz_w3 KR
  have FA := FN
  clear FN
  have KR : Free.Bel w4 w4 := Free.Bel.refl _
  clear hR hF hj hxx hV hN hp_b7 hs_b7 hl_b7
  go_wp2_with fail
  have hF : ∀ W, Free.Bel w4.drew W → Free.Bel w4 W := fun W hW => Free.Bel.trans _ _ _ (Bel.drewT (Free.Bel.refl _)) hW
  refine Free.wp_free (R := Free.Bel) (by kernel_rfl) (by kernel_rfl) Free.Bel.refl Free.Bel.trans ?_
  refine Free.Chain.ex ?_ [] [12] (by kernel_rfl) (by kernel_rfl) rfl Free.Bel.refl ?_ ?_
  rotate_left
  · (intro ev W hb hR hO hD; have hS := hF W hR; obtain ⟨hb1, hb2, hb3⟩ := hb; simp only [Free.AllDeps, Free.AllOuts, Free.At, List.getElem?_cons_succ, List.getElem?_cons_zero, Array.getD_eq_getD_getElem?, List.getElem?_toArray, Option.getD_some, and_true] at hO hD; go_simp; rfl)
  simp only [List.nil_append, List.cons_append]
  refine Free.Chain.ex ?_ [(0, 78)] [] (by kernel_rfl) (by kernel_rfl) rfl Free.Bel.refl ?_ ?_
  rotate_left
  · (intro ev W hb hR hO hD; have hS := hF W hR; obtain ⟨hb1, hb2, hb3⟩ := hb; simp only [Free.AllDeps, Free.AllOuts, Free.At, List.getElem?_cons_succ, List.getElem?_cons_zero, Array.getD_eq_getD_getElem?, List.getElem?_toArray, Option.getD_some, and_true] at hO hD; go_simp; rfl)
  simp only [List.nil_append, List.cons_append]
  refine Free.Chain.ex ?_ [] [14] (by kernel_rfl) (by kernel_rfl) rfl Free.Bel.refl ?_ ?_
  rotate_left
  · (intro ev W hb hR hO hD; have hS := hF W hR; obtain ⟨hb1, hb2, hb3⟩ := hb; simp only [Free.AllDeps, Free.AllOuts, Free.At, List.getElem?_cons_succ, List.getElem?_cons_zero, Array.getD_eq_getD_getElem?, List.getElem?_toArray, Option.getD_some, and_true] at hO hD; go_simp; rfl)
  simp only [List.nil_append, List.cons_append]
  refine Free.Chain.pr (fun v _ => v = .int .i64 F) [(1, 79), (2, 80)] [] (by kernel_rfl) (by kernel_rfl) rfl (fun _ _ _ _ h => h) ?_ ?_
  · (intro ev W hb hR hO hD; have hS := hF W hR; obtain ⟨hb1, hb2, hb3⟩ := hb; simp only [Free.AllDeps, Free.AllOuts, Free.At, List.getElem?_cons_succ, List.getElem?_cons_zero, Array.getD_eq_getD_getElem?, List.getElem?_toArray, Option.getD_some, and_true] at hO hD; go_simp; refine yields_enter ?_; (with_reducible refine (choose_any N a _ (by omega) (by omega) (by omega)).mono ?_); rintro e W2 ⟨rfl, rfl⟩; exact ⟨_, rfl, Free.Bel.refl _, by rw [HFS.out.1]⟩)
  simp only [List.nil_append, List.cons_append]
  refine Free.Chain.ex ?_ [] [12] (by kernel_rfl) (by kernel_rfl) rfl Free.Bel.refl ?_ ?_
  rotate_left
  · (intro ev W hb hR hO hD; have hS := hF W hR; obtain ⟨hb1, hb2, hb3⟩ := hb; simp only [Free.AllDeps, Free.AllOuts, Free.At, List.getElem?_cons_succ, List.getElem?_cons_zero, Array.getD_eq_getD_getElem?, List.getElem?_toArray, Option.getD_some, and_true] at hO hD; go_simp; rfl)
  simp only [List.nil_append, List.cons_append]
  refine Free.Chain.ex ?_ [(4, 82)] [] (by kernel_rfl) (by kernel_rfl) rfl Free.Bel.refl ?_ ?_
  rotate_left
  · (intro ev W hb hR hO hD; have hS := hF W hR; obtain ⟨hb1, hb2, hb3⟩ := hb; simp only [Free.AllDeps, Free.AllOuts, Free.At, List.getElem?_cons_succ, List.getElem?_cons_zero, Array.getD_eq_getD_getElem?, List.getElem?_toArray, Option.getD_some, and_true] at hO hD; go_simp; rfl)
  simp only [List.nil_append, List.cons_append]
  refine Free.Chain.ex ?_ [] [14] (by kernel_rfl) (by kernel_rfl) rfl Free.Bel.refl ?_ ?_
  rotate_left
  · (intro ev W hb hR hO hD; have hS := hF W hR; obtain ⟨hb1, hb2, hb3⟩ := hb; simp only [Free.AllDeps, Free.AllOuts, Free.At, List.getElem?_cons_succ, List.getElem?_cons_zero, Array.getD_eq_getD_getElem?, List.getElem?_toArray, Option.getD_some, and_true] at hO hD; go_simp; rfl)
  simp only [List.nil_append, List.cons_append]
  refine Free.Chain.ex ?_ [(5, 83), (6, 84)] [] (by kernel_rfl) (by kernel_rfl) rfl Free.Bel.refl ?_ ?_
  rotate_left
  · (intro ev W hb hR hO hD; have hS := hF W hR; obtain ⟨hb1, hb2, hb3⟩ := hb; simp only [Free.AllDeps, Free.AllOuts, Free.At, List.getElem?_cons_succ, List.getElem?_cons_zero, Array.getD_eq_getD_getElem?, List.getElem?_toArray, Option.getD_some, and_true] at hO hD; go_simp; rfl)
  simp only [List.nil_append, List.cons_append]
  refine Free.Chain.ex ?_ [] [15] (by kernel_rfl) (by kernel_rfl) rfl Free.Bel.refl ?_ ?_
  rotate_left
  · (intro ev W hb hR hO hD; have hS := hF W hR; obtain ⟨hb1, hb2, hb3⟩ := hb; simp only [Free.AllDeps, Free.AllOuts, Free.At, List.getElem?_cons_succ, List.getElem?_cons_zero, Array.getD_eq_getD_getElem?, List.getElem?_toArray, Option.getD_some, and_true] at hO hD; go_simp; rfl)
  simp only [List.nil_append, List.cons_append]
  refine Free.Chain.pr (fun v _ => v = .int .i64 S) [(7, 85), (8, 86), (3, 81)] [] (by kernel_rfl) (by kernel_rfl) rfl (fun _ _ _ _ h => h) ?_ ?_
  · (intro ev W hb hR hO hD; have hS := hF W hR; obtain ⟨hb1, hb2, hb3⟩ := hb; simp only [Free.AllDeps, Free.AllOuts, Free.At, List.getElem?_cons_succ, List.getElem?_cons_zero, Array.getD_eq_getD_getElem?, List.getElem?_toArray, Option.getD_some, and_true] at hO hD; go_simp; refine yields_enter ?_; (with_reducible refine (choose_any (N - a) b _ (by omega) (by omega) (by omega)).mono ?_); rintro e W2 ⟨rfl, rfl⟩; exact ⟨_, rfl, Free.Bel.refl _, by rw [HFS.out.2]⟩)
  simp only [List.nil_append, List.cons_append]
  refine Free.Chain.ex ?_ [(3, 81), (9, 87), (0, 78), (1, 79), (2, 80), (3, 81)] [] (by kernel_rfl) (by kernel_rfl) rfl Free.Bel.refl ?_ ?_
  rotate_left
  · (intro ev W hb hR hO hD; have hS := hF W hR; obtain ⟨hb1, hb2, hb3⟩ := hb; simp only [Free.AllDeps, Free.AllOuts, Free.At, List.getElem?_cons_succ, List.getElem?_cons_zero, Array.getD_eq_getD_getElem?, List.getElem?_toArray, Option.getD_some, and_true] at hO hD; go_simp; rfl)
  simp only [List.nil_append, List.cons_append]
  refine Free.Chain.ex ?_ [(9, 87), (10, 19), (0, 78), (1, 79), (2, 80), (3, 81), (4, 82), (5, 83), (6, 84), (7, 85), (8, 86), (9, 87), (10, 19)] [] (by kernel_rfl) (by kernel_rfl) rfl Free.Bel.refl ?_ ?_
  rotate_left
  · (intro ev W hb hR hO hD; have hS := hF W hR; obtain ⟨hb1, hb2, hb3⟩ := hb; simp only [Free.AllDeps, Free.AllOuts, Free.At, List.getElem?_cons_succ, List.getElem?_cons_zero, Array.getD_eq_getD_getElem?, List.getElem?_toArray, Option.getD_some, and_true] at hO hD; go_simp; rfl)
  simp only [List.nil_append, List.cons_append]
  intro xs w5 hR hV
  simp only [Free.AllV, Free.At, List.length_cons, List.length_nil, Nat.reduceAdd, List.getElem?_cons_succ, List.getElem?_cons_zero, true_and, and_true] at hV
  simp only [Free.putsFrom, Act.put, Nat.zero_add, Nat.reduceAdd, hV, List.setIfInBounds_toArray, List.set_cons_succ, List.set_cons_zero]
  have hN := hF w5 hR
  clear hR hF
  have HB_w5 := Lib.hid (HB_w4.out.trans ((hN).mono hz_w4))
  have hz_w5 : bb ≤ w5.heap.size := Nat.le_trans hz_w4 (hN).size
  have FN : ∀ W, Free.Bel w5 W → W.cell? ⟨0, 0, none⟩ = some (dblF 130) ∧ W.cell? ⟨0, 1, none⟩ = some (dblF 131) ∧ W.cell? ⟨0, 2, none⟩ = some (dblF 132) ∧ bb ≤ W.heap.size ∧ W.cell? ⟨g20, 0, none⟩ = some (.int .i64 N) ∧ W.cell? ⟨g20, 1, none⟩ = some (.int .i64 0) ∧ W.cell? ⟨g20, 2, none⟩ = some (.int .i64 N) ∧ W.cell? ⟨b7, 0, none⟩ = some (.int .i64 p0) ∧ W.cell? ⟨b7, 1, none⟩ = some (.int .i64 q0) := fun W hW => by
    obtain ⟨a0, a1, a2, a3, a4, a5, a6, a7, a8⟩ := FA W (Free.Bel.trans _ _ _ (hN) hW)
    exact ⟨a0, a1, a2, a3, a4, a5, a6, a7, a8⟩
  clear FA HB_w4 hz_w4 KR
  have FA := FN
  clear FN
  have KR : Free.Bel w5 w5 := Free.Bel.refl _
  clear hN hV
  go_wp2_with fail
  go_loopw [90, 21] (fun i s wr => ∃ j : Nat, j ≤ a.toNat + 1 ∧ i = .int .i64 j ∧ s = .int .i64 (partsI N d a b k j) ∧ Free.Bel w5 wr) (fun i _ _ => a.toNat + 1 - (intOf i).toNat)
  case atStart => exact ⟨0, by omega, rfl, rfl, Free.Bel.refl _⟩
  case round =>
    obtain ⟨j, hj, rfl, rfl, HKr⟩ := hrel
    have HB_wr := Lib.hid (HB_w5.out.trans ((HKr).mono hz_w5))
    have hz_wr : bb ≤ wr.heap.size := Nat.le_trans hz_w5 (HKr).size
    have FN : ∀ W, Free.Bel wr W → W.cell? ⟨0, 0, none⟩ = some (dblF 130) ∧ W.cell? ⟨0, 1, none⟩ = some (dblF 131) ∧ W.cell? ⟨0, 2, none⟩ = some (dblF 132) ∧ bb ≤ W.heap.size ∧ W.cell? ⟨g20, 0, none⟩ = some (.int .i64 N) ∧ W.cell? ⟨g20, 1, none⟩ = some (.int .i64 0) ∧ W.cell? ⟨g20, 2, none⟩ = some (.int .i64 N) ∧ W.cell? ⟨b7, 0, none⟩ = some (.int .i64 p0) ∧ W.cell? ⟨b7, 1, none⟩ = some (.int .i64 q0) := fun W hW => by
      obtain ⟨a0, a1, a2, a3, a4, a5, a6, a7, a8⟩ := FA W (Free.Bel.trans _ _ _ (HKr) hW)
      exact ⟨a0, a1, a2, a3, a4, a5, a6, a7, a8⟩
    clear FA HB_w5 hz_w5 KR
    have FA := FN
    clear FN
    have KR : Free.Bel wr wr := Free.Bel.refl _
    have HWR : Free.Bel wr wr := Free.Bel.refl _
    have HL_wr : Free.Bel w5 wr := HKr
    clear HKr
    by_cases hlt : j < a.toNat + 1
    · have hjm : (j : Int) < ((a.toNat + 1 : Nat) : Int) := by omega
      have hja : (0 : Int) ≤ j ∧ (j : Int) ≤ a := by omega
      obtain ⟨p1, q1, hpq⟩ : ∃ p q, partV (waysI N d a j).toNat (chI N a).toNat = i2 p q := ⟨_, _, rfl⟩
      have HP1 := Lib.hid hpq
      have HO1 := Lib.hid (show partV (waysI N d a j).toNat F.toNat = .agg #[.int .i64 p1, .int .i64 q1] by rw [← HFS.out.1]; exact hpq)
      have hm := waysI_le N d a j (by omega) (by omega) (by omega) (by omega)
      have hmp := waysI_pos N d a j (by omega) (by omega) (by omega) (by omega)
      have hst : partsI N d a b k (j + 1) = partsI N d a b k j + if (j : Int) ≤ k ∧ k - j ≤ b then waysI N d a j * waysI (N - a) (d - j) b (k - j) else 0 := rfl
      have hb0 := HMONO.out j (by omega)
      have hb1 := HMONO.out (j + 1) (by omega)
      rw [HFS.out.1] at hm
      obtain ⟨T0, hT0⟩ : ∃ x, partsI N d a b k j = x := ⟨_, rfl⟩
      obtain ⟨T1, hT1⟩ : ∃ x, partsI N d a b k (j + 1) = x := ⟨_, rfl⟩
      rw [hT0] at hb0 hst ⊢
      rw [hT1] at hb1 hst
      have HT1 := Lib.hid hT1
      obtain ⟨m, hmm⟩ : ∃ x, waysI N d a j = x := ⟨_, rfl⟩
      rw [hmm] at hm hmp hst HO1
      clear hmm hT0 hT1 hpq
      have u1 : IntKind.i64.wrap (k - j) = k - j := IntWalk.i64_in _ (by omega)
      go_wp2_with fail
      have hF : ∀ W, Below wr.heap.size wr.drew W → Free.Bel wr W := fun W hW => (show Below wr.heap.size wr W from ((Below.refl _ wr).drew).trans hW)
      refine Free2.wp_free (R := Below wr.heap.size) (J := LL wr.heap.size [⟨9, 10, (.cells #[.int .i64 0, .int .i64 0] 29), (.cells #[.int .i64 p1, .int .i64 q1] 29)⟩]) (by kernel_rfl) (by kernel_rfl) (Below.refl _) (fun _ _ _ => Below.trans) (LL.start (Nat.le_refl _)) ?_
      refine Free2.Chain.ex ?_ 0 rfl [] [12] (by kernel_rfl) (by kernel_rfl) rfl (Below.refl _) (fun X W v h => LL.skip h 0 v (by simp)) ?_ ?_
      rotate_left
      · (intro ev W hb hR hO hD; have hS := hF W hR; obtain ⟨hb1, hb2, hb3⟩ := hb; simp only [Free.AllDeps, Free.AllOuts, Free.At, List.getElem?_cons_succ, List.getElem?_cons_zero, Array.getD_eq_getD_getElem?, List.getElem?_toArray, Option.getD_some, and_true] at hO hD; go_simp; rfl)
      simp only [List.nil_append, List.cons_append]
      refine Free2.Chain.ex ?_ 1 rfl [] [13] (by kernel_rfl) (by kernel_rfl) rfl (Below.refl _) (fun X W v h => LL.skip h 1 v (by simp)) ?_ ?_
      rotate_left
      · (intro ev W hb hR hO hD; have hS := hF W hR; obtain ⟨hb1, hb2, hb3⟩ := hb; simp only [Free.AllDeps, Free.AllOuts, Free.At, List.getElem?_cons_succ, List.getElem?_cons_zero, Array.getD_eq_getD_getElem?, List.getElem?_toArray, Option.getD_some, and_true] at hO hD; go_simp; rfl)
      simp only [List.nil_append, List.cons_append]
      refine Free2.Chain.ex ?_ 2 rfl [] [14] (by kernel_rfl) (by kernel_rfl) rfl (Below.refl _) (fun X W v h => LL.skip h 2 v (by simp)) ?_ ?_
      rotate_left
      · (intro ev W hb hR hO hD; have hS := hF W hR; obtain ⟨hb1, hb2, hb3⟩ := hb; simp only [Free.AllDeps, Free.AllOuts, Free.At, List.getElem?_cons_succ, List.getElem?_cons_zero, Array.getD_eq_getD_getElem?, List.getElem?_toArray, Option.getD_some, and_true] at hO hD; go_simp; rfl)
      simp only [List.nil_append, List.cons_append]
      refine Free2.Chain.ex ?_ 3 rfl [] [22] (by kernel_rfl) (by kernel_rfl) rfl (Below.refl _) (fun X W v h => LL.skip h 3 v (by simp)) ?_ ?_
      rotate_left
      · (intro ev W hb hR hO hD; have hS := hF W hR; obtain ⟨hb1, hb2, hb3⟩ := hb; simp only [Free.AllDeps, Free.AllOuts, Free.At, List.getElem?_cons_succ, List.getElem?_cons_zero, Array.getD_eq_getD_getElem?, List.getElem?_toArray, Option.getD_some, and_true] at hO hD; go_simp; rfl)
      simp only [List.nil_append, List.cons_append]
      refine Free2.Chain.pr (fun v _ => v = i2 a j) 4 rfl [(2, 96), (3, 97)] [] (by kernel_rfl) (by kernel_rfl) rfl (fun _ _ _ _ h => h) ?_ ?_
      · (intro ev W X hb hR hO hD hj hx hax; have hS := hF W hR; obtain ⟨hb1, hb2, hb3⟩ := hb; simp only [Free.AllDeps, Free.AllOuts, Free.At, List.getElem?_cons_succ, List.getElem?_cons_zero, Array.getD_eq_getD_getElem?, List.getElem?_toArray, Option.getD_some, and_true] at hO hD; simp only [Free2.AllX, and_true] at hax; go_simp; refine yields_enter ?_; (with_reducible refine (drawn_any a j _).mono ?_); rintro e W2 ⟨rfl, hB2⟩; exact ⟨_, rfl, hB2.mono hj.size, rfl, (hj.bel hB2).skip 4 _ (by simp)⟩)
      simp only [List.nil_append, List.cons_append]
      refine Free2.Chain.pr (fun v _ => v = .tuple #[i2 p1 q1, .int .i64 0]) 5 rfl [(0, 94), (1, 95), (4, 98), (4, 98)] [] (by kernel_rfl) (by kernel_rfl) rfl (fun _ _ _ _ h => h) ?_ ?_
      · (intro ev W X hb hR hO hD hj hx hax; have hS := hF W hR; obtain ⟨hb1, hb2, hb3⟩ := hb; simp only [Free.AllDeps, Free.AllOuts, Free.At, List.getElem?_cons_succ, List.getElem?_cons_zero, Array.getD_eq_getD_getElem?, List.getElem?_toArray, Option.getD_some, and_true] at hO hD; simp only [Free2.AllX, and_true] at hax; go_simp; refine yields_enter ?_; (with_reducible refine (chance_ok N 0 N d a j p1 q1 _ (by omega) (by omega) (by omega) HP1).mono ?_); rintro e W2 ⟨rfl, hB2⟩; exact ⟨_, rfl, hB2.mono hj.size, rfl, (hj.bel hB2).skip 5 _ (by simp)⟩)
      simp only [List.nil_append, List.cons_append]
      refine Free2.Chain.ex ?_ 6 rfl [(5, 99)] [] (by kernel_rfl) (by kernel_rfl) rfl (Below.refl _) (fun X W v h => LL.skip h 6 v (by simp)) ?_ ?_
      rotate_left
      · (intro ev W hb hR hO hD; have hS := hF W hR; obtain ⟨hb1, hb2, hb3⟩ := hb; simp only [Free.AllDeps, Free.AllOuts, Free.At, List.getElem?_cons_succ, List.getElem?_cons_zero, Array.getD_eq_getD_getElem?, List.getElem?_toArray, Option.getD_some, and_true] at hO hD; go_simp; rfl)
      simp only [List.nil_append, List.cons_append]
      refine Free2.Chain.ex ?_ 7 rfl [(6, 93)] [] (by kernel_rfl) (by kernel_rfl) rfl (Below.refl _) (fun X W v h => LL.skip h 7 v (by simp)) ?_ ?_
      rotate_left
      · (intro ev W hb hR hO hD; have hS := hF W hR; obtain ⟨hb1, hb2, hb3⟩ := hb; simp only [Free.AllDeps, Free.AllOuts, Free.At, List.getElem?_cons_succ, List.getElem?_cons_zero, Array.getD_eq_getD_getElem?, List.getElem?_toArray, Option.getD_some, and_true] at hO hD; go_simp; rfl)
      simp only [List.nil_append, List.cons_append]
      refine Free2.Chain.ex ?_ 8 rfl [(6, 93)] [] (by kernel_rfl) (by kernel_rfl) rfl (Below.refl _) (fun X W v h => LL.skip h 8 v (by simp)) ?_ ?_
      rotate_left
      · (intro ev W hb hR hO hD; have hS := hF W hR; obtain ⟨hb1, hb2, hb3⟩ := hb; simp only [Free.AllDeps, Free.AllOuts, Free.At, List.getElem?_cons_succ, List.getElem?_cons_zero, Array.getD_eq_getD_getElem?, List.getElem?_toArray, Option.getD_some, and_true] at hO hD; go_simp; rfl)
      simp only [List.nil_append, List.cons_append]
      refine Free2.Chain.pr (fun v _ => ∃ b, v = ptr b) 9 rfl [] [] (by kernel_rfl) (by kernel_rfl) rfl (fun _ _ _ _ h => h) ?_ ?_
      · (intro ev W X hb hR hO hD hj hx hax; have hS := hF W hR; obtain ⟨hb1, hb2, hb3⟩ := hb; simp only [Free.AllDeps, Free.AllOuts, Free.At, List.getElem?_cons_succ, List.getElem?_cons_zero, Array.getD_eq_getD_getElem?, List.getElem?_toArray, Option.getD_some, and_true] at hO hD; simp only [Free2.AllX, and_true] at hax; go_simp; exact ⟨(Below.refl _ W).alloc hj.size _, ⟨_, rfl⟩, hj.new ⟨9, 10, (.cells #[.int .i64 0, .int .i64 0] 29), (.cells #[.int .i64 p1, .int .i64 q1] 29)⟩ (by simp) (by simp) hx⟩)
      simp only [List.nil_append, List.cons_append]
      refine Free2.Chain.pr (fun _ _ => True) 10 rfl [(9, 23), (7, 100), (5, 99), (0, 94), (1, 95), (2, 96), (3, 97), (4, 98), (5, 99), (6, 93), (7, 100), (9, 23)] [] (by kernel_rfl) (by kernel_rfl) rfl (fun _ _ _ _ h => h) ?_ ?_
      · (intro ev W X hb hR hO hD hj hx hax; have hS := hF W hR; obtain ⟨hb1, hb2, hb3⟩ := hb; simp only [Free.AllDeps, Free.AllOuts, Free.At, List.getElem?_cons_succ, List.getElem?_cons_zero, Array.getD_eq_getD_getElem?, List.getElem?_toArray, Option.getD_some, and_true] at hO hD; simp only [Free2.AllX, and_true] at hax; obtain ⟨b, hb9, hs0, hbl⟩ := hj.at_ ⟨9, 10, (.cells #[.int .i64 0, .int .i64 0] 29), (.cells #[.int .i64 p1, .int .i64 q1] 29)⟩ (by simp) hax.1 hx; have hX := hax.1; rw [hb9] at hX; have hp := hj.puts ⟨9, 10, (.cells #[.int .i64 0, .int .i64 0] 29), (.cells #[.int .i64 p1, .int .i64 q1] 29)⟩ (by simp) (by simp) hX hs0 hbl [(0, .int .i64 p1), (1, .int .i64 q1)] rfl; have q0 : W.cell? ⟨b, 0, none⟩ = some (.int .i64 0) := cell_of_heap (o := 0) hbl rfl; have q1 : W.cell? ⟨b, 1, none⟩ = some (.int .i64 0) := cell_of_heap (o := 1) hbl rfl; have p0 : ∀ o, W.frozen? ⟨b, o, none⟩ = false := fun o => frozen_of_heap (o := o) hbl; go_simp; exact ⟨(hp undef).1, (hp _).2⟩)
      simp only [List.nil_append, List.cons_append]
      refine Free2.Chain.ex ?_ 11 rfl [(8, 101), (0, 94), (1, 95), (2, 96), (3, 97), (4, 98), (5, 99), (6, 93), (7, 100), (8, 101), (9, 23)] [] (by kernel_rfl) (by kernel_rfl) rfl (Below.refl _) (fun X W v h => LL.skip h 11 v (by simp)) ?_ ?_
      rotate_left
      · (intro ev W hb hR hO hD; have hS := hF W hR; obtain ⟨hb1, hb2, hb3⟩ := hb; simp only [Free.AllDeps, Free.AllOuts, Free.At, List.getElem?_cons_succ, List.getElem?_cons_zero, Array.getD_eq_getD_getElem?, List.getElem?_toArray, Option.getD_some, and_true] at hO hD; go_simp; rfl)
      simp only [List.nil_append, List.cons_append]
      intro xs w6 hR hV hX
      obtain ⟨X, hj, hxx⟩ := hX
      obtain ⟨b15, hp_b15, hs_b15, hl_b15⟩ := hj.done ⟨9, 10, (.cells #[.int .i64 0, .int .i64 0] 29), (.cells #[.int .i64 p1, .int .i64 q1] 29)⟩ (by simp) (hxx 9 (show (9 : Nat) < 12 by decide)) (hxx 10 (show (10 : Nat) < 12 by decide))
      simp only [Free.AllV, Free.At, List.length_cons, List.length_nil, Nat.reduceAdd, List.getElem?_cons_succ, List.getElem?_cons_zero, true_and, and_true] at hV
      simp only [Free.putsFrom, Act.put, Nat.zero_add, Nat.reduceAdd, hV, hp_b15, List.setIfInBounds_toArray, List.set_cons_succ, List.set_cons_zero]
      have hN := hF w6 hR
      have HB_w6 := Lib.hid (HB_wr.out.trans ((hN).mono hz_wr))
      have hz_w6 : bb ≤ w6.heap.size := Nat.le_trans hz_wr (hN).size
      have HL_w6 : Free.Bel w5 w6 := Free.Bel.trans _ _ _ HL_wr (hN)
      clear HL_wr
      have HWR : Free.Bel wr w6 := Free.Bel.trans _ _ _ HWR (hN)
      have FN : ∀ W, Free.Bel w6 W → W.cell? ⟨0, 0, none⟩ = some (dblF 130) ∧ W.cell? ⟨0, 1, none⟩ = some (dblF 131) ∧ W.cell? ⟨0, 2, none⟩ = some (dblF 132) ∧ bb ≤ W.heap.size ∧ W.cell? ⟨g20, 0, none⟩ = some (.int .i64 N) ∧ W.cell? ⟨g20, 1, none⟩ = some (.int .i64 0) ∧ W.cell? ⟨g20, 2, none⟩ = some (.int .i64 N) ∧ W.cell? ⟨b7, 0, none⟩ = some (.int .i64 p0) ∧ W.cell? ⟨b7, 1, none⟩ = some (.int .i64 q0) ∧ W.cell? ⟨b15, 0, none⟩ = some (.int .i64 p1) ∧ W.cell? ⟨b15, 1, none⟩ = some (.int .i64 q1) := fun W hW => by
        obtain ⟨a0, a1, a2, a3, a4, a5, a6, a7, a8⟩ := FA W (Free.Bel.trans _ _ _ (hN) hW)
        exact ⟨a0, a1, a2, a3, a4, a5, a6, a7, a8, keepsB hW (cell_of_heap (o := 0) hl_b15 rfl), keepsB hW (cell_of_heap (o := 1) hl_b15 rfl)⟩
      clear FA HB_wr hz_wr KR
      have FA := FN
      clear FN
      have KR : Free.Bel w6 w6 := Free.Bel.refl _
      clear hR hF hj hxx hV hN hp_b15 hs_b15 hl_b15
      go_wp2_with fail
      refine (over_any m F p1 q1 _ (by omega) (by omega) (by omega) (by omega) HO1).mono ?_
      rintro e w7 ⟨rfl, hB⟩
      have HB_w7 := Lib.hid (HB_w6.out.trans ((hB).mono hz_w6))
      have hz_w7 : bb ≤ w7.heap.size := Nat.le_trans hz_w6 (hB).size
      have HL_w7 : Free.Bel w5 w7 := Free.Bel.trans _ _ _ HL_w6 (hB)
      clear HL_w6
      have HWR : Free.Bel wr w7 := Free.Bel.trans _ _ _ HWR (hB)
      have FN : ∀ W, Free.Bel w7 W → W.cell? ⟨0, 0, none⟩ = some (dblF 130) ∧ W.cell? ⟨0, 1, none⟩ = some (dblF 131) ∧ W.cell? ⟨0, 2, none⟩ = some (dblF 132) ∧ bb ≤ W.heap.size ∧ W.cell? ⟨g20, 0, none⟩ = some (.int .i64 N) ∧ W.cell? ⟨g20, 1, none⟩ = some (.int .i64 0) ∧ W.cell? ⟨g20, 2, none⟩ = some (.int .i64 N) ∧ W.cell? ⟨b7, 0, none⟩ = some (.int .i64 p0) ∧ W.cell? ⟨b7, 1, none⟩ = some (.int .i64 q0) ∧ W.cell? ⟨b15, 0, none⟩ = some (.int .i64 p1) ∧ W.cell? ⟨b15, 1, none⟩ = some (.int .i64 q1) := fun W hW => by
        obtain ⟨a0, a1, a2, a3, a4, a5, a6, a7, a8, a9, a10⟩ := FA W (Free.Bel.trans _ _ _ (hB) hW)
        exact ⟨a0, a1, a2, a3, a4, a5, a6, a7, a8, a9, a10⟩
      clear FA HB_w6 hz_w6 KR
      have FA := FN
      clear FN
      have KR : Free.Bel w7 w7 := Free.Bel.refl _
      clear hB
      by_cases g1 : m = 0
      · have k1 : (m == 0) = true := by simp [g1]
        have hst2 : T1 = T0 := by rw [hst, g1]; simp
        have HST := Lib.hid hst2
        clear hst hst2
        go_wp2_with fail
        go_roundw
        case rel => exact ⟨j + 1, by omega, by go_num, by rw [HT1.out, HST.out], HL_w7⟩
        case measure => first | (simp [intOf]; done) | (simp [intOf]; omega)
      · have k1 : (m == 0) = false := by simp [g1]
        by_cases g2 : k - (j : Int) < 0
        · have k2 : decide (k - (j : Int) < 0) = true := decide_eq_true g2
          have hst2 : T1 = T0 := by rw [hst, if_neg (by omega)]; omega
          have HST := Lib.hid hst2
          clear hst hst2
          go_wp2_with fail
          go_roundw
          case rel => exact ⟨j + 1, by omega, by go_num, by rw [HT1.out, HST.out], HL_w7⟩
          case measure => first | (simp [intOf]; done) | (simp [intOf]; omega)
        · have k2 : decide (k - (j : Int) < 0) = false := decide_eq_false g2
          by_cases g3 : b < k - (j : Int)
          · have k3 : decide (b < k - (j : Int)) = true := decide_eq_true g3
            have hst2 : T1 = T0 := by rw [hst, if_neg (by omega)]; omega
            have HST := Lib.hid hst2
            clear hst hst2
            go_wp2_with fail
            go_roundw
            case rel => exact ⟨j + 1, by omega, by go_num, by rw [HT1.out, HST.out], HL_w7⟩
            case measure => first | (simp [intOf]; done) | (simp [intOf]; omega)
          · have k3 : decide (b < k - (j : Int)) = false := decide_eq_false g3
            have hpos := hmp.1 (by omega)
            have hcan : canR N 0 N a j = .tuple #[i2 j (N - (a - j)), .int .i64 0] := by
              rcases can_at N 0 N a j (by omega) (by omega) with ⟨_, _, h⟩ | ⟨h, _, _⟩
              · rw [h, show max 0 (j : Int) = j by omega, show min N (N - (a - (j : Int))) = N - (a - j) by omega]
              · omega
            have KR9 : Hid (∀ W, Calls Tryd.prog 34 #[.agg #[.int .i64 N, .int .i64 0, .int .i64 N], i2 a j] W fun e w' => e = .returned (.tuple #[i3 (N - a) 0 (N - a), .int .i64 0]) ∧ Below W.heap.size W w') := fun W => by
              have := rest_ok N 0 N a j W (by omega) (by omega) j (N - (a - j)) hcan (by omega) (by omega)
              rw [show (j : Int) - j = 0 by omega, show N - (a - (j : Int)) - j = N - a by omega] at this
              exact this
            obtain ⟨p2, q2, hpq2⟩ : ∃ p q, partV (waysI (N - a) (d - j) b (k - j)).toNat (chI (N - a) b).toNat = i2 p q := ⟨_, _, rfl⟩
            have HP2 := Lib.hid hpq2
            have HO2 := Lib.hid (show partV (waysI (N - a) (d - j) b (k - j)).toNat S.toNat = .agg #[.int .i64 p2, .int .i64 q2] by rw [← HFS.out.2]; exact hpq2)
            have hm2 := waysI_le (N - a) (d - j) b (k - j) (by omega) (by omega) (by omega) (by omega)
            rw [HFS.out.2] at hm2
            have hst2 : T1 = T0 + m * waysI (N - a) (d - j) b (k - j) := by rw [hst, if_pos (by omega)]
            obtain ⟨o, hoo⟩ : ∃ x, waysI (N - a) (d - j) b (k - j) = x := ⟨_, rfl⟩
            rw [hoo] at hm2 hst2 HO2
            have HST := Lib.hid hst2
            have y1 : 0 ≤ m * o := Int.mul_nonneg (by omega) (by omega)
            have u2 : IntKind.i64.wrap (d - j) = d - j := IntWalk.i64_in _ (by omega)
            have u3 : IntKind.i64.wrap (m * o) = m * o := IntWalk.i64_in _ (by omega)
            have u4 : IntKind.i64.wrap (T0 + m * o) = T0 + m * o := IntWalk.i64_in _ (by omega)
            clear hst hst2 hpq2 hoo hcan
            go_wp2_with fail
            have hF : ∀ W, Below w7.heap.size w7.drew W → Free.Bel w7 W := fun W hW => (show Below w7.heap.size w7 W from ((Below.refl _ w7).drew).trans hW)
            refine Free2.wp_free (R := Below w7.heap.size) (J := LL w7.heap.size [⟨8, 9, (.cells #[.int .i64 0, .int .i64 0, .int .i64 0] 26), (.cells #[.int .i64 (N - a), .int .i64 0, .int .i64 (N - a)] 26)⟩]) (by kernel_rfl) (by kernel_rfl) (Below.refl _) (fun _ _ _ => Below.trans) (LL.start (Nat.le_refl _)) ?_
            refine Free2.Chain.ex ?_ 0 rfl [] [12] (by kernel_rfl) (by kernel_rfl) rfl (Below.refl _) (fun X W v h => LL.skip h 0 v (by simp)) ?_ ?_
            rotate_left
            · (intro ev W hb hR hO hD; have hS := hF W hR; obtain ⟨hb1, hb2, hb3⟩ := hb; simp only [Free.AllDeps, Free.AllOuts, Free.At, List.getElem?_cons_succ, List.getElem?_cons_zero, Array.getD_eq_getD_getElem?, List.getElem?_toArray, Option.getD_some, and_true] at hO hD; go_simp; rfl)
            simp only [List.nil_append, List.cons_append]
            refine Free2.Chain.ex ?_ 1 rfl [] [14] (by kernel_rfl) (by kernel_rfl) rfl (Below.refl _) (fun X W v h => LL.skip h 1 v (by simp)) ?_ ?_
            rotate_left
            · (intro ev W hb hR hO hD; have hS := hF W hR; obtain ⟨hb1, hb2, hb3⟩ := hb; simp only [Free.AllDeps, Free.AllOuts, Free.At, List.getElem?_cons_succ, List.getElem?_cons_zero, Array.getD_eq_getD_getElem?, List.getElem?_toArray, Option.getD_some, and_true] at hO hD; go_simp; rfl)
            simp only [List.nil_append, List.cons_append]
            refine Free2.Chain.ex ?_ 2 rfl [] [22] (by kernel_rfl) (by kernel_rfl) rfl (Below.refl _) (fun X W v h => LL.skip h 2 v (by simp)) ?_ ?_
            rotate_left
            · (intro ev W hb hR hO hD; have hS := hF W hR; obtain ⟨hb1, hb2, hb3⟩ := hb; simp only [Free.AllDeps, Free.AllOuts, Free.At, List.getElem?_cons_succ, List.getElem?_cons_zero, Array.getD_eq_getD_getElem?, List.getElem?_toArray, Option.getD_some, and_true] at hO hD; go_simp; rfl)
            simp only [List.nil_append, List.cons_append]
            refine Free2.Chain.pr (fun v _ => v = i2 a j) 3 rfl [(1, 131), (2, 132)] [] (by kernel_rfl) (by kernel_rfl) rfl (fun _ _ _ _ h => h) ?_ ?_
            · (intro ev W X hb hR hO hD hj hx hax; have hS := hF W hR; obtain ⟨hb1, hb2, hb3⟩ := hb; simp only [Free.AllDeps, Free.AllOuts, Free.At, List.getElem?_cons_succ, List.getElem?_cons_zero, Array.getD_eq_getD_getElem?, List.getElem?_toArray, Option.getD_some, and_true] at hO hD; simp only [Free2.AllX, and_true] at hax; go_simp; refine yields_enter ?_; (with_reducible refine (drawn_any a j _).mono ?_); rintro e W2 ⟨rfl, hB2⟩; exact ⟨_, rfl, hB2.mono hj.size, rfl, (hj.bel hB2).skip 3 _ (by simp)⟩)
            simp only [List.nil_append, List.cons_append]
            refine Free2.Chain.pr (fun v _ => v = .tuple #[i3 (N - a) 0 (N - a), .int .i64 0]) 4 rfl [(0, 130), (3, 133), (3, 133)] [] (by kernel_rfl) (by kernel_rfl) rfl (fun _ _ _ _ h => h) ?_ ?_
            · (intro ev W X hb hR hO hD hj hx hax; have hS := hF W hR; obtain ⟨hb1, hb2, hb3⟩ := hb; simp only [Free.AllDeps, Free.AllOuts, Free.At, List.getElem?_cons_succ, List.getElem?_cons_zero, Array.getD_eq_getD_getElem?, List.getElem?_toArray, Option.getD_some, and_true] at hO hD; simp only [Free2.AllX, and_true] at hax; go_simp; refine yields_enter ?_; (with_reducible refine (KR9.out _).mono ?_); rintro e W2 ⟨rfl, hB2⟩; exact ⟨_, rfl, hB2.mono hj.size, rfl, (hj.bel hB2).skip 4 _ (by simp)⟩)
            simp only [List.nil_append, List.cons_append]
            refine Free2.Chain.ex ?_ 5 rfl [(4, 134)] [] (by kernel_rfl) (by kernel_rfl) rfl (Below.refl _) (fun X W v h => LL.skip h 5 v (by simp)) ?_ ?_
            rotate_left
            · (intro ev W hb hR hO hD; have hS := hF W hR; obtain ⟨hb1, hb2, hb3⟩ := hb; simp only [Free.AllDeps, Free.AllOuts, Free.At, List.getElem?_cons_succ, List.getElem?_cons_zero, Array.getD_eq_getD_getElem?, List.getElem?_toArray, Option.getD_some, and_true] at hO hD; go_simp; rfl)
            simp only [List.nil_append, List.cons_append]
            refine Free2.Chain.ex ?_ 6 rfl [(5, 129)] [] (by kernel_rfl) (by kernel_rfl) rfl (Below.refl _) (fun X W v h => LL.skip h 6 v (by simp)) ?_ ?_
            rotate_left
            · (intro ev W hb hR hO hD; have hS := hF W hR; obtain ⟨hb1, hb2, hb3⟩ := hb; simp only [Free.AllDeps, Free.AllOuts, Free.At, List.getElem?_cons_succ, List.getElem?_cons_zero, Array.getD_eq_getD_getElem?, List.getElem?_toArray, Option.getD_some, and_true] at hO hD; go_simp; rfl)
            simp only [List.nil_append, List.cons_append]
            refine Free2.Chain.ex ?_ 7 rfl [(5, 129)] [] (by kernel_rfl) (by kernel_rfl) rfl (Below.refl _) (fun X W v h => LL.skip h 7 v (by simp)) ?_ ?_
            rotate_left
            · (intro ev W hb hR hO hD; have hS := hF W hR; obtain ⟨hb1, hb2, hb3⟩ := hb; simp only [Free.AllDeps, Free.AllOuts, Free.At, List.getElem?_cons_succ, List.getElem?_cons_zero, Array.getD_eq_getD_getElem?, List.getElem?_toArray, Option.getD_some, and_true] at hO hD; go_simp; rfl)
            simp only [List.nil_append, List.cons_append]
            refine Free2.Chain.pr (fun v _ => ∃ b, v = ptr b) 8 rfl [] [] (by kernel_rfl) (by kernel_rfl) rfl (fun _ _ _ _ h => h) ?_ ?_
            · (intro ev W X hb hR hO hD hj hx hax; have hS := hF W hR; obtain ⟨hb1, hb2, hb3⟩ := hb; simp only [Free.AllDeps, Free.AllOuts, Free.At, List.getElem?_cons_succ, List.getElem?_cons_zero, Array.getD_eq_getD_getElem?, List.getElem?_toArray, Option.getD_some, and_true] at hO hD; simp only [Free2.AllX, and_true] at hax; go_simp; exact ⟨(Below.refl _ W).alloc hj.size _, ⟨_, rfl⟩, hj.new ⟨8, 9, (.cells #[.int .i64 0, .int .i64 0, .int .i64 0] 26), (.cells #[.int .i64 (N - a), .int .i64 0, .int .i64 (N - a)] 26)⟩ (by simp) (by simp) hx⟩)
            simp only [List.nil_append, List.cons_append]
            refine Free2.Chain.pr (fun _ _ => True) 9 rfl [(8, 27), (6, 135), (4, 134), (0, 130), (1, 131), (2, 132), (3, 133), (4, 134), (5, 129), (6, 135), (8, 27)] [] (by kernel_rfl) (by kernel_rfl) rfl (fun _ _ _ _ h => h) ?_ ?_
            · (intro ev W X hb hR hO hD hj hx hax; have hS := hF W hR; obtain ⟨hb1, hb2, hb3⟩ := hb; simp only [Free.AllDeps, Free.AllOuts, Free.At, List.getElem?_cons_succ, List.getElem?_cons_zero, Array.getD_eq_getD_getElem?, List.getElem?_toArray, Option.getD_some, and_true] at hO hD; simp only [Free2.AllX, and_true] at hax; obtain ⟨b, hb9, hs0, hbl⟩ := hj.at_ ⟨8, 9, (.cells #[.int .i64 0, .int .i64 0, .int .i64 0] 26), (.cells #[.int .i64 (N - a), .int .i64 0, .int .i64 (N - a)] 26)⟩ (by simp) hax.1 hx; have hX := hax.1; rw [hb9] at hX; have hp := hj.puts ⟨8, 9, (.cells #[.int .i64 0, .int .i64 0, .int .i64 0] 26), (.cells #[.int .i64 (N - a), .int .i64 0, .int .i64 (N - a)] 26)⟩ (by simp) (by simp) hX hs0 hbl [(0, .int .i64 (N - a)), (1, .int .i64 0), (2, .int .i64 (N - a))] rfl; have q0 : W.cell? ⟨b, 0, none⟩ = some (.int .i64 0) := cell_of_heap (o := 0) hbl rfl; have q1 : W.cell? ⟨b, 1, none⟩ = some (.int .i64 0) := cell_of_heap (o := 1) hbl rfl; have q2 : W.cell? ⟨b, 2, none⟩ = some (.int .i64 0) := cell_of_heap (o := 2) hbl rfl; have p0 : ∀ o, W.frozen? ⟨b, o, none⟩ = false := fun o => frozen_of_heap (o := o) hbl; go_simp; exact ⟨(hp undef).1, (hp _).2⟩)
            simp only [List.nil_append, List.cons_append]
            refine Free2.Chain.ex ?_ 10 rfl [(7, 136), (0, 130), (1, 131), (2, 132), (3, 133), (4, 134), (5, 129), (6, 135), (7, 136), (8, 27)] [] (by kernel_rfl) (by kernel_rfl) rfl (Below.refl _) (fun X W v h => LL.skip h 10 v (by simp)) ?_ ?_
            rotate_left
            · (intro ev W hb hR hO hD; have hS := hF W hR; obtain ⟨hb1, hb2, hb3⟩ := hb; simp only [Free.AllDeps, Free.AllOuts, Free.At, List.getElem?_cons_succ, List.getElem?_cons_zero, Array.getD_eq_getD_getElem?, List.getElem?_toArray, Option.getD_some, and_true] at hO hD; go_simp; rfl)
            simp only [List.nil_append, List.cons_append]
            intro xs w8 hR hV hX
            obtain ⟨X, hj, hxx⟩ := hX
            obtain ⟨b20, hp_b20, hs_b20, hl_b20⟩ := hj.done ⟨8, 9, (.cells #[.int .i64 0, .int .i64 0, .int .i64 0] 26), (.cells #[.int .i64 (N - a), .int .i64 0, .int .i64 (N - a)] 26)⟩ (by simp) (hxx 8 (show (8 : Nat) < 11 by decide)) (hxx 9 (show (9 : Nat) < 11 by decide))
            simp only [Free.AllV, Free.At, List.length_cons, List.length_nil, Nat.reduceAdd, List.getElem?_cons_succ, List.getElem?_cons_zero, true_and, and_true] at hV
            simp only [Free.putsFrom, Act.put, Nat.zero_add, Nat.reduceAdd, hV, hp_b20, List.setIfInBounds_toArray, List.set_cons_succ, List.set_cons_zero]
            have hN := hF w8 hR
            have HB_w8 := Lib.hid (HB_w7.out.trans ((hN).mono hz_w7))
            have hz_w8 : bb ≤ w8.heap.size := Nat.le_trans hz_w7 (hN).size
            have HL_w8 : Free.Bel w5 w8 := Free.Bel.trans _ _ _ HL_w7 (hN)
            clear HL_w7
            have HWR : Free.Bel wr w8 := Free.Bel.trans _ _ _ HWR (hN)
            have FN : ∀ W, Free.Bel w8 W → W.cell? ⟨0, 0, none⟩ = some (dblF 130) ∧ W.cell? ⟨0, 1, none⟩ = some (dblF 131) ∧ W.cell? ⟨0, 2, none⟩ = some (dblF 132) ∧ bb ≤ W.heap.size ∧ W.cell? ⟨g20, 0, none⟩ = some (.int .i64 N) ∧ W.cell? ⟨g20, 1, none⟩ = some (.int .i64 0) ∧ W.cell? ⟨g20, 2, none⟩ = some (.int .i64 N) ∧ W.cell? ⟨b7, 0, none⟩ = some (.int .i64 p0) ∧ W.cell? ⟨b7, 1, none⟩ = some (.int .i64 q0) ∧ W.cell? ⟨b15, 0, none⟩ = some (.int .i64 p1) ∧ W.cell? ⟨b15, 1, none⟩ = some (.int .i64 q1) ∧ W.cell? ⟨b20, 0, none⟩ = some (.int .i64 (N - a)) ∧ W.cell? ⟨b20, 1, none⟩ = some (.int .i64 0) ∧ W.cell? ⟨b20, 2, none⟩ = some (.int .i64 (N - a)) := fun W hW => by
              obtain ⟨a0, a1, a2, a3, a4, a5, a6, a7, a8, a9, a10⟩ := FA W (Free.Bel.trans _ _ _ (hN) hW)
              exact ⟨a0, a1, a2, a3, a4, a5, a6, a7, a8, a9, a10, keepsB hW (cell_of_heap (o := 0) hl_b20 rfl), keepsB hW (cell_of_heap (o := 1) hl_b20 rfl), keepsB hW (cell_of_heap (o := 2) hl_b20 rfl)⟩
            clear FA HB_w7 hz_w7 KR
            have FA := FN
            clear FN
            have KR : Free.Bel w8 w8 := Free.Bel.refl _
            clear hR hF hj hxx hV hN hp_b20 hs_b20 hl_b20
            go_wp2_with fail
            have hF : ∀ W, Below w8.heap.size w8.drew W → Free.Bel w8 W := fun W hW => (show Below w8.heap.size w8 W from ((Below.refl _ w8).drew).trans hW)
            refine Free2.wp_free (R := Below w8.heap.size) (J := LL w8.heap.size [⟨13, 14, (.cells #[.int .i64 0, .int .i64 0] 29), (.cells #[.int .i64 p2, .int .i64 q2] 29)⟩]) (by kernel_rfl) (by kernel_rfl) (Below.refl _) (fun _ _ _ => Below.trans) (LL.start (Nat.le_refl _)) ?_
            refine Free2.Chain.ex ?_ 0 rfl [] [27] (by kernel_rfl) (by kernel_rfl) rfl (Below.refl _) (fun X W v h => LL.skip h 0 v (by simp)) ?_ ?_
            rotate_left
            · (intro ev W hb hR hO hD; have hS := hF W hR; obtain ⟨hb1, hb2, hb3⟩ := hb; simp only [Free.AllDeps, Free.AllOuts, Free.At, List.getElem?_cons_succ, List.getElem?_cons_zero, Array.getD_eq_getD_getElem?, List.getElem?_toArray, Option.getD_some, and_true] at hO hD; go_simp; rfl)
            simp only [List.nil_append, List.cons_append]
            refine Free2.Chain.ex ?_ 1 rfl [] [13] (by kernel_rfl) (by kernel_rfl) rfl (Below.refl _) (fun X W v h => LL.skip h 1 v (by simp)) ?_ ?_
            rotate_left
            · (intro ev W hb hR hO hD; have hS := hF W hR; obtain ⟨hb1, hb2, hb3⟩ := hb; simp only [Free.AllDeps, Free.AllOuts, Free.At, List.getElem?_cons_succ, List.getElem?_cons_zero, Array.getD_eq_getD_getElem?, List.getElem?_toArray, Option.getD_some, and_true] at hO hD; go_simp; rfl)
            simp only [List.nil_append, List.cons_append]
            refine Free2.Chain.ex ?_ 2 rfl [] [22] (by kernel_rfl) (by kernel_rfl) rfl (Below.refl _) (fun X W v h => LL.skip h 2 v (by simp)) ?_ ?_
            rotate_left
            · (intro ev W hb hR hO hD; have hS := hF W hR; obtain ⟨hb1, hb2, hb3⟩ := hb; simp only [Free.AllDeps, Free.AllOuts, Free.At, List.getElem?_cons_succ, List.getElem?_cons_zero, Array.getD_eq_getD_getElem?, List.getElem?_toArray, Option.getD_some, and_true] at hO hD; go_simp; rfl)
            simp only [List.nil_append, List.cons_append]
            refine Free2.Chain.ex ?_ 3 rfl [(1, 139), (2, 140)] [] (by kernel_rfl) (by kernel_rfl) rfl (Below.refl _) (fun X W v h => LL.skip h 3 v (by simp)) ?_ ?_
            rotate_left
            · (intro ev W hb hR hO hD; have hS := hF W hR; obtain ⟨hb1, hb2, hb3⟩ := hb; simp only [Free.AllDeps, Free.AllOuts, Free.At, List.getElem?_cons_succ, List.getElem?_cons_zero, Array.getD_eq_getD_getElem?, List.getElem?_toArray, Option.getD_some, and_true] at hO hD; go_simp; rfl)
            simp only [List.nil_append, List.cons_append]
            refine Free2.Chain.ex ?_ 4 rfl [] [15] (by kernel_rfl) (by kernel_rfl) rfl (Below.refl _) (fun X W v h => LL.skip h 4 v (by simp)) ?_ ?_
            rotate_left
            · (intro ev W hb hR hO hD; have hS := hF W hR; obtain ⟨hb1, hb2, hb3⟩ := hb; simp only [Free.AllDeps, Free.AllOuts, Free.At, List.getElem?_cons_succ, List.getElem?_cons_zero, Array.getD_eq_getD_getElem?, List.getElem?_toArray, Option.getD_some, and_true] at hO hD; go_simp; rfl)
            simp only [List.nil_append, List.cons_append]
            refine Free2.Chain.ex ?_ 5 rfl [] [16] (by kernel_rfl) (by kernel_rfl) rfl (Below.refl _) (fun X W v h => LL.skip h 5 v (by simp)) ?_ ?_
            rotate_left
            · (intro ev W hb hR hO hD; have hS := hF W hR; obtain ⟨hb1, hb2, hb3⟩ := hb; simp only [Free.AllDeps, Free.AllOuts, Free.At, List.getElem?_cons_succ, List.getElem?_cons_zero, Array.getD_eq_getD_getElem?, List.getElem?_toArray, Option.getD_some, and_true] at hO hD; go_simp; rfl)
            simp only [List.nil_append, List.cons_append]
            refine Free2.Chain.ex ?_ 6 rfl [] [22] (by kernel_rfl) (by kernel_rfl) rfl (Below.refl _) (fun X W v h => LL.skip h 6 v (by simp)) ?_ ?_
            rotate_left
            · (intro ev W hb hR hO hD; have hS := hF W hR; obtain ⟨hb1, hb2, hb3⟩ := hb; simp only [Free.AllDeps, Free.AllOuts, Free.At, List.getElem?_cons_succ, List.getElem?_cons_zero, Array.getD_eq_getD_getElem?, List.getElem?_toArray, Option.getD_some, and_true] at hO hD; go_simp; rfl)
            simp only [List.nil_append, List.cons_append]
            refine Free2.Chain.ex ?_ 7 rfl [(5, 143), (6, 144)] [] (by kernel_rfl) (by kernel_rfl) rfl (Below.refl _) (fun X W v h => LL.skip h 7 v (by simp)) ?_ ?_
            rotate_left
            · (intro ev W hb hR hO hD; have hS := hF W hR; obtain ⟨hb1, hb2, hb3⟩ := hb; simp only [Free.AllDeps, Free.AllOuts, Free.At, List.getElem?_cons_succ, List.getElem?_cons_zero, Array.getD_eq_getD_getElem?, List.getElem?_toArray, Option.getD_some, and_true] at hO hD; go_simp; rfl)
            simp only [List.nil_append, List.cons_append]
            refine Free2.Chain.pr (fun v _ => v = i2 b (k - j)) 8 rfl [(4, 142), (7, 145)] [] (by kernel_rfl) (by kernel_rfl) rfl (fun _ _ _ _ h => h) ?_ ?_
            · (intro ev W X hb hR hO hD hj hx hax; have hS := hF W hR; obtain ⟨hb1, hb2, hb3⟩ := hb; simp only [Free.AllDeps, Free.AllOuts, Free.At, List.getElem?_cons_succ, List.getElem?_cons_zero, Array.getD_eq_getD_getElem?, List.getElem?_toArray, Option.getD_some, and_true] at hO hD; simp only [Free2.AllX, and_true] at hax; go_simp; refine yields_enter ?_; (with_reducible refine (drawn_any b (k - j) _).mono ?_); rintro e W2 ⟨rfl, hB2⟩; exact ⟨_, rfl, hB2.mono hj.size, rfl, (hj.bel hB2).skip 8 _ (by simp)⟩)
            simp only [List.nil_append, List.cons_append]
            refine Free2.Chain.pr (fun v _ => v = .tuple #[i2 p2 q2, .int .i64 0]) 9 rfl [(0, 138), (3, 141), (8, 146), (8, 146)] [] (by kernel_rfl) (by kernel_rfl) rfl (fun _ _ _ _ h => h) ?_ ?_
            · (intro ev W X hb hR hO hD hj hx hax; have hS := hF W hR; obtain ⟨hb1, hb2, hb3⟩ := hb; simp only [Free.AllDeps, Free.AllOuts, Free.At, List.getElem?_cons_succ, List.getElem?_cons_zero, Array.getD_eq_getD_getElem?, List.getElem?_toArray, Option.getD_some, and_true] at hO hD; simp only [Free2.AllX, and_true] at hax; go_simp; refine yields_enter ?_; (with_reducible refine (chance_ok (N - a) 0 (N - a) (d - j) b (k - j) p2 q2 _ (by omega) (by omega) (by omega) HP2).mono ?_); rintro e W2 ⟨rfl, hB2⟩; exact ⟨_, rfl, hB2.mono hj.size, rfl, (hj.bel hB2).skip 9 _ (by simp)⟩)
            simp only [List.nil_append, List.cons_append]
            refine Free2.Chain.ex ?_ 10 rfl [(9, 147)] [] (by kernel_rfl) (by kernel_rfl) rfl (Below.refl _) (fun X W v h => LL.skip h 10 v (by simp)) ?_ ?_
            rotate_left
            · (intro ev W hb hR hO hD; have hS := hF W hR; obtain ⟨hb1, hb2, hb3⟩ := hb; simp only [Free.AllDeps, Free.AllOuts, Free.At, List.getElem?_cons_succ, List.getElem?_cons_zero, Array.getD_eq_getD_getElem?, List.getElem?_toArray, Option.getD_some, and_true] at hO hD; go_simp; rfl)
            simp only [List.nil_append, List.cons_append]
            refine Free2.Chain.ex ?_ 11 rfl [(10, 137)] [] (by kernel_rfl) (by kernel_rfl) rfl (Below.refl _) (fun X W v h => LL.skip h 11 v (by simp)) ?_ ?_
            rotate_left
            · (intro ev W hb hR hO hD; have hS := hF W hR; obtain ⟨hb1, hb2, hb3⟩ := hb; simp only [Free.AllDeps, Free.AllOuts, Free.At, List.getElem?_cons_succ, List.getElem?_cons_zero, Array.getD_eq_getD_getElem?, List.getElem?_toArray, Option.getD_some, and_true] at hO hD; go_simp; rfl)
            simp only [List.nil_append, List.cons_append]
            refine Free2.Chain.ex ?_ 12 rfl [(10, 137)] [] (by kernel_rfl) (by kernel_rfl) rfl (Below.refl _) (fun X W v h => LL.skip h 12 v (by simp)) ?_ ?_
            rotate_left
            · (intro ev W hb hR hO hD; have hS := hF W hR; obtain ⟨hb1, hb2, hb3⟩ := hb; simp only [Free.AllDeps, Free.AllOuts, Free.At, List.getElem?_cons_succ, List.getElem?_cons_zero, Array.getD_eq_getD_getElem?, List.getElem?_toArray, Option.getD_some, and_true] at hO hD; go_simp; rfl)
            simp only [List.nil_append, List.cons_append]
            refine Free2.Chain.pr (fun v _ => ∃ b, v = ptr b) 13 rfl [] [] (by kernel_rfl) (by kernel_rfl) rfl (fun _ _ _ _ h => h) ?_ ?_
            · (intro ev W X hb hR hO hD hj hx hax; have hS := hF W hR; obtain ⟨hb1, hb2, hb3⟩ := hb; simp only [Free.AllDeps, Free.AllOuts, Free.At, List.getElem?_cons_succ, List.getElem?_cons_zero, Array.getD_eq_getD_getElem?, List.getElem?_toArray, Option.getD_some, and_true] at hO hD; simp only [Free2.AllX, and_true] at hax; go_simp; exact ⟨(Below.refl _ W).alloc hj.size _, ⟨_, rfl⟩, hj.new ⟨13, 14, (.cells #[.int .i64 0, .int .i64 0] 29), (.cells #[.int .i64 p2, .int .i64 q2] 29)⟩ (by simp) (by simp) hx⟩)
            simp only [List.nil_append, List.cons_append]
            refine Free2.Chain.pr (fun _ _ => True) 14 rfl [(13, 29), (11, 148), (9, 147), (0, 138), (1, 139), (2, 140), (3, 141), (4, 142), (5, 143), (6, 144), (7, 145), (8, 146), (9, 147), (10, 137), (11, 148), (13, 29)] [] (by kernel_rfl) (by kernel_rfl) rfl (fun _ _ _ _ h => h) ?_ ?_
            · (intro ev W X hb hR hO hD hj hx hax; have hS := hF W hR; obtain ⟨hb1, hb2, hb3⟩ := hb; simp only [Free.AllDeps, Free.AllOuts, Free.At, List.getElem?_cons_succ, List.getElem?_cons_zero, Array.getD_eq_getD_getElem?, List.getElem?_toArray, Option.getD_some, and_true] at hO hD; simp only [Free2.AllX, and_true] at hax; obtain ⟨b, hb9, hs0, hbl⟩ := hj.at_ ⟨13, 14, (.cells #[.int .i64 0, .int .i64 0] 29), (.cells #[.int .i64 p2, .int .i64 q2] 29)⟩ (by simp) hax.1 hx; have hX := hax.1; rw [hb9] at hX; have hp := hj.puts ⟨13, 14, (.cells #[.int .i64 0, .int .i64 0] 29), (.cells #[.int .i64 p2, .int .i64 q2] 29)⟩ (by simp) (by simp) hX hs0 hbl [(0, .int .i64 p2), (1, .int .i64 q2)] rfl; have q0 : W.cell? ⟨b, 0, none⟩ = some (.int .i64 0) := cell_of_heap (o := 0) hbl rfl; have q1 : W.cell? ⟨b, 1, none⟩ = some (.int .i64 0) := cell_of_heap (o := 1) hbl rfl; have p0 : ∀ o, W.frozen? ⟨b, o, none⟩ = false := fun o => frozen_of_heap (o := o) hbl; go_simp; exact ⟨(hp undef).1, (hp _).2⟩)
            simp only [List.nil_append, List.cons_append]
            refine Free2.Chain.ex ?_ 15 rfl [(12, 149), (0, 138), (1, 139), (2, 140), (3, 141), (4, 142), (5, 143), (6, 144), (7, 145), (8, 146), (9, 147), (10, 137), (11, 148), (12, 149), (13, 29)] [] (by kernel_rfl) (by kernel_rfl) rfl (Below.refl _) (fun X W v h => LL.skip h 15 v (by simp)) ?_ ?_
            rotate_left
            · (intro ev W hb hR hO hD; have hS := hF W hR; obtain ⟨hb1, hb2, hb3⟩ := hb; simp only [Free.AllDeps, Free.AllOuts, Free.At, List.getElem?_cons_succ, List.getElem?_cons_zero, Array.getD_eq_getD_getElem?, List.getElem?_toArray, Option.getD_some, and_true] at hO hD; go_simp; rfl)
            simp only [List.nil_append, List.cons_append]
            intro xs w9 hR hV hX
            obtain ⟨X, hj, hxx⟩ := hX
            obtain ⟨b21, hp_b21, hs_b21, hl_b21⟩ := hj.done ⟨13, 14, (.cells #[.int .i64 0, .int .i64 0] 29), (.cells #[.int .i64 p2, .int .i64 q2] 29)⟩ (by simp) (hxx 13 (show (13 : Nat) < 16 by decide)) (hxx 14 (show (14 : Nat) < 16 by decide))
            simp only [Free.AllV, Free.At, List.length_cons, List.length_nil, Nat.reduceAdd, List.getElem?_cons_succ, List.getElem?_cons_zero, true_and, and_true] at hV
            simp only [Free.putsFrom, Act.put, Nat.zero_add, Nat.reduceAdd, hV, hp_b21, List.setIfInBounds_toArray, List.set_cons_succ, List.set_cons_zero]
            have hN := hF w9 hR
            have HB_w9 := Lib.hid (HB_w8.out.trans ((hN).mono hz_w8))
            have hz_w9 : bb ≤ w9.heap.size := Nat.le_trans hz_w8 (hN).size
            have HL_w9 : Free.Bel w5 w9 := Free.Bel.trans _ _ _ HL_w8 (hN)
            clear HL_w8
            have HWR : Free.Bel wr w9 := Free.Bel.trans _ _ _ HWR (hN)
            have FN : ∀ W, Free.Bel w9 W → W.cell? ⟨0, 0, none⟩ = some (dblF 130) ∧ W.cell? ⟨0, 1, none⟩ = some (dblF 131) ∧ W.cell? ⟨0, 2, none⟩ = some (dblF 132) ∧ bb ≤ W.heap.size ∧ W.cell? ⟨g20, 0, none⟩ = some (.int .i64 N) ∧ W.cell? ⟨g20, 1, none⟩ = some (.int .i64 0) ∧ W.cell? ⟨g20, 2, none⟩ = some (.int .i64 N) ∧ W.cell? ⟨b7, 0, none⟩ = some (.int .i64 p0) ∧ W.cell? ⟨b7, 1, none⟩ = some (.int .i64 q0) ∧ W.cell? ⟨b15, 0, none⟩ = some (.int .i64 p1) ∧ W.cell? ⟨b15, 1, none⟩ = some (.int .i64 q1) ∧ W.cell? ⟨b20, 0, none⟩ = some (.int .i64 (N - a)) ∧ W.cell? ⟨b20, 1, none⟩ = some (.int .i64 0) ∧ W.cell? ⟨b20, 2, none⟩ = some (.int .i64 (N - a)) ∧ W.cell? ⟨b21, 0, none⟩ = some (.int .i64 p2) ∧ W.cell? ⟨b21, 1, none⟩ = some (.int .i64 q2) := fun W hW => by
              obtain ⟨a0, a1, a2, a3, a4, a5, a6, a7, a8, a9, a10, a11, a12, a13⟩ := FA W (Free.Bel.trans _ _ _ (hN) hW)
              exact ⟨a0, a1, a2, a3, a4, a5, a6, a7, a8, a9, a10, a11, a12, a13, keepsB hW (cell_of_heap (o := 0) hl_b21 rfl), keepsB hW (cell_of_heap (o := 1) hl_b21 rfl)⟩
            clear FA HB_w8 hz_w8 KR
            have FA := FN
            clear FN
            have KR : Free.Bel w9 w9 := Free.Bel.refl _
            clear hR hF hj hxx hV hN hp_b21 hs_b21 hl_b21
            go_wp2_with fail
            refine (over_any o S p2 q2 _ (by omega) (by omega) (by omega) (by omega) HO2).mono ?_
            rintro e w10 ⟨rfl, hB⟩
            have HB_w10 := Lib.hid (HB_w9.out.trans ((hB).mono hz_w9))
            have hz_w10 : bb ≤ w10.heap.size := Nat.le_trans hz_w9 (hB).size
            have HL_w10 : Free.Bel w5 w10 := Free.Bel.trans _ _ _ HL_w9 (hB)
            clear HL_w9
            have HWR : Free.Bel wr w10 := Free.Bel.trans _ _ _ HWR (hB)
            have FN : ∀ W, Free.Bel w10 W → W.cell? ⟨0, 0, none⟩ = some (dblF 130) ∧ W.cell? ⟨0, 1, none⟩ = some (dblF 131) ∧ W.cell? ⟨0, 2, none⟩ = some (dblF 132) ∧ bb ≤ W.heap.size ∧ W.cell? ⟨g20, 0, none⟩ = some (.int .i64 N) ∧ W.cell? ⟨g20, 1, none⟩ = some (.int .i64 0) ∧ W.cell? ⟨g20, 2, none⟩ = some (.int .i64 N) ∧ W.cell? ⟨b7, 0, none⟩ = some (.int .i64 p0) ∧ W.cell? ⟨b7, 1, none⟩ = some (.int .i64 q0) ∧ W.cell? ⟨b15, 0, none⟩ = some (.int .i64 p1) ∧ W.cell? ⟨b15, 1, none⟩ = some (.int .i64 q1) ∧ W.cell? ⟨b20, 0, none⟩ = some (.int .i64 (N - a)) ∧ W.cell? ⟨b20, 1, none⟩ = some (.int .i64 0) ∧ W.cell? ⟨b20, 2, none⟩ = some (.int .i64 (N - a)) ∧ W.cell? ⟨b21, 0, none⟩ = some (.int .i64 p2) ∧ W.cell? ⟨b21, 1, none⟩ = some (.int .i64 q2) := fun W hW => by
              obtain ⟨a0, a1, a2, a3, a4, a5, a6, a7, a8, a9, a10, a11, a12, a13, a14, a15⟩ := FA W (Free.Bel.trans _ _ _ (hB) hW)
              exact ⟨a0, a1, a2, a3, a4, a5, a6, a7, a8, a9, a10, a11, a12, a13, a14, a15⟩
            clear FA HB_w9 hz_w9 KR
            have FA := FN
            clear FN
            have KR : Free.Bel w10 w10 := Free.Bel.refl _
            clear hB
            go_wp2_with fail
            go_roundw
            case rel => exact ⟨j + 1, by omega, by go_num, by rw [HT1.out, HST.out], HL_w10⟩
            case measure => first | (simp [intOf]; done) | (simp [intOf]; omega)
    · obtain rfl : j = a.toNat + 1 := by omega
      have hb0 := HMONO.out (a.toNat + 1) (by omega)
      obtain ⟨T0, hT0⟩ : ∃ x, partsI N d a b k (a.toNat + 1) = x := ⟨_, rfl⟩
      rw [hT0] at hb0 HEND ⊢
      clear hT0
      go_wp2_with fail
      have hF : ∀ W, Free.Bel wr.drew W → Free.Bel wr W := fun W hW => Free.Bel.trans _ _ _ (Bel.drewT (Free.Bel.refl _)) hW
      refine Free.wp_free (R := Free.Bel) (by kernel_rfl) (by kernel_rfl) Free.Bel.refl Free.Bel.trans ?_
      refine Free.Chain.ex ?_ [] [11] (by kernel_rfl) (by kernel_rfl) rfl Free.Bel.refl ?_ ?_
      rotate_left
      · (intro ev W hb hR hO hD; have hS := hF W hR; obtain ⟨hb1, hb2, hb3⟩ := hb; simp only [Free.AllDeps, Free.AllOuts, Free.At, List.getElem?_cons_succ, List.getElem?_cons_zero, Array.getD_eq_getD_getElem?, List.getElem?_toArray, Option.getD_some, and_true] at hO hD; go_simp; rfl)
      simp only [List.nil_append, List.cons_append]
      refine Free.Chain.ex ?_ [(0, 172)] [] (by kernel_rfl) (by kernel_rfl) rfl Free.Bel.refl ?_ ?_
      rotate_left
      · (intro ev W hb hR hO hD; have hS := hF W hR; obtain ⟨hb1, hb2, hb3⟩ := hb; simp only [Free.AllDeps, Free.AllOuts, Free.At, List.getElem?_cons_succ, List.getElem?_cons_zero, Array.getD_eq_getD_getElem?, List.getElem?_toArray, Option.getD_some, and_true] at hO hD; go_simp; rfl)
      simp only [List.nil_append, List.cons_append]
      refine Free.Chain.exG ?_ [(1, 173)] [21] 1 true 173 (by kernel_rfl) (by kernel_rfl) rfl (by kernel_rfl) Free.Bel.refl ?_ ?_
      rotate_left
      · (intro ev W hb hR hO hD; have hS := hF W hR; obtain ⟨hb1, hb2, hb3⟩ := hb; simp only [Free.AllDeps, Free.AllOuts, Free.At, List.getElem?_cons_succ, List.getElem?_cons_zero, Array.getD_eq_getD_getElem?, List.getElem?_toArray, Option.getD_some, and_true] at hO hD; refine ⟨by simp [hD], ?_⟩; go_simp; rfl)
      simp only [List.nil_append, List.cons_append]
      refine Free.Chain.exG ?_ [(1, 173)] [19] 1 true 173 (by kernel_rfl) (by kernel_rfl) rfl (by kernel_rfl) Free.Bel.refl ?_ ?_
      rotate_left
      · (intro ev W hb hR hO hD; have hS := hF W hR; obtain ⟨hb1, hb2, hb3⟩ := hb; simp only [Free.AllDeps, Free.AllOuts, Free.At, List.getElem?_cons_succ, List.getElem?_cons_zero, Array.getD_eq_getD_getElem?, List.getElem?_toArray, Option.getD_some, and_true] at hO hD; refine ⟨by simp [hD], ?_⟩; go_simp; rfl)
      simp only [List.nil_append, List.cons_append]
      refine Free.Chain.exG ?_ [(1, 173)] [20] 1 true 173 (by kernel_rfl) (by kernel_rfl) rfl (by kernel_rfl) Free.Bel.refl ?_ ?_
      rotate_left
      · (intro ev W hb hR hO hD; have hS := hF W hR; obtain ⟨hb1, hb2, hb3⟩ := hb; simp only [Free.AllDeps, Free.AllOuts, Free.At, List.getElem?_cons_succ, List.getElem?_cons_zero, Array.getD_eq_getD_getElem?, List.getElem?_toArray, Option.getD_some, and_true] at hO hD; refine ⟨by simp [hD], ?_⟩; go_simp; rfl)
      simp only [List.nil_append, List.cons_append]
      refine Free.Chain.exG ?_ [(3, 175), (4, 176), (1, 173)] [] 1 true 173 (by kernel_rfl) (by kernel_rfl) rfl (by kernel_rfl) Free.Bel.refl ?_ ?_
      rotate_left
      · (intro ev W hb hR hO hD; have hS := hF W hR; obtain ⟨hb1, hb2, hb3⟩ := hb; simp only [Free.AllDeps, Free.AllOuts, Free.At, List.getElem?_cons_succ, List.getElem?_cons_zero, Array.getD_eq_getD_getElem?, List.getElem?_toArray, Option.getD_some, and_true] at hO hD; refine ⟨by simp [hD], ?_⟩; go_simp; rfl)
      simp only [List.nil_append, List.cons_append]
      refine Free.Chain.prG (fun v _ => v = i2 p0 q0) [(2, 174), (5, 177), (1, 173), (1, 173)] [] 1 true 173 (by kernel_rfl) (by kernel_rfl) rfl (by kernel_rfl) (fun _ _ _ _ h => h) ?_ ?_
      · (intro ev W hb hR hO hD; have hS := hF W hR; obtain ⟨hb1, hb2, hb3⟩ := hb; simp only [Free.AllDeps, Free.AllOuts, Free.At, List.getElem?_cons_succ, List.getElem?_cons_zero, Array.getD_eq_getD_getElem?, List.getElem?_toArray, Option.getD_some, and_true] at hO hD; refine ⟨by simp [hD], ?_⟩; go_simp; refine yields_enter ?_; (with_reducible refine (least_int T0 (F * S) (by omega) (by omega) (by omega) (by omega) _ HEND.out _).mono ?_); rintro e W2 ⟨rfl, hB2⟩; exact ⟨_, rfl, hB2, rfl⟩)
      simp only [List.nil_append, List.cons_append]
      refine Free.Chain.exG ?_ [(1, 173)] [17] 1 true 173 (by kernel_rfl) (by kernel_rfl) rfl (by kernel_rfl) Free.Bel.refl ?_ ?_
      rotate_left
      · (intro ev W hb hR hO hD; have hS := hF W hR; obtain ⟨hb1, hb2, hb3⟩ := hb; simp only [Free.AllDeps, Free.AllOuts, Free.At, List.getElem?_cons_succ, List.getElem?_cons_zero, Array.getD_eq_getD_getElem?, List.getElem?_toArray, Option.getD_some, and_true] at hO hD; refine ⟨by simp [hD], ?_⟩; go_simp; rfl)
      simp only [List.nil_append, List.cons_append]
      refine Free.Chain.exG ?_ [(6, 178), (7, 179), (1, 173)] [] 1 true 173 (by kernel_rfl) (by kernel_rfl) rfl (by kernel_rfl) Free.Bel.refl ?_ ?_
      rotate_left
      · (intro ev W hb hR hO hD; have hS := hF W hR; obtain ⟨hb1, hb2, hb3⟩ := hb; simp only [Free.AllDeps, Free.AllOuts, Free.At, List.getElem?_cons_succ, List.getElem?_cons_zero, Array.getD_eq_getD_getElem?, List.getElem?_toArray, Option.getD_some, and_true] at hO hD; refine ⟨by simp [hD], ?_⟩; go_simp; rfl)
      simp only [List.nil_append, List.cons_append]
      refine Free.Chain.ex ?_ [(1, 173), (8, 180)] [] (by kernel_rfl) (by kernel_rfl) rfl Free.Bel.refl ?_ ?_
      rotate_left
      · (intro ev W hb hR hO hD; have hS := hF W hR; obtain ⟨hb1, hb2, hb3⟩ := hb; simp only [Free.AllDeps, Free.AllOuts, Free.At, List.getElem?_cons_succ, List.getElem?_cons_zero, Array.getD_eq_getD_getElem?, List.getElem?_toArray, Option.getD_some, and_true] at hO hD; go_simp; rfl)
      simp only [List.nil_append, List.cons_append]
      refine Free.Chain.ex ?_ [(9, 181), (6, 178), (0, 172), (1, 173), (2, 174), (3, 175), (4, 176), (5, 177), (6, 178), (7, 179), (8, 180), (9, 181)] [] (by kernel_rfl) (by kernel_rfl) rfl Free.Bel.refl ?_ ?_
      rotate_left
      · (intro ev W hb hR hO hD; have hS := hF W hR; obtain ⟨hb1, hb2, hb3⟩ := hb; simp only [Free.AllDeps, Free.AllOuts, Free.At, List.getElem?_cons_succ, List.getElem?_cons_zero, Array.getD_eq_getD_getElem?, List.getElem?_toArray, Option.getD_some, and_true] at hO hD; go_simp; rfl)
      simp only [List.nil_append, List.cons_append]
      intro xs w11 hR hV
      simp only [Free.AllV, Free.At, List.length_cons, List.length_nil, Nat.reduceAdd, List.getElem?_cons_succ, List.getElem?_cons_zero, true_and, and_true] at hV
      simp only [Free.putsFrom, Act.put, Nat.zero_add, Nat.reduceAdd, hV, List.setIfInBounds_toArray, List.set_cons_succ, List.set_cons_zero]
      have hN := hF w11 hR
      clear hR hF
      have HB_w11 := Lib.hid (HB_wr.out.trans ((hN).mono hz_wr))
      have hz_w11 : bb ≤ w11.heap.size := Nat.le_trans hz_wr (hN).size
      have HL_w11 : Free.Bel w5 w11 := Free.Bel.trans _ _ _ HL_wr (hN)
      clear HL_wr
      have HWR : Free.Bel wr w11 := Free.Bel.trans _ _ _ HWR (hN)
      have FN : ∀ W, Free.Bel w11 W → W.cell? ⟨0, 0, none⟩ = some (dblF 130) ∧ W.cell? ⟨0, 1, none⟩ = some (dblF 131) ∧ W.cell? ⟨0, 2, none⟩ = some (dblF 132) ∧ bb ≤ W.heap.size ∧ W.cell? ⟨g20, 0, none⟩ = some (.int .i64 N) ∧ W.cell? ⟨g20, 1, none⟩ = some (.int .i64 0) ∧ W.cell? ⟨g20, 2, none⟩ = some (.int .i64 N) ∧ W.cell? ⟨b7, 0, none⟩ = some (.int .i64 p0) ∧ W.cell? ⟨b7, 1, none⟩ = some (.int .i64 q0) := fun W hW => by
        obtain ⟨a0, a1, a2, a3, a4, a5, a6, a7, a8⟩ := FA W (Free.Bel.trans _ _ _ (hN) hW)
        exact ⟨a0, a1, a2, a3, a4, a5, a6, a7, a8⟩
      clear FA HB_wr hz_wr KR
      have FA := FN
      clear FN
      have KR : Free.Bel w11 w11 := Free.Bel.refl _
      clear hN hV
      go_wp2_with fail
      go_ret
      have hbb := HBB.out
      subst hbb
      exact ⟨rfl, HB_w11.out⟩
end Go.Proofs.YtdiclofeggkjcaaDoor

/- For every input the law SampleParts returns true, and its arguments read behind the call as they read before; what a double rule is asked lies in the table as the program's text lays it (tied). Condition: that table. -/
namespace Go.Proofs.YtdiclofeggkjcaaDoor.lawSampleParts
open Go Go.ChangeShapes Go.WideShapes Go.ChangeAt Go.RowKit
set_option linter.unusedVariables false
set_option linter.unusedSimpArgs false

set_option maxRecDepth 100000 in
theorem contract (H : Type) (enc : TypeId × Value → H) (W : World) (base : Nat) (args : Array Value) (ds gs : List (DataW H)) (before : List MemPlace)
    (hval : ∀ (j : Nat) t v, Tryd.f9.params[j]? = some t → args[j]? = some v → Value.okWide Tryd.prog W .any base t v)
    (hW : DataW.Whole enc Tryd.prog Tryd.f9.params.toList Rows.samplePartsSpec.vars false W args.toList ds gs before) (hL : laidMetH Tryd.prog Rows.samplePartsRow.laid W) :
    Calls Tryd.prog 9 args W fun e W' => ∃ v, e = .returned v ∧ Rows.samplePartsSpec.post enc Tryd.prog Tryd.f9 false true false false W args v W' := by
  have hW' := hW
  obtain ⟨p, q, hA0, hV, rfl, hfz, hnd⟩ := hW
  have hA : DataW.TrodAll enc Tryd.prog W 0 (fun _ => true) true Tryd.f9.params.toList args.toList ds p := hA0
  have hAk := hA
  rw [Tryd.params9] at hA hval
  obtain ⟨v0, vs0, d0, ds0, p0, q0, hargs, rfl, rfl, h0, r0⟩ := trodAll_cons hA
  obtain ⟨v1, vs1, d1, ds1, p1, q1, rfl, rfl, rfl, h1, r1⟩ := trodAll_cons r0
  obtain ⟨v2, vs2, d2, ds2, p2, q2, rfl, rfl, rfl, h2, r2⟩ := trodAll_cons r1
  obtain ⟨v3, vs3, d3, ds3, p3, q3, rfl, rfl, rfl, h3, r3⟩ := trodAll_cons r2
  obtain ⟨v4, vs4, d4, ds4, p4, q4, rfl, rfl, rfl, h4, r4⟩ := trodAll_cons r3
  obtain ⟨rfl, rfl, rfl⟩ := trodAll_nil r4
  obtain rfl : args = #[v0, v1, v2, v3, v4] := by cases args; simp_all
  obtain ⟨rfl, rfl⟩ := trodVars_none hV
  have hlt : ∀ x ∈ p0 ++ (p1 ++ (p2 ++ (p3 ++ (p4 ++ ([]))))), x.block < W.heap.size := fun x hx => by
    have := hW'.lt x (by simpa using hx)
    simpa using this
  obtain ⟨n, rfl, _, hwf0⟩ := open_int Tryd.underlying5 (hval 0 5 _ rfl rfl) h0
  obtain ⟨x0, rfl, _, hwf1⟩ := open_int Tryd.underlying5 (hval 1 5 _ rfl rfl) h1
  obtain ⟨x1, rfl, _, hwf2⟩ := open_int Tryd.underlying5 (hval 2 5 _ rfl rfl) h2
  obtain ⟨x2, rfl, _, hwf3⟩ := open_int Tryd.underlying5 (hval 3 5 _ rfl rfl) h3
  obtain ⟨x3, rfl, _, hwf4⟩ := open_int Tryd.underlying5 (hval 4 5 _ rfl rfl) h4
  refine (parts_walk n x0 x1 x2 x3 W (Tab.of_laid hL) (u8_wf hwf0.2) (u8_wf hwf1.2) (u8_wf hwf2.2) (u8_wf hwf3.2) (u8_wf hwf4.2)).mono fun e W' ⟨he, hg⟩ => ?_
  subst he
  refine ⟨_, rfl, _, _, _, [], p0 ++ (p1 ++ (p2 ++ (p3 ++ (p4 ++ ([]))))), [], hW', ?_, ?_, ?_, hg.frame _, fun h => by cases h⟩
  · exact trodAll_cons_mk (shut_bool Tryd.underlying4 true) trodAll_mk0
  · exact Law.args_below Tab.laidOut (by kernel_rfl) hg hAk hlt
  · rfl

set_option maxRecDepth 100000 in
theorem lifted (os : Os) (started : os.Started) (H : Type) (enc : TypeId × Value → H) :
    ReturnsInHanded {} Tryd.checked os 9 .any (fun w args => (Rows.samplePartsSpec.pre enc Tryd.prog Tryd.f9 [] false w args ∧ laidMetH Tryd.prog Rows.samplePartsRow.laid w) ∧ sizedMet enc Tryd.prog Tryd.f9 (OpenSpec.ofChange Rows.samplePartsSpec) false w args) (Rows.samplePartsSpec.post enc Tryd.prog Tryd.f9 false true false false) := by
  refine returnsInHanded_of_change_and (C := Tryd.checked) (X := fun w _ => laidMetH Tryd.prog Rows.samplePartsRow.laid w) (fun _ _ _ hh h => h.of_heap hh) Tab.own started (by kernel_rfl) Tryd.func9
    (ChangeSpec.witness_shaped (enc := enc) (C := Tryd.checked) (os := os) (X := fun w _ => laidMetH Tryd.prog Rows.samplePartsRow.laid w) false (World.doorLaid Tryd.prog 17 os) #[.int .u8 0, .int .u8 0, .int .u8 0, .int .u8 0, .int .u8 0] 8 rfl (World.shaped_of_RefB (by kernel_rfl) (by kernel_rfl)) (by kernel_rfl) (by kernel_rfl) (by kernel_rfl) (Tab.door_met os _)) ?_
  intro W base args ds gs before hval hW _ _ hL _
  exact contract H enc W base args ds gs before hval hW hL

theorem said : Rows.SamplePartsSaid :=
  OpenClaim.holds_of_wide 9 Tryd.f9 rfl rfl rfl rfl rfl rfl rfl ⟨rfl, rfl, rfl, rfl, rfl⟩ rfl rfl rfl rfl rfl (by kernel_rfl) Tryd.func9 (by kernel_rfl)
    (of_decide_eq_true (by kernel_rfl)) (by unfold Func.isWrapper; first | (rw [if_pos (by decide +kernel)]; kernel_rfl) | (rw [if_neg (by decide +kernel)]; exact ⟨rfl, rfl⟩))
    (fun os started H enc _ => lifted os started H enc)

theorem plain (f : FuncId) (fn : Func) (hf : Tryd.pinned.checked.prog.funcNamed "oilcake/oilcakelaw01.SampleParts" = some f) (hfn : Tryd.pinned.checked.prog.funcs[f]? = some fn) :
    false = Tryd.pinned.checked.prog.looks [] ∧ ∀ (j : Nat) t, fn.params[j]? = some t → Tryd.pinned.checked.prog.wantsStandIn t = false := by
  obtain rfl : f = 9 := Option.some.inj ((show Tryd.prog.funcNamed "oilcake/oilcakelaw01.SampleParts" = some 9 by kernel_rfl).symm.trans hf) |>.symm
  obtain rfl : fn = Tryd.f9 := (Option.some.inj (Tryd.func9.symm.trans hfn)).symm
  refine ⟨by kernel_rfl, fun j t ht => ?_⟩
  rw [Tryd.params9] at ht
  have hm := Array.mem_of_getElem? ht
  have hall : (Tryd.f9.params.toList.all fun u => !Tryd.prog.wantsStandIn u) = true := by kernel_rfl
  rw [Tryd.params9] at hall
  exact (show Tryd.prog.wantsStandIn t = false by simpa using List.all_eq_true.1 hall t (by simpa using hm))

theorem card : Rows.SamplePartsCardSaid :=
  Claim7.holds_tied_plain_at .later [] _ _ _ _ said (fun _ h => by cases h) (by kernel_rfl) (fun _ h => by cases h) sampleParts_row_tie rfl ⟨rfl, rfl⟩ (by kernel_rfl) rfl plain (by kernel_rfl)
#print axioms card
end Go.Proofs.YtdiclofeggkjcaaDoor.lawSampleParts

