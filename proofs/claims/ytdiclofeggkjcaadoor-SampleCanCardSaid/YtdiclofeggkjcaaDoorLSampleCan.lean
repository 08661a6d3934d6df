/- For every input the law SampleCan returns true, and its arguments read behind the call as they read before; what a double rule is asked lies in the table as the program's text lays it (tied). Condition: that table. -/
/- What can be is an interval; the greatest number with a chance is the last one. No walk here. -/
import Derived.Test.YtdiclofeggkjcaaDoorB7
namespace Go.Proofs.YtdiclofeggkjcaaDoor
set_option linter.unusedSimpArgs false
set_option linter.unusedVariables false
open Go.RowKit Go.Proofs.YtdiclofeggkjcaaDoor.ML Go.Proofs.YtdiclofeggkjcaaDoor.Samp

theorem foldl_min_spec : ∀ (zs : List Int) (a : Int), zs.foldl min a ≤ a ∧ (zs.foldl min a = a ∨ zs.foldl min a ∈ zs) ∧ ∀ x ∈ zs, zs.foldl min a ≤ x
  | [], a => ⟨Int.le_refl _, .inl rfl, by simp⟩
  | z :: zs, a => by
    obtain ⟨h1, h2, h3⟩ := foldl_min_spec zs (min a z)
    simp only [List.foldl_cons, List.mem_cons]
    refine ⟨by omega, ?_, fun x hx => ?_⟩
    · rcases h2 with h2 | h2
      · rw [h2]
        by_cases h : a ≤ z
        · left; omega
        · right; left; omega
      · exact .inr (.inr h2)
    · rcases hx with rfl | hx
      · omega
      · exact h3 x hx
theorem foldl_max_spec : ∀ (zs : List Int) (a : Int), a ≤ zs.foldl max a ∧ (zs.foldl max a = a ∨ zs.foldl max a ∈ zs) ∧ ∀ x ∈ zs, x ≤ zs.foldl max a
  | [], a => ⟨Int.le_refl _, .inl rfl, by simp⟩
  | z :: zs, a => by
    obtain ⟨h1, h2, h3⟩ := foldl_max_spec zs (max a z)
    simp only [List.foldl_cons, List.mem_cons]
    refine ⟨by omega, ?_, fun x hx => ?_⟩
    · rcases h2 with h2 | h2
      · rw [h2]
        by_cases h : z ≤ a
        · left; omega
        · right; left; omega
      · exact .inr (.inr h2)
    · rcases hx with rfl | hx
      · omega
      · exact h3 x hx
theorem minOf_spec (L : List Int) (h : L ≠ []) : Lib.minOf L ∈ L ∧ ∀ x ∈ L, Lib.minOf L ≤ x := by
  obtain ⟨z, zs, rfl⟩ := List.exists_cons_of_ne_nil h
  obtain ⟨h1, h2, h3⟩ := foldl_min_spec (z :: zs) z
  exact ⟨by rcases h2 with h2 | h2
            · show (z :: zs).foldl min z ∈ _
              rw [h2]; simp
            · exact h2, h3⟩
theorem maxOf_spec (L : List Int) (h : L ≠ []) : Lib.maxOf L ∈ L ∧ ∀ x ∈ L, x ≤ Lib.maxOf L := by
  obtain ⟨z, zs, rfl⟩ := List.exists_cons_of_ne_nil h
  obtain ⟨h1, h2, h3⟩ := foldl_max_spec (z :: zs) z
  exact ⟨by rcases h2 with h2 | h2
            · show (z :: zs).foldl max z ∈ _
              rw [h2]; simp
            · exact h2, h3⟩
theorem ableK_iff (N lo o f : Int) : ∀ (k : Nat) (x : Int), x ∈ ableK N lo o f k ↔ lo ≤ x ∧ x < lo + k ∧ 0 < waysI N x o f
  | 0, x => by simp [ableK]; intro h1 h2; omega
  | k + 1, x => by
    have ih := ableK_iff N lo o f k x
    rw [ableK]
    by_cases h : 0 < waysI N (lo + k) o f
    · rw [if_pos h, List.mem_append, ih, List.mem_singleton]
      constructor
      · rintro (⟨h1, h2, h3⟩ | rfl)
        · exact ⟨h1, by omega, h3⟩
        · exact ⟨by omega, by omega, h⟩
      · rintro ⟨h1, h2, h3⟩
        by_cases e : x = lo + k
        · exact .inr e
        · exact .inl ⟨h1, by omega, h3⟩
    · rw [if_neg h, ih]
      constructor
      · rintro ⟨h1, h2, h3⟩
        exact ⟨h1, by omega, h3⟩
      · rintro ⟨h1, h2, h3⟩
        by_cases e : x = lo + k
        · rw [e] at h3; exact absurd h3 h
        · exact ⟨h1, by omega, h3⟩
/-- A number can be. -/
theorem able_iff (N lo hi o f x : Int) (hc : 1 ≤ N ∧ N ≤ 36 ∧ 0 ≤ lo ∧ lo ≤ hi ∧ hi ≤ N) (hd : 0 ≤ o ∧ o ≤ N ∧ 0 ≤ f ∧ f ≤ o) : x ∈ ableL N lo hi o f ↔ lo ≤ x ∧ x ≤ hi ∧ f ≤ x ∧ o - f ≤ N - x := by
  rw [ableL, ableK_iff]
  constructor
  · rintro ⟨h1, h2, h3⟩
    have := (waysI_pos N x o f (by omega) (by omega) (by omega) (by omega)).1 h3
    omega
  · rintro ⟨h1, h2, h3⟩
    exact ⟨h1, by omega, (waysI_pos N x o f (by omega) (by omega) (by omega) (by omega)).2 h3⟩
/-- What Can tells where nothing is wrong. -/
theorem can_at (N lo hi o f : Int) (hc : 1 ≤ N ∧ N ≤ 36 ∧ 0 ≤ lo ∧ lo ≤ hi ∧ hi ≤ N) (hd : 0 ≤ o ∧ o ≤ N ∧ 0 ≤ f ∧ f ≤ o) :
    (max lo f ≤ min hi (N - (o - f)) ∧ ableL N lo hi o f ≠ [] ∧ canR N lo hi o f = .tuple #[i2 (max lo f) (min hi (N - (o - f))), .int .i64 0]) ∨ (min hi (N - (o - f)) < max lo f ∧ ableL N lo hi o f = [] ∧ canR N lo hi o f = .tuple #[i2 0 0, .int .i64 8]) := by
  have hcB := cargoB_ok hc
  have hdB := drawB_ok hd
  by_cases hL : ableL N lo hi o f = []
  · right
    refine ⟨?_, hL, ?_⟩
    · by_cases h : min hi (N - (o - f)) < max lo f
      · exact h
      · have := (able_iff N lo hi o f (max lo f) hc hd).2 (by omega)
        rw [hL] at this
        cases this
    · rw [canR, hcB, hdB, if_neg (by decide), if_neg (by decide), if_pos hL]
  · left
    obtain ⟨m1, m2⟩ := minOf_spec _ hL
    obtain ⟨x1, x2⟩ := maxOf_spec _ hL
    have a1 := (able_iff N lo hi o f _ hc hd).1 m1
    have a2 := (able_iff N lo hi o f _ hc hd).1 x1
    have a3 := m2 (max lo f) ((able_iff N lo hi o f _ hc hd).2 (by omega))
    have a4 := x2 (min hi (N - (o - f))) ((able_iff N lo hi o f _ hc hd).2 (by omega))
    refine ⟨by omega, hL, ?_⟩
    rw [canR, hcB, hdB, if_neg (by decide), if_neg (by decide), if_neg hL, show Lib.minOf (ableL N lo hi o f) = max lo f by omega, show Lib.maxOf (ableL N lo hi o f) = min hi (N - (o - f)) by omega]
/-- The last number that can be and is likely enough; -1. -/
def bestB (N lo o f n d : Int) : Nat → Int
  | 0 => -1
  | k + 1 => if 0 < waysI N (lo + k) o f ∧ boundB N o f n d (lo + k) = true then lo + k else bestB N lo o f n d k
theorem revI_snd (xs : List Int) : ∀ k : Nat, k ≤ xs.length → (revI xs k).map (·.2) = xs.reverse.take k
  | 0, _ => by simp [revI]
  | k + 1, h => by
    rw [revI, List.map_append, revI_snd xs k (by omega), List.take_succ_eq_append_getElem (by simp; omega)]
    simp [List.getElem_reverse, show xs.length - (k + 1) < xs.length by omega]
    congr 1; omega
theorem find_snd (p : Int → Bool) : ∀ l : List (Int × Int), (l.find? fun x => p x.2).map (·.2) = (l.map (·.2)).find? p
  | [] => rfl
  | x :: r => by
    simp only [List.find?_cons, List.map_cons]
    cases p x.2 <;> simp [find_snd p r]
theorem bestB_find (N lo o f n d : Int) (hlo : 0 ≤ lo) : ∀ k : Nat, ((ableK N lo o f k).reverse.find? (boundB N o f n d) = none ∧ bestB N lo o f n d k = -1) ∨ ((ableK N lo o f k).reverse.find? (boundB N o f n d) = some (bestB N lo o f n d k) ∧ 0 ≤ bestB N lo o f n d k)
  | 0 => .inl ⟨rfl, rfl⟩
  | k + 1 => by
    have ih := bestB_find N lo o f n d hlo k
    by_cases h : 0 < waysI N (lo + k) o f
    · have e1 : ableK N lo o f (k + 1) = ableK N lo o f k ++ [lo + k] := by rw [ableK, if_pos h]
      rw [e1, List.reverse_append, List.reverse_singleton, List.singleton_append, List.find?_cons]
      by_cases hb : boundB N o f n d (lo + k) = true
      · have e2 : bestB N lo o f n d (k + 1) = lo + k := by rw [bestB, if_pos ⟨h, hb⟩]
        rw [e2, hb]
        exact .inr ⟨rfl, by omega⟩
      · have e2 : bestB N lo o f n d (k + 1) = bestB N lo o f n d k := by rw [bestB, if_neg (fun h' => hb h'.2)]
        have hb' : boundB N o f n d (lo + k) = false := by simpa using hb
        rw [e2, hb']
        exact ih
    · have e1 : ableK N lo o f (k + 1) = ableK N lo o f k := by rw [ableK, if_neg h]
      have e2 : bestB N lo o f n d (k + 1) = bestB N lo o f n d k := by rw [bestB, if_neg (fun h' => h h'.1)]
      rw [e1, e2]
      exact ih
theorem boundP_best (N lo hi o f n d : Int) (hlo : 0 ≤ lo) : boundP N lo hi o f n d = if 0 ≤ bestB N lo o f n d (hi - lo + 1).toNat then (bestB N lo o f n d (hi - lo + 1).toNat, 0) else (0, 6) := by
  have h1 := revI_snd (ableL N lo hi o f) (ableL N lo hi o f).length (Nat.le_refl _)
  have h2 := find_snd (boundB N o f n d) (revI (ableL N lo hi o f) (ableL N lo hi o f).length)
  rw [h1, List.take_of_length_le (by simp)] at h2
  rw [boundP, boundL]
  rcases bestB_find N lo o f n d hlo (hi - lo + 1).toNat with ⟨h3, h4⟩ | ⟨h3, h4⟩
  · rw [show (ableL N lo hi o f).reverse.find? (boundB N o f n d) = none from h3, Option.map_eq_none_iff] at h2
    rw [h2, if_neg (by omega)]
  · rw [show (ableL N lo hi o f).reverse.find? (boundB N o f n d) = _ from h3] at h2
    obtain ⟨x, hx, hx2⟩ := Option.map_eq_some_iff.1 h2
    rw [hx, if_pos h4]
    simp only
    rw [hx2]
/-- What Bound tells where nothing is wrong. -/
theorem bound_at (N lo hi o f n d : Int) (hc : 1 ≤ N ∧ N ≤ 36 ∧ 0 ≤ lo ∧ lo ≤ hi ∧ hi ≤ N) (hd : 0 ≤ o ∧ o ≤ N ∧ 0 ≤ f ∧ f ≤ o) (hg : 1 ≤ d ∧ d ≤ 1000 ∧ 0 ≤ n ∧ n ≤ d) :
    boundAll N lo hi o f n d = if ableL N lo hi o f = [] then .tuple #[.int .i64 0, .int .i64 8] else if 0 ≤ bestB N lo o f n d (hi - lo + 1).toNat then .tuple #[.int .i64 (bestB N lo o f n d (hi - lo + 1).toNat), .int .i64 0] else .tuple #[.int .i64 0, .int .i64 6] := by
  have h2 : givenB n d = true := (givenB_iff n d).2 hg
  rw [boundAll, cargoB_ok hc, if_neg (by decide), if_neg (by simp [boundE, drawB_ok hd, h2, unlessV, firstE])]
  split
  · rfl
  · rw [boundP_best N lo hi o f n d hc.2.2.1]
    split <;> rfl
end Go.Proofs.YtdiclofeggkjcaaDoor

/- The bags that were not opened: Rest, where nothing is wrong. -/
namespace Go.Proofs.YtdiclofeggkjcaaDoor
set_option linter.unusedSimpArgs false
set_option linter.unusedVariables false
open Go.RowKit Go.Proofs.YtdiclofeggkjcaaDoor.ML Go.Proofs.YtdiclofeggkjcaaDoor.Samp

theorem three_stores {w : World} {b : Nat} {x y z : Value} (u v t : Value) (h0 : w.cell? ⟨b, 0, none⟩ = some x) (h1 : w.cell? ⟨b, 1, none⟩ = some y) (h2 : w.cell? ⟨b, 2, none⟩ = some z) :
    (((w.setCell ⟨b, 0, none⟩ u).setCell ⟨b, 1, none⟩ v).setCell ⟨b, 2, none⟩ t).cell? ⟨b, 0, none⟩ = some u ∧ (((w.setCell ⟨b, 0, none⟩ u).setCell ⟨b, 1, none⟩ v).setCell ⟨b, 2, none⟩ t).cell? ⟨b, 1, none⟩ = some v ∧ (((w.setCell ⟨b, 0, none⟩ u).setCell ⟨b, 1, none⟩ v).setCell ⟨b, 2, none⟩ t).cell? ⟨b, 2, none⟩ = some t := by
  refine ⟨?_, ?_, ?_⟩
  · rw [World.cell?_setCell_other _ _ _ _ (by simp), World.cell?_setCell_other _ _ _ _ (by simp)]
    exact World.cell?_setCell_same' _ _ _ (by rw [h0]; rfl)
  · rw [World.cell?_setCell_other _ _ _ _ (by simp)]
    exact World.cell?_setCell_same' _ _ _ (by rw [World.cell?_setCell_other _ _ _ _ (by simp), h1]; rfl)
  · exact World.cell?_setCell_same' _ _ _ (by rw [World.cell?_setCell_other _ _ _ _ (by simp), World.cell?_setCell_other _ _ _ _ (by simp), h2]; rfl)
abbrev i3 (a b c : Int) : Value := .agg #[.int .i64 a, .int .i64 b, .int .i64 c]
theorem can_v (N lo hi o f : Int) (w : World) (v : Value) (hv : Hid (canR N lo hi o f = v)) : Calls Tryd.prog 23 #[.agg #[.int .i64 N, .int .i64 lo, .int .i64 hi], i2 o f] w fun e w' => e = .returned v ∧ Below w.heap.size w w' := by
  have := can_any N lo hi o f w
  rw [hv.out] at this
  exact this

set_option maxRecDepth 100000 in
set_option maxHeartbeats 4000000 in
theorem rest_bad (N lo hi o f : Int) (w : World) (hc : 1 ≤ N ∧ N ≤ 36 ∧ 0 ≤ lo ∧ lo ≤ hi ∧ hi ≤ N) (hd : 0 ≤ o ∧ o ≤ N ∧ 0 ≤ f ∧ f ≤ o) (hv : Hid (canR N lo hi o f = .tuple #[i2 0 0, .int .i64 8])) :
    Calls Tryd.prog 34 #[.agg #[.int .i64 N, .int .i64 lo, .int .i64 hi], i2 o f] w fun e w' => e = .returned (.tuple #[i3 0 0 0, .int .i64 8]) ∧ Below w.heap.size w w' := by
  have hB0 : Below w.heap.size w (((w.alloc (.cells #[.int .i64 N, .int .i64 lo, .int .i64 hi] 26)).alloc (.cells #[.int .i64 o, .int .i64 f] 34)).alloc (.cells #[.int .i64 0, .int .i64 0, .int .i64 0] 26)) := (((Below.refl _ w).alloc (Nat.le_refl _) _).alloc (by simp) _).alloc (by simp; omega) _
  have c0_0 : (((w.alloc (.cells #[.int .i64 N, .int .i64 lo, .int .i64 hi] 26)).alloc (.cells #[.int .i64 o, .int .i64 f] 34)).alloc (.cells #[.int .i64 0, .int .i64 0, .int .i64 0] 26)).cell? ⟨w.heap.size, 0, none⟩ = some (.int .i64 N) := by simp [go_sem]
  have c0_1 : (((w.alloc (.cells #[.int .i64 N, .int .i64 lo, .int .i64 hi] 26)).alloc (.cells #[.int .i64 o, .int .i64 f] 34)).alloc (.cells #[.int .i64 0, .int .i64 0, .int .i64 0] 26)).cell? ⟨w.heap.size, 1, none⟩ = some (.int .i64 lo) := by simp [go_sem]
  have c0_2 : (((w.alloc (.cells #[.int .i64 N, .int .i64 lo, .int .i64 hi] 26)).alloc (.cells #[.int .i64 o, .int .i64 f] 34)).alloc (.cells #[.int .i64 0, .int .i64 0, .int .i64 0] 26)).cell? ⟨w.heap.size, 2, none⟩ = some (.int .i64 hi) := by simp [go_sem]
  have c1_0 : (((w.alloc (.cells #[.int .i64 N, .int .i64 lo, .int .i64 hi] 26)).alloc (.cells #[.int .i64 o, .int .i64 f] 34)).alloc (.cells #[.int .i64 0, .int .i64 0, .int .i64 0] 26)).cell? ⟨w.heap.size + 1, 0, none⟩ = some (.int .i64 o) := by simp [go_sem]
  have c1_1 : (((w.alloc (.cells #[.int .i64 N, .int .i64 lo, .int .i64 hi] 26)).alloc (.cells #[.int .i64 o, .int .i64 f] 34)).alloc (.cells #[.int .i64 0, .int .i64 0, .int .i64 0] 26)).cell? ⟨w.heap.size + 1, 1, none⟩ = some (.int .i64 f) := by simp [go_sem]
  have c2_0 : (((w.alloc (.cells #[.int .i64 N, .int .i64 lo, .int .i64 hi] 26)).alloc (.cells #[.int .i64 o, .int .i64 f] 34)).alloc (.cells #[.int .i64 0, .int .i64 0, .int .i64 0] 26)).cell? ⟨w.heap.size + 1 + 1, 0, none⟩ = some (.int .i64 0) := by simp [go_sem]
  have c2_1 : (((w.alloc (.cells #[.int .i64 N, .int .i64 lo, .int .i64 hi] 26)).alloc (.cells #[.int .i64 o, .int .i64 f] 34)).alloc (.cells #[.int .i64 0, .int .i64 0, .int .i64 0] 26)).cell? ⟨w.heap.size + 1 + 1, 1, none⟩ = some (.int .i64 0) := by simp [go_sem]
  have c2_2 : (((w.alloc (.cells #[.int .i64 N, .int .i64 lo, .int .i64 hi] 26)).alloc (.cells #[.int .i64 o, .int .i64 f] 34)).alloc (.cells #[.int .i64 0, .int .i64 0, .int .i64 0] 26)).cell? ⟨w.heap.size + 1 + 1, 2, none⟩ = some (.int .i64 0) := by simp [go_sem]
  have f2_0 : (((w.alloc (.cells #[.int .i64 N, .int .i64 lo, .int .i64 hi] 26)).alloc (.cells #[.int .i64 o, .int .i64 f] 34)).alloc (.cells #[.int .i64 0, .int .i64 0, .int .i64 0] 26)).frozen? ⟨w.heap.size + 1 + 1, 0, none⟩ = false := by simp [go_sem]
  have f2_1 : (((w.alloc (.cells #[.int .i64 N, .int .i64 lo, .int .i64 hi] 26)).alloc (.cells #[.int .i64 o, .int .i64 f] 34)).alloc (.cells #[.int .i64 0, .int .i64 0, .int .i64 0] 26)).frozen? ⟨w.heap.size + 1 + 1, 1, none⟩ = false := by simp [go_sem]
  have f2_2 : (((w.alloc (.cells #[.int .i64 N, .int .i64 lo, .int .i64 hi] 26)).alloc (.cells #[.int .i64 o, .int .i64 f] 34)).alloc (.cells #[.int .i64 0, .int .i64 0, .int .i64 0] 26)).frozen? ⟨w.heap.size + 1 + 1, 2, none⟩ = false := by simp [go_sem]
  go_enter Tryd.func34, Tryd.ntmps34
  go_wp2_with fail
  refine (can_v N lo hi o f _ _ hv).mono ?_
  rintro e w1 ⟨rfl, hB1⟩
  have hBz : Below w.heap.size w w1 := hB0.trans (hB1.mono (by simp; omega))
  have hzz : w.heap.size ≤ w1.heap.size := hBz.size
  have hzn : w.heap.size + 3 ≤ w1.heap.size := by have := hB1.size; simp at this; omega
  have kc0_0 := keepsB hB1 c0_0
  have kc0_1 := keepsB hB1 c0_1
  have kc0_2 := keepsB hB1 c0_2
  have kc1_0 := keepsB hB1 c1_0
  have kc1_1 := keepsB hB1 c1_1
  have kc2_0 := keepsB hB1 c2_0
  have kc2_1 := keepsB hB1 c2_1
  have kc2_2 := keepsB hB1 c2_2
  have kf2_0 := (hB1.frozen (p := ⟨w.heap.size + 1 + 1, 0, none⟩) (by first | (simp; done) | (simp; omega))).trans f2_0
  have kf2_1 := (hB1.frozen (p := ⟨w.heap.size + 1 + 1, 1, none⟩) (by first | (simp; done) | (simp; omega))).trans f2_1
  have kf2_2 := (hB1.frozen (p := ⟨w.heap.size + 1 + 1, 2, none⟩) (by first | (simp; done) | (simp; omega))).trans f2_2
  clear hB0 hB1 c0_0 c0_1 c0_2 c1_0 c1_1 c2_0 c2_1 c2_2 f2_0 f2_1 f2_2
  generalize hbb : w.heap.size = bb at *
  have HBB := Lib.hid hbb
  clear hbb
  have HB_w1 := Lib.hid (show Below bb w w1 from hBz)
  have hz_w1 : bb ≤ w1.heap.size := hzz
  have FA : ∀ W, Free.Bel w1 W → W.cell? ⟨bb, 0, none⟩ = some (.int .i64 N) ∧ W.cell? ⟨bb, 1, none⟩ = some (.int .i64 lo) ∧ W.cell? ⟨bb, 2, none⟩ = some (.int .i64 hi) ∧ W.cell? ⟨bb + 1, 0, none⟩ = some (.int .i64 o) ∧ W.cell? ⟨bb + 1, 1, none⟩ = some (.int .i64 f) ∧ W.cell? ⟨bb + 1 + 1, 0, none⟩ = some (.int .i64 0) ∧ W.cell? ⟨bb + 1 + 1, 1, none⟩ = some (.int .i64 0) ∧ W.cell? ⟨bb + 1 + 1, 2, none⟩ = some (.int .i64 0) ∧ W.frozen? ⟨bb + 1 + 1, 0, none⟩ = false ∧ W.frozen? ⟨bb + 1 + 1, 1, none⟩ = false ∧ W.frozen? ⟨bb + 1 + 1, 2, none⟩ = false ∧ bb + 3 ≤ W.heap.size ∧ bb ≤ W.heap.size := fun W hW => ⟨keepsB hW kc0_0, keepsB hW kc0_1, keepsB hW kc0_2, keepsB hW kc1_0, keepsB hW kc1_1, keepsB hW kc2_0, keepsB hW kc2_1, keepsB hW kc2_2, (hW.frozen (p := ⟨bb + 1 + 1, 0, none⟩) (by simp; omega)).trans kf2_0, (hW.frozen (p := ⟨bb + 1 + 1, 1, none⟩) (by simp; omega)).trans kf2_1, (hW.frozen (p := ⟨bb + 1 + 1, 2, none⟩) (by simp; omega)).trans kf2_2, Nat.le_trans hzn hW.size, Nat.le_trans hz_w1 hW.size⟩
  have KR : Free.Bel w1 w1 := Free.Bel.refl _
  clear hBz hzz kc0_0 kc0_1 kc0_2 kc1_0 kc1_1 kc2_0 kc2_1 kc2_2 kf2_0 kf2_1 kf2_2 hzn
  have KA0 : Free.Bel w1 (w1.alloc (.cells #[.int .i64 0, .int .i64 0] 24)) := belAlloc _ _
  have n0 : (w1.alloc (.cells #[.int .i64 0, .int .i64 0] 24)).cell? ⟨w1.heap.size, 0, none⟩ = some (.int .i64 0) := by simp [go_sem]
  have n1 : (w1.alloc (.cells #[.int .i64 0, .int .i64 0] 24)).cell? ⟨w1.heap.size, 1, none⟩ = some (.int .i64 0) := by simp [go_sem]
  have hz := FA _ KA0
  have ts := three_stores (w := (w1.alloc (.cells #[.int .i64 0, .int .i64 0] 24))) (b := bb + 1 + 1) (x := .int .i64 0) (y := .int .i64 0) (z := .int .i64 0) (.int .i64 0) (.int .i64 0) (.int .i64 0) (by simp [hz]) (by simp [hz]) (by simp [hz])
  have hBB : Below bb w ((((w1.alloc (.cells #[.int .i64 0, .int .i64 0] 24)).setCell ⟨bb + 1 + 1, 0, none⟩ (.int .i64 0)).setCell ⟨bb + 1 + 1, 1, none⟩ (.int .i64 0)).setCell ⟨bb + 1 + 1, 2, none⟩ (.int .i64 0)) := (((HB_w1.out.trans (KA0.mono hz_w1)).setCell (p := ⟨bb + 1 + 1, 0, none⟩) (by simp; omega) _).setCell (p := ⟨bb + 1 + 1, 1, none⟩) (by simp; omega) _).setCell (p := ⟨bb + 1 + 1, 2, none⟩) (by simp; omega) _
  have HTS := Lib.hid ts
  have HBS := Lib.hid hBB
  clear hz ts hBB
  go_wp2_with fail
  have r0 := HTS.out.1
  have r1 := HTS.out.2.1
  have r2 := HTS.out.2.2
  have hbb := HBB.out
  subst hbb
  exact bodyPost_ret (v := .tuple #[i3 (0) (0) (0), .int .i64 8]) (by simp [results, Tryd.results34, go_sem, r0, r1, r2]) rfl ⟨rfl, HBS.out⟩

set_option maxRecDepth 100000 in
set_option maxHeartbeats 4000000 in
theorem rest_full (N lo hi f : Int) (w : World) (hc : 1 ≤ N ∧ N ≤ 36 ∧ 0 ≤ lo ∧ lo ≤ hi ∧ hi ≤ N) (hd : 0 ≤ N ∧ N ≤ N ∧ 0 ≤ f ∧ f ≤ N) (cx cy : Int) (hv : Hid (canR N lo hi N f = .tuple #[i2 cx cy, .int .i64 0])) :
    Calls Tryd.prog 34 #[.agg #[.int .i64 N, .int .i64 lo, .int .i64 hi], i2 N f] w fun e w' => e = .returned (.tuple #[i3 0 0 0, .int .i64 6]) ∧ Below w.heap.size w w' := by
  have hB0 : Below w.heap.size w (((w.alloc (.cells #[.int .i64 N, .int .i64 lo, .int .i64 hi] 26)).alloc (.cells #[.int .i64 N, .int .i64 f] 34)).alloc (.cells #[.int .i64 0, .int .i64 0, .int .i64 0] 26)) := (((Below.refl _ w).alloc (Nat.le_refl _) _).alloc (by simp) _).alloc (by simp; omega) _
  have c0_0 : (((w.alloc (.cells #[.int .i64 N, .int .i64 lo, .int .i64 hi] 26)).alloc (.cells #[.int .i64 N, .int .i64 f] 34)).alloc (.cells #[.int .i64 0, .int .i64 0, .int .i64 0] 26)).cell? ⟨w.heap.size, 0, none⟩ = some (.int .i64 N) := by simp [go_sem]
  have c0_1 : (((w.alloc (.cells #[.int .i64 N, .int .i64 lo, .int .i64 hi] 26)).alloc (.cells #[.int .i64 N, .int .i64 f] 34)).alloc (.cells #[.int .i64 0, .int .i64 0, .int .i64 0] 26)).cell? ⟨w.heap.size, 1, none⟩ = some (.int .i64 lo) := by simp [go_sem]
  have c0_2 : (((w.alloc (.cells #[.int .i64 N, .int .i64 lo, .int .i64 hi] 26)).alloc (.cells #[.int .i64 N, .int .i64 f] 34)).alloc (.cells #[.int .i64 0, .int .i64 0, .int .i64 0] 26)).cell? ⟨w.heap.size, 2, none⟩ = some (.int .i64 hi) := by simp [go_sem]
  have c1_0 : (((w.alloc (.cells #[.int .i64 N, .int .i64 lo, .int .i64 hi] 26)).alloc (.cells #[.int .i64 N, .int .i64 f] 34)).alloc (.cells #[.int .i64 0, .int .i64 0, .int .i64 0] 26)).cell? ⟨w.heap.size + 1, 0, none⟩ = some (.int .i64 N) := by simp [go_sem]
  have c1_1 : (((w.alloc (.cells #[.int .i64 N, .int .i64 lo, .int .i64 hi] 26)).alloc (.cells #[.int .i64 N, .int .i64 f] 34)).alloc (.cells #[.int .i64 0, .int .i64 0, .int .i64 0] 26)).cell? ⟨w.heap.size + 1, 1, none⟩ = some (.int .i64 f) := by simp [go_sem]
  have c2_0 : (((w.alloc (.cells #[.int .i64 N, .int .i64 lo, .int .i64 hi] 26)).alloc (.cells #[.int .i64 N, .int .i64 f] 34)).alloc (.cells #[.int .i64 0, .int .i64 0, .int .i64 0] 26)).cell? ⟨w.heap.size + 1 + 1, 0, none⟩ = some (.int .i64 0) := by simp [go_sem]
  have c2_1 : (((w.alloc (.cells #[.int .i64 N, .int .i64 lo, .int .i64 hi] 26)).alloc (.cells #[.int .i64 N, .int .i64 f] 34)).alloc (.cells #[.int .i64 0, .int .i64 0, .int .i64 0] 26)).cell? ⟨w.heap.size + 1 + 1, 1, none⟩ = some (.int .i64 0) := by simp [go_sem]
  have c2_2 : (((w.alloc (.cells #[.int .i64 N, .int .i64 lo, .int .i64 hi] 26)).alloc (.cells #[.int .i64 N, .int .i64 f] 34)).alloc (.cells #[.int .i64 0, .int .i64 0, .int .i64 0] 26)).cell? ⟨w.heap.size + 1 + 1, 2, none⟩ = some (.int .i64 0) := by simp [go_sem]
  have f2_0 : (((w.alloc (.cells #[.int .i64 N, .int .i64 lo, .int .i64 hi] 26)).alloc (.cells #[.int .i64 N, .int .i64 f] 34)).alloc (.cells #[.int .i64 0, .int .i64 0, .int .i64 0] 26)).frozen? ⟨w.heap.size + 1 + 1, 0, none⟩ = false := by simp [go_sem]
  have f2_1 : (((w.alloc (.cells #[.int .i64 N, .int .i64 lo, .int .i64 hi] 26)).alloc (.cells #[.int .i64 N, .int .i64 f] 34)).alloc (.cells #[.int .i64 0, .int .i64 0, .int .i64 0] 26)).frozen? ⟨w.heap.size + 1 + 1, 1, none⟩ = false := by simp [go_sem]
  have f2_2 : (((w.alloc (.cells #[.int .i64 N, .int .i64 lo, .int .i64 hi] 26)).alloc (.cells #[.int .i64 N, .int .i64 f] 34)).alloc (.cells #[.int .i64 0, .int .i64 0, .int .i64 0] 26)).frozen? ⟨w.heap.size + 1 + 1, 2, none⟩ = false := by simp [go_sem]
  go_enter Tryd.func34, Tryd.ntmps34
  go_wp2_with fail
  refine (can_v N lo hi N f _ _ hv).mono ?_
  rintro e w1 ⟨rfl, hB1⟩
  have hBz : Below w.heap.size w w1 := hB0.trans (hB1.mono (by simp; omega))
  have hzz : w.heap.size ≤ w1.heap.size := hBz.size
  have hzn : w.heap.size + 3 ≤ w1.heap.size := by have := hB1.size; simp at this; omega
  have kc0_0 := keepsB hB1 c0_0
  have kc0_1 := keepsB hB1 c0_1
  have kc0_2 := keepsB hB1 c0_2
  have kc1_0 := keepsB hB1 c1_0
  have kc1_1 := keepsB hB1 c1_1
  have kc2_0 := keepsB hB1 c2_0
  have kc2_1 := keepsB hB1 c2_1
  have kc2_2 := keepsB hB1 c2_2
  have kf2_0 := (hB1.frozen (p := ⟨w.heap.size + 1 + 1, 0, none⟩) (by first | (simp; done) | (simp; omega))).trans f2_0
  have kf2_1 := (hB1.frozen (p := ⟨w.heap.size + 1 + 1, 1, none⟩) (by first | (simp; done) | (simp; omega))).trans f2_1
  have kf2_2 := (hB1.frozen (p := ⟨w.heap.size + 1 + 1, 2, none⟩) (by first | (simp; done) | (simp; omega))).trans f2_2
  clear hB0 hB1 c0_0 c0_1 c0_2 c1_0 c1_1 c2_0 c2_1 c2_2 f2_0 f2_1 f2_2
  generalize hbb : w.heap.size = bb at *
  have HBB := Lib.hid hbb
  clear hbb
  have HB_w1 := Lib.hid (show Below bb w w1 from hBz)
  have hz_w1 : bb ≤ w1.heap.size := hzz
  have FA : ∀ W, Free.Bel w1 W → W.cell? ⟨bb, 0, none⟩ = some (.int .i64 N) ∧ W.cell? ⟨bb, 1, none⟩ = some (.int .i64 lo) ∧ W.cell? ⟨bb, 2, none⟩ = some (.int .i64 hi) ∧ W.cell? ⟨bb + 1, 0, none⟩ = some (.int .i64 N) ∧ W.cell? ⟨bb + 1, 1, none⟩ = some (.int .i64 f) ∧ W.cell? ⟨bb + 1 + 1, 0, none⟩ = some (.int .i64 0) ∧ W.cell? ⟨bb + 1 + 1, 1, none⟩ = some (.int .i64 0) ∧ W.cell? ⟨bb + 1 + 1, 2, none⟩ = some (.int .i64 0) ∧ W.frozen? ⟨bb + 1 + 1, 0, none⟩ = false ∧ W.frozen? ⟨bb + 1 + 1, 1, none⟩ = false ∧ W.frozen? ⟨bb + 1 + 1, 2, none⟩ = false ∧ bb + 3 ≤ W.heap.size ∧ bb ≤ W.heap.size := fun W hW => ⟨keepsB hW kc0_0, keepsB hW kc0_1, keepsB hW kc0_2, keepsB hW kc1_0, keepsB hW kc1_1, keepsB hW kc2_0, keepsB hW kc2_1, keepsB hW kc2_2, (hW.frozen (p := ⟨bb + 1 + 1, 0, none⟩) (by simp; omega)).trans kf2_0, (hW.frozen (p := ⟨bb + 1 + 1, 1, none⟩) (by simp; omega)).trans kf2_1, (hW.frozen (p := ⟨bb + 1 + 1, 2, none⟩) (by simp; omega)).trans kf2_2, Nat.le_trans hzn hW.size, Nat.le_trans hz_w1 hW.size⟩
  have KR : Free.Bel w1 w1 := Free.Bel.refl _
  clear hBz hzz kc0_0 kc0_1 kc0_2 kc1_0 kc1_1 kc2_0 kc2_1 kc2_2 kf2_0 kf2_1 kf2_2 hzn
  have KA0 : Free.Bel w1 (w1.alloc (.cells #[.int .i64 cx, .int .i64 cy] 24)) := belAlloc _ _
  have n0 : (w1.alloc (.cells #[.int .i64 cx, .int .i64 cy] 24)).cell? ⟨w1.heap.size, 0, none⟩ = some (.int .i64 cx) := by simp [go_sem]
  have n1 : (w1.alloc (.cells #[.int .i64 cx, .int .i64 cy] 24)).cell? ⟨w1.heap.size, 1, none⟩ = some (.int .i64 cy) := by simp [go_sem]
  have hz := FA _ KA0
  have ts := three_stores (w := (w1.alloc (.cells #[.int .i64 cx, .int .i64 cy] 24))) (b := bb + 1 + 1) (x := .int .i64 0) (y := .int .i64 0) (z := .int .i64 0) (.int .i64 0) (.int .i64 0) (.int .i64 0) (by simp [hz]) (by simp [hz]) (by simp [hz])
  have hBB : Below bb w ((((w1.alloc (.cells #[.int .i64 cx, .int .i64 cy] 24)).setCell ⟨bb + 1 + 1, 0, none⟩ (.int .i64 0)).setCell ⟨bb + 1 + 1, 1, none⟩ (.int .i64 0)).setCell ⟨bb + 1 + 1, 2, none⟩ (.int .i64 0)) := (((HB_w1.out.trans (KA0.mono hz_w1)).setCell (p := ⟨bb + 1 + 1, 0, none⟩) (by simp; omega) _).setCell (p := ⟨bb + 1 + 1, 1, none⟩) (by simp; omega) _).setCell (p := ⟨bb + 1 + 1, 2, none⟩) (by simp; omega) _
  have HTS := Lib.hid ts
  have HBS := Lib.hid hBB
  clear hz ts hBB
  go_wp2_with fail
  have r0 := HTS.out.1
  have r1 := HTS.out.2.1
  have r2 := HTS.out.2.2
  have hbb := HBB.out
  subst hbb
  exact bodyPost_ret (v := .tuple #[i3 (0) (0) (0), .int .i64 6]) (by simp [results, Tryd.results34, go_sem, r0, r1, r2]) rfl ⟨rfl, HBS.out⟩

set_option maxRecDepth 100000 in
set_option maxHeartbeats 4000000 in
theorem rest_ok (N lo hi o f : Int) (w : World) (hc : 1 ≤ N ∧ N ≤ 36 ∧ 0 ≤ lo ∧ lo ≤ hi ∧ hi ≤ N) (hd : 0 ≤ o ∧ o ≤ N ∧ 0 ≤ f ∧ f ≤ o) (cx cy : Int) (hv : Hid (canR N lo hi o f = .tuple #[i2 cx cy, .int .i64 0])) (hb : 0 ≤ cx ∧ cx ≤ 36 ∧ 0 ≤ cy ∧ cy ≤ 36) (hoN : o < N) :
    Calls Tryd.prog 34 #[.agg #[.int .i64 N, .int .i64 lo, .int .i64 hi], i2 o f] w fun e w' => e = .returned (.tuple #[i3 (N - o) (cx - f) (cy - f), .int .i64 0]) ∧ Below w.heap.size w w' := by
  have hB0 : Below w.heap.size w (((w.alloc (.cells #[.int .i64 N, .int .i64 lo, .int .i64 hi] 26)).alloc (.cells #[.int .i64 o, .int .i64 f] 34)).alloc (.cells #[.int .i64 0, .int .i64 0, .int .i64 0] 26)) := (((Below.refl _ w).alloc (Nat.le_refl _) _).alloc (by simp) _).alloc (by simp; omega) _
  have c0_0 : (((w.alloc (.cells #[.int .i64 N, .int .i64 lo, .int .i64 hi] 26)).alloc (.cells #[.int .i64 o, .int .i64 f] 34)).alloc (.cells #[.int .i64 0, .int .i64 0, .int .i64 0] 26)).cell? ⟨w.heap.size, 0, none⟩ = some (.int .i64 N) := by simp [go_sem]
  have c0_1 : (((w.alloc (.cells #[.int .i64 N, .int .i64 lo, .int .i64 hi] 26)).alloc (.cells #[.int .i64 o, .int .i64 f] 34)).alloc (.cells #[.int .i64 0, .int .i64 0, .int .i64 0] 26)).cell? ⟨w.heap.size, 1, none⟩ = some (.int .i64 lo) := by simp [go_sem]
  have c0_2 : (((w.alloc (.cells #[.int .i64 N, .int .i64 lo, .int .i64 hi] 26)).alloc (.cells #[.int .i64 o, .int .i64 f] 34)).alloc (.cells #[.int .i64 0, .int .i64 0, .int .i64 0] 26)).cell? ⟨w.heap.size, 2, none⟩ = some (.int .i64 hi) := by simp [go_sem]
  have c1_0 : (((w.alloc (.cells #[.int .i64 N, .int .i64 lo, .int .i64 hi] 26)).alloc (.cells #[.int .i64 o, .int .i64 f] 34)).alloc (.cells #[.int .i64 0, .int .i64 0, .int .i64 0] 26)).cell? ⟨w.heap.size + 1, 0, none⟩ = some (.int .i64 o) := by simp [go_sem]
  have c1_1 : (((w.alloc (.cells #[.int .i64 N, .int .i64 lo, .int .i64 hi] 26)).alloc (.cells #[.int .i64 o, .int .i64 f] 34)).alloc (.cells #[.int .i64 0, .int .i64 0, .int .i64 0] 26)).cell? ⟨w.heap.size + 1, 1, none⟩ = some (.int .i64 f) := by simp [go_sem]
  have c2_0 : (((w.alloc (.cells #[.int .i64 N, .int .i64 lo, .int .i64 hi] 26)).alloc (.cells #[.int .i64 o, .int .i64 f] 34)).alloc (.cells #[.int .i64 0, .int .i64 0, .int .i64 0] 26)).cell? ⟨w.heap.size + 1 + 1, 0, none⟩ = some (.int .i64 0) := by simp [go_sem]
  have c2_1 : (((w.alloc (.cells #[.int .i64 N, .int .i64 lo, .int .i64 hi] 26)).alloc (.cells #[.int .i64 o, .int .i64 f] 34)).alloc (.cells #[.int .i64 0, .int .i64 0, .int .i64 0] 26)).cell? ⟨w.heap.size + 1 + 1, 1, none⟩ = some (.int .i64 0) := by simp [go_sem]
  have c2_2 : (((w.alloc (.cells #[.int .i64 N, .int .i64 lo, .int .i64 hi] 26)).alloc (.cells #[.int .i64 o, .int .i64 f] 34)).alloc (.cells #[.int .i64 0, .int .i64 0, .int .i64 0] 26)).cell? ⟨w.heap.size + 1 + 1, 2, none⟩ = some (.int .i64 0) := by simp [go_sem]
  have f2_0 : (((w.alloc (.cells #[.int .i64 N, .int .i64 lo, .int .i64 hi] 26)).alloc (.cells #[.int .i64 o, .int .i64 f] 34)).alloc (.cells #[.int .i64 0, .int .i64 0, .int .i64 0] 26)).frozen? ⟨w.heap.size + 1 + 1, 0, none⟩ = false := by simp [go_sem]
  have f2_1 : (((w.alloc (.cells #[.int .i64 N, .int .i64 lo, .int .i64 hi] 26)).alloc (.cells #[.int .i64 o, .int .i64 f] 34)).alloc (.cells #[.int .i64 0, .int .i64 0, .int .i64 0] 26)).frozen? ⟨w.heap.size + 1 + 1, 1, none⟩ = false := by simp [go_sem]
  have f2_2 : (((w.alloc (.cells #[.int .i64 N, .int .i64 lo, .int .i64 hi] 26)).alloc (.cells #[.int .i64 o, .int .i64 f] 34)).alloc (.cells #[.int .i64 0, .int .i64 0, .int .i64 0] 26)).frozen? ⟨w.heap.size + 1 + 1, 2, none⟩ = false := by simp [go_sem]
  go_enter Tryd.func34, Tryd.ntmps34
  go_wp2_with fail
  refine (can_v N lo hi o f _ _ hv).mono ?_
  rintro e w1 ⟨rfl, hB1⟩
  have hBz : Below w.heap.size w w1 := hB0.trans (hB1.mono (by simp; omega))
  have hzz : w.heap.size ≤ w1.heap.size := hBz.size
  have hzn : w.heap.size + 3 ≤ w1.heap.size := by have := hB1.size; simp at this; omega
  have kc0_0 := keepsB hB1 c0_0
  have kc0_1 := keepsB hB1 c0_1
  have kc0_2 := keepsB hB1 c0_2
  have kc1_0 := keepsB hB1 c1_0
  have kc1_1 := keepsB hB1 c1_1
  have kc2_0 := keepsB hB1 c2_0
  have kc2_1 := keepsB hB1 c2_1
  have kc2_2 := keepsB hB1 c2_2
  have kf2_0 := (hB1.frozen (p := ⟨w.heap.size + 1 + 1, 0, none⟩) (by first | (simp; done) | (simp; omega))).trans f2_0
  have kf2_1 := (hB1.frozen (p := ⟨w.heap.size + 1 + 1, 1, none⟩) (by first | (simp; done) | (simp; omega))).trans f2_1
  have kf2_2 := (hB1.frozen (p := ⟨w.heap.size + 1 + 1, 2, none⟩) (by first | (simp; done) | (simp; omega))).trans f2_2
  clear hB0 hB1 c0_0 c0_1 c0_2 c1_0 c1_1 c2_0 c2_1 c2_2 f2_0 f2_1 f2_2
  generalize hbb : w.heap.size = bb at *
  have HBB := Lib.hid hbb
  clear hbb
  have HB_w1 := Lib.hid (show Below bb w w1 from hBz)
  have hz_w1 : bb ≤ w1.heap.size := hzz
  have FA : ∀ W, Free.Bel w1 W → W.cell? ⟨bb, 0, none⟩ = some (.int .i64 N) ∧ W.cell? ⟨bb, 1, none⟩ = some (.int .i64 lo) ∧ W.cell? ⟨bb, 2, none⟩ = some (.int .i64 hi) ∧ W.cell? ⟨bb + 1, 0, none⟩ = some (.int .i64 o) ∧ W.cell? ⟨bb + 1, 1, none⟩ = some (.int .i64 f) ∧ W.cell? ⟨bb + 1 + 1, 0, none⟩ = some (.int .i64 0) ∧ W.cell? ⟨bb + 1 + 1, 1, none⟩ = some (.int .i64 0) ∧ W.cell? ⟨bb + 1 + 1, 2, none⟩ = some (.int .i64 0) ∧ W.frozen? ⟨bb + 1 + 1, 0, none⟩ = false ∧ W.frozen? ⟨bb + 1 + 1, 1, none⟩ = false ∧ W.frozen? ⟨bb + 1 + 1, 2, none⟩ = false ∧ bb + 3 ≤ W.heap.size ∧ bb ≤ W.heap.size := fun W hW => ⟨keepsB hW kc0_0, keepsB hW kc0_1, keepsB hW kc0_2, keepsB hW kc1_0, keepsB hW kc1_1, keepsB hW kc2_0, keepsB hW kc2_1, keepsB hW kc2_2, (hW.frozen (p := ⟨bb + 1 + 1, 0, none⟩) (by simp; omega)).trans kf2_0, (hW.frozen (p := ⟨bb + 1 + 1, 1, none⟩) (by simp; omega)).trans kf2_1, (hW.frozen (p := ⟨bb + 1 + 1, 2, none⟩) (by simp; omega)).trans kf2_2, Nat.le_trans hzn hW.size, Nat.le_trans hz_w1 hW.size⟩
  have KR : Free.Bel w1 w1 := Free.Bel.refl _
  clear hBz hzz kc0_0 kc0_1 kc0_2 kc1_0 kc1_1 kc2_0 kc2_1 kc2_2 kf2_0 kf2_1 kf2_2 hzn
  have k0 : (o == N) = false := by simp; omega
  have v1 : IntKind.i64.wrap (N - o) = N - o := IntWalk.i64_in _ (by omega)
  have v2 : IntKind.i64.wrap (cx - f) = cx - f := IntWalk.i64_in _ (by omega)
  have v3 : IntKind.i64.wrap (cy - f) = cy - f := IntWalk.i64_in _ (by omega)
  have KA0 : Free.Bel w1 (w1.alloc (.cells #[.int .i64 cx, .int .i64 cy] 24)) := belAlloc _ _
  have n0 : (w1.alloc (.cells #[.int .i64 cx, .int .i64 cy] 24)).cell? ⟨w1.heap.size, 0, none⟩ = some (.int .i64 cx) := by simp [go_sem]
  have n1 : (w1.alloc (.cells #[.int .i64 cx, .int .i64 cy] 24)).cell? ⟨w1.heap.size, 1, none⟩ = some (.int .i64 cy) := by simp [go_sem]
  have hz := FA _ KA0
  have ts := three_stores (w := (w1.alloc (.cells #[.int .i64 cx, .int .i64 cy] 24))) (b := bb + 1 + 1) (x := .int .i64 0) (y := .int .i64 0) (z := .int .i64 0) (.int .i64 (N - o)) (.int .i64 (cx - f)) (.int .i64 (cy - f)) (by simp [hz]) (by simp [hz]) (by simp [hz])
  have hBB : Below bb w ((((w1.alloc (.cells #[.int .i64 cx, .int .i64 cy] 24)).setCell ⟨bb + 1 + 1, 0, none⟩ (.int .i64 (N - o))).setCell ⟨bb + 1 + 1, 1, none⟩ (.int .i64 (cx - f))).setCell ⟨bb + 1 + 1, 2, none⟩ (.int .i64 (cy - f))) := (((HB_w1.out.trans (KA0.mono hz_w1)).setCell (p := ⟨bb + 1 + 1, 0, none⟩) (by simp; omega) _).setCell (p := ⟨bb + 1 + 1, 1, none⟩) (by simp; omega) _).setCell (p := ⟨bb + 1 + 1, 2, none⟩) (by simp; omega) _
  have HTS := Lib.hid ts
  have HBS := Lib.hid hBB
  clear hz ts hBB
  go_wp2_with fail
  have r0 := HTS.out.1
  have r1 := HTS.out.2.1
  have r2 := HTS.out.2.2
  have hbb := HBB.out
  subst hbb
  exact bodyPost_ret (v := .tuple #[i3 ((N - o)) ((cx - f)) ((cy - f)), .int .i64 0]) (by simp [results, Tryd.results34, go_sem, r0, r1, r2]) rfl ⟨rfl, HBS.out⟩
end Go.Proofs.YtdiclofeggkjcaaDoor

/- Short names for long ones. -/
namespace Go.Proofs.YtdiclofeggkjcaaDoor
theorem bt {a b c : World} (h : Free.Bel a b) (k : Free.Bel b c) : Free.Bel a c := Free.Bel.trans _ _ _ h k
theorem al1.{u} {α : Type u} {l : List α} {a : α} {i : Nat} : (a :: l)[i + 1]? = l[i]? := rfl
theorem al2.{u} {α : Type u} {l : List α} {a : α} : (a :: l)[0]? = some a := rfl
theorem al3.{u} {α : Type u} {xs : Array α} {i : Nat} {d : α} : xs.getD i d = xs[i]?.getD d := by simp
theorem al4.{u} {α : Type u} {l : List α} {i : Nat} : l.toArray[i]? = l[i]? := by simp
theorem al5.{u} {α : Type u} {a b : α} : (some a).getD b = a := rfl
theorem an1.{u} {α : Type u} (l : List α) : [] ++ l = l := rfl
theorem an2.{u} {α : Type u} {a : α} {l m : List α} : (a :: l) ++ m = a :: (l ++ m) := rfl
end Go.Proofs.YtdiclofeggkjcaaDoor

/- The law about what can be, and what is left: its walk. -/
namespace Go.Proofs.YtdiclofeggkjcaaDoor
set_option linter.unusedSimpArgs false
set_option linter.unusedVariables false
open Go.RowKit Go.Proofs.YtdiclofeggkjcaaDoor.ML Go.Proofs.YtdiclofeggkjcaaDoor.Samp

def isB (x y e n : Int) : Bool := decide (e = 0) && (decide (x ≤ n) && decide (n ≤ y))
theorem part_pos (a b p q : Int) (ha : 0 ≤ a) (hb : 0 < b) (h : partV a.toNat b.toNat = i2 p q) : decide (0 < p) = decide (0 < a) := by
  unfold partV lowest at h
  simp only [Value.agg.injEq, Array.mk.injEq, List.cons.injEq, Value.int.injEq, true_and, and_true] at h
  obtain ⟨h1, _⟩ := h
  rw [decide_eq_decide, ← h1]
  constructor
  · intro h0
    by_cases ha0 : a.toNat = 0
    · rw [ha0] at h0; simp at h0
    · omega
  · intro h0
    have hg : 0 < Nat.gcd a.toNat b.toNat := Nat.gcd_pos_of_pos_left _ (by omega)
    have := Nat.div_pos (Nat.le_of_dvd (by omega) (Nat.gcd_dvd_left a.toNat b.toNat)) hg
    omega

set_option maxRecDepth 100000 in
set_option maxHeartbeats 2000000 in
theorem is_any (x y e n : Int) (w : World) :
    Calls Tryd.prog 40 #[i2 x y, .int .i64 e, .int .i64 n] w fun r w' => r = .returned (.bool (isB x y e n)) ∧ Below w.heap.size w w' := by
  have hB0 : Below w.heap.size w (w.alloc (.cells #[.int .i64 x, .int .i64 y] 24)) := (Below.refl _ w).alloc (Nat.le_refl _) _
  have c0_0 : (w.alloc (.cells #[.int .i64 x, .int .i64 y] 24)).cell? ⟨w.heap.size, 0, none⟩ = some (.int .i64 x) := by simp [go_sem]
  have c0_1 : (w.alloc (.cells #[.int .i64 x, .int .i64 y] 24)).cell? ⟨w.heap.size, 1, none⟩ = some (.int .i64 y) := by simp [go_sem]
  go_enter Tryd.func40, Tryd.ntmps40
  by_cases he : e = 0
  · subst he
    by_cases h1 : x ≤ n
    · have k1 : decide (x ≤ n) = true := decide_eq_true h1
      go_wp2_with fail
      go_ret
      exact ⟨by simp [isB, k1], hB0⟩
    · have k1 : decide (x ≤ n) = false := decide_eq_false h1
      go_wp2_with fail
      go_ret
      exact ⟨by simp [isB, k1], hB0⟩
  · have k0 : (e == 0) = false := by simp [he]
    have k1 : decide (e = 0) = false := decide_eq_false he
    go_wp2_with fail
    go_ret
    exact ⟨by simp [isB, k1], hB0⟩
theorem is_v (x y e n : Int) (v : Value) (w : World) (h : Hid (.bool (isB x y e n) = v)) :
    Calls Tryd.prog 40 #[i2 x y, .int .i64 e, .int .i64 n] w fun r w' => r = .returned v ∧ Below w.heap.size w w' := by
  have := is_any x y e n w
  rw [h.out] at this
  exact this

theorem rest_full2 (N lo hi o f : Int) (w : World) (ho : Hid (o = N)) (hc : 1 ≤ N ∧ N ≤ 36 ∧ 0 ≤ lo ∧ lo ≤ hi ∧ hi ≤ N) (hd : 0 ≤ o ∧ o ≤ N ∧ 0 ≤ f ∧ f ≤ o) (cx cy : Int) (hv : Hid (canR N lo hi o f = .tuple #[i2 cx cy, .int .i64 0])) :
    Calls Tryd.prog 34 #[.agg #[.int .i64 N, .int .i64 lo, .int .i64 hi], i2 o f] w fun e w' => e = .returned (.tuple #[i3 0 0 0, .int .i64 6]) ∧ Below w.heap.size w w' := by
  have h := ho.out
  subst h
  exact rest_full _ lo hi f w hc hd cx cy hv
theorem check_ok (N lo hi : Int) (w : World) (hc : 1 ≤ N ∧ N ≤ 36 ∧ 0 ≤ lo ∧ lo ≤ hi ∧ hi ≤ N) :
    Calls Tryd.prog 41 #[.agg #[.int .i64 N, .int .i64 lo, .int .i64 hi]] w fun e w' => e = .returned (.int .i64 0) ∧ Below w.heap.size w w' := by
  have := check_any N lo hi w
  rw [cargoB_ok hc] at this
  exact this

set_option maxRecDepth 100000 in
set_option maxHeartbeats 8000000 in
theorem canL_fg (N lo hi o f sx sy cx cy ec dx dy ed : Int) (w : World) (hT : TabD w) (hc : 1 ≤ N ∧ N ≤ 36 ∧ 0 ≤ lo ∧ lo ≤ hi ∧ hi ≤ N) (hd : 0 ≤ o ∧ o ≤ N ∧ 0 ≤ f ∧ f ≤ o) (ho : o = N) (HCAN : Hid (canR N lo hi o f = .tuple #[i2 sx sy, .int .i64 0])) (hs : lo ≤ sx ∧ sx ≤ sy ∧ sy ≤ hi ∧ f ≤ sx ∧ sy ≤ N - (o - f)) (HIS : Hid (∀ n, lo ≤ n → n ≤ hi → ((f ≤ n ∧ o - f ≤ N - n) → isB sx sy 0 n = true) ∧ (¬ (f ≤ n ∧ o - f ≤ N - n) → isB sx sy 0 n = false))) :
    Calls Tryd.prog 12 #[.agg #[.int .i64 N, .int .i64 lo, .int .i64 hi], i2 o f] w fun e w' => e = .returned (.bool true) ∧ Below w.heap.size w w' := by
  have HO := Lib.hid ho
  have hob : o ≤ N ∧ N ≤ o := by omega
  have kq : (o == N) = true := by simp; omega
  clear ho
  have hB0 : Below w.heap.size w ((w.alloc (.cells #[.int .i64 N, .int .i64 lo, .int .i64 hi] 26)).alloc (.cells #[.int .i64 o, .int .i64 f] 34)) := ((Below.refl _ w).alloc (Nat.le_refl _) _).alloc (by simp) _
  have c0_0 : ((w.alloc (.cells #[.int .i64 N, .int .i64 lo, .int .i64 hi] 26)).alloc (.cells #[.int .i64 o, .int .i64 f] 34)).cell? ⟨w.heap.size, 0, none⟩ = some (.int .i64 N) := by simp [go_sem]
  have c0_1 : ((w.alloc (.cells #[.int .i64 N, .int .i64 lo, .int .i64 hi] 26)).alloc (.cells #[.int .i64 o, .int .i64 f] 34)).cell? ⟨w.heap.size, 1, none⟩ = some (.int .i64 lo) := by simp [go_sem]
  have c0_2 : ((w.alloc (.cells #[.int .i64 N, .int .i64 lo, .int .i64 hi] 26)).alloc (.cells #[.int .i64 o, .int .i64 f] 34)).cell? ⟨w.heap.size, 2, none⟩ = some (.int .i64 hi) := by simp [go_sem]
  have c1_0 : ((w.alloc (.cells #[.int .i64 N, .int .i64 lo, .int .i64 hi] 26)).alloc (.cells #[.int .i64 o, .int .i64 f] 34)).cell? ⟨w.heap.size + 1, 0, none⟩ = some (.int .i64 o) := by simp [go_sem]
  have c1_1 : ((w.alloc (.cells #[.int .i64 N, .int .i64 lo, .int .i64 hi] 26)).alloc (.cells #[.int .i64 o, .int .i64 f] 34)).cell? ⟨w.heap.size + 1, 1, none⟩ = some (.int .i64 f) := by simp [go_sem]
  have t0 := keepsB hB0 hT.1
  have t1 := keepsB hB0 hT.2.1
  have t2 := keepsB hB0 hT.2.2
  clear hT
  go_enter Tryd.func12, Tryd.ntmps12
  go_wp2_with fail
  refine (alive_any _ (tabD_mk t0 t1 t2)).mono ?_
  rintro e w1 ⟨rfl, hB1⟩
  have hBz : Below w.heap.size w w1 := hB0.trans (hB1.mono (by simp; omega))
  have hzz : w.heap.size ≤ w1.heap.size := hBz.size
  have hzn : w.heap.size + 2 ≤ w1.heap.size := by have := hB1.size; simp at this; omega
  have kc0_0 := keepsB hB1 c0_0
  have kc0_1 := keepsB hB1 c0_1
  have kc0_2 := keepsB hB1 c0_2
  have kc1_0 := keepsB hB1 c1_0
  have kc1_1 := keepsB hB1 c1_1
  have kt0 := keepsB hB1 t0
  have kt1 := keepsB hB1 t1
  have kt2 := keepsB hB1 t2
  clear hB0 hB1 t0 t1 t2 c0_0 c0_1 c0_2 c1_0 c1_1
  generalize hbb : w.heap.size = bb at *
  have HBB := Lib.hid hbb
  clear hbb
  have HB_w1 := Lib.hid (show Below bb w w1 from hBz)
  have hz_w1 : bb ≤ w1.heap.size := hzz
  have FA : ∀ W, Free.Bel w1 W → W.cell? ⟨0, 0, none⟩ = some (dblF 130) ∧ W.cell? ⟨0, 1, none⟩ = some (dblF 131) ∧ W.cell? ⟨0, 2, none⟩ = some (dblF 132) ∧ W.cell? ⟨bb, 0, none⟩ = some (.int .i64 N) ∧ W.cell? ⟨bb, 1, none⟩ = some (.int .i64 lo) ∧ W.cell? ⟨bb, 2, none⟩ = some (.int .i64 hi) ∧ W.cell? ⟨bb + 1, 0, none⟩ = some (.int .i64 o) ∧ W.cell? ⟨bb + 1, 1, none⟩ = some (.int .i64 f) ∧ bb + 2 ≤ W.heap.size ∧ bb ≤ W.heap.size := fun W hW => ⟨keepsB hW kt0, keepsB hW kt1, keepsB hW kt2, keepsB hW kc0_0, keepsB hW kc0_1, keepsB hW kc0_2, keepsB hW kc1_0, keepsB hW kc1_1, Nat.le_trans hzn hW.size, Nat.le_trans hz_w1 hW.size⟩
  have KR : Free.Bel w1 w1 := Free.Bel.refl _
  clear hBz hzz kt0 kt1 kt2 kc0_0 kc0_1 kc0_2 kc1_0 kc1_1 hzn
  go_wp2_with fail
  refine (cargoR_any N lo hi true _ (cargoB_ok hc)).mono ?_
  rintro e w2 ⟨rfl, hB⟩
  have HB_w2 := Lib.hid (HB_w1.out.trans ((hB).mono hz_w1))
  have hz_w2 : bb ≤ w2.heap.size := Nat.le_trans hz_w1 (hB).size
  have FN := fun (W : World) (hW : Free.Bel w2 W) => FA W (bt (hB) hW)
  clear FA HB_w1 hz_w1 KR
  have FA := FN
  clear FN
  have KR := Free.Bel.refl w2
  clear hB
  go_wp2_with fail
  refine (drawR_any N lo hi o f true _ (drawB_ok hd)).mono ?_
  rintro e w3 ⟨rfl, hB⟩
  have HB_w3 := Lib.hid (HB_w2.out.trans ((hB).mono hz_w2))
  have hz_w3 : bb ≤ w3.heap.size := Nat.le_trans hz_w2 (hB).size
  have FN := fun (W : World) (hW : Free.Bel w3 W) => FA W (bt (hB) hW)
  clear FA HB_w2 hz_w2 KR
  have FA := FN
  clear FN
  have KR := Free.Bel.refl w3
  clear hB
  go_wp2_with fail
  refine (can_v N lo hi o f _ _ HCAN).mono ?_
  rintro e w4 ⟨rfl, hB⟩
  have HB_w4 := Lib.hid (HB_w3.out.trans ((hB).mono hz_w3))
  have hz_w4 : bb ≤ w4.heap.size := Nat.le_trans hz_w3 (hB).size
  have FN := fun (W : World) (hW : Free.Bel w4 W) => FA W (bt (hB) hW)
  clear FA HB_w3 hz_w3 KR
  have FA := FN
  clear FN
  have KR := Free.Bel.refl w4
  clear hB
  have K1 : Free.Bel w4 (w4.alloc (.cells #[.int .i64 sx, .int .i64 sy] 24)) := Bel.allocT (Free.Bel.refl _) _
  have K2 : Free.Bel w4 ((w4.alloc (.cells #[.int .i64 sx, .int .i64 sy] 24)).alloc (.cells #[.int .i64 0, .int .i64 0] 24)) := Bel.allocT K1 _
  have K3 : Free.Bel w4 (((w4.alloc (.cells #[.int .i64 sx, .int .i64 sy] 24)).alloc (.cells #[.int .i64 0, .int .i64 0] 24)).alloc (.cells #[.int .i64 0, .int .i64 0] 24)) := Bel.allocT K2 _
  have k0 : decide (o < N) = false := decide_eq_false (by omega)
  have k1 : decide (sx < lo) = false := decide_eq_false (by omega)
  have k2 : decide (sy < sx) = false := decide_eq_false (by omega)
  have k3 : decide (hi < sy) = false := decide_eq_false (by omega)
  go_wp2_with fail
  have hwo : IntKind.i64.wrap (o + 1) = o + 1 := IntWalk.i64_in _ (by omega)
  have hwf : IntKind.i64.wrap (f + 1) = f + 1 := IntWalk.i64_in _ (by omega)
  clear K1 K2 k1 k2 k3
  have n0 : Two w4.heap.size (.int .i64 (sx)) (.int .i64 (sy)) (((w4.alloc (.cells #[.int .i64 sx, .int .i64 sy] 24)).alloc (.cells #[.int .i64 0, .int .i64 0] 24)).alloc (.cells #[.int .i64 0, .int .i64 0] 24)) := ⟨by simp [go_sem], by simp [go_sem], by simp [go_sem], by simp [go_sem]⟩
  have n1 : Two (w4.heap.size + 1) (.int .i64 0) (.int .i64 0) (((w4.alloc (.cells #[.int .i64 sx, .int .i64 sy] 24)).alloc (.cells #[.int .i64 0, .int .i64 0] 24)).alloc (.cells #[.int .i64 0, .int .i64 0] 24)) := ⟨by simp [go_sem], by simp [go_sem], by simp [go_sem], by simp [go_sem]⟩
  have n2 : Two (w4.heap.size + 1 + 1) (.int .i64 0) (.int .i64 0) (((w4.alloc (.cells #[.int .i64 sx, .int .i64 sy] 24)).alloc (.cells #[.int .i64 0, .int .i64 0] 24)).alloc (.cells #[.int .i64 0, .int .i64 0] 24)) := ⟨by simp [go_sem], by simp [go_sem], by simp [go_sem], by simp [go_sem]⟩
  have hsz : w4.heap.size + 3 ≤ ((((w4.alloc (.cells #[.int .i64 sx, .int .i64 sy] 24)).alloc (.cells #[.int .i64 0, .int .i64 0] 24)).alloc (.cells #[.int .i64 0, .int .i64 0] 24))).heap.size := by simp
  generalize (((w4.alloc (.cells #[.int .i64 sx, .int .i64 sy] 24)).alloc (.cells #[.int .i64 0, .int .i64 0] 24)).alloc (.cells #[.int .i64 0, .int .i64 0] 24)) = w5 at *
  obtain ⟨g, hg⟩ : ∃ x, x = w4.heap.size := ⟨_, rfl⟩
  rw [← hg] at n0 n1 n2 hsz ⊢
  have hgl : w4.heap.size ≤ g := by omega
  clear hg
  clear hsz
  have hN := K3
  clear K3
  have n00 := n0.c0
  have n01 := n0.c1
  clear n0
  have n10 := n1.c0
  have n11 := n1.c1
  clear n1
  have n20 := n2.c0
  have n21 := n2.c1
  clear n2
  clear hgl
  have HB_w5 := Lib.hid (HB_w4.out.trans ((hN).mono hz_w4))
  have hz_w5 : bb ≤ w5.heap.size := Nat.le_trans hz_w4 (hN).size
  have FN := fun (W : World) (hW : Free.Bel w5 W) => And.intro (keepsB hW n00) (And.intro (keepsB hW n01) (And.intro (keepsB hW n10) (And.intro (keepsB hW n11) (And.intro (keepsB hW n20) (And.intro (keepsB hW n21) (FA W (bt (hN) hW)))))))
  clear FA HB_w4 hz_w4 KR
  have FA := FN
  clear FN
  have KR := Free.Bel.refl w5
  clear hN n00 n01 n10 n11 n20 n21
  have hcp := chI_pos N o (by omega) (by omega) (by omega) (by omega)
  go_loopw [13] (fun i wr => ∃ j : Nat, j ≤ (hi - lo + 1).toNat ∧ i = .int .i64 (lo + j) ∧ Free.Bel w5 wr) (fun i _ => (hi - lo + 1).toNat - (intOf i - lo).toNat)
  case atStart => exact ⟨0, by omega, by simp, Free.Bel.refl _⟩
  case round =>
    obtain ⟨j, hj, rfl, HKr⟩ := hrel
    have HB_wr := Lib.hid (HB_w5.out.trans ((HKr).mono hz_w5))
    have hz_wr : bb ≤ wr.heap.size := Nat.le_trans hz_w5 (HKr).size
    have FN := fun (W : World) (hW : Free.Bel wr W) => FA W (bt (HKr) hW)
    clear FA HB_w5 hz_w5 KR
    have FA := FN
    clear FN
    have KR := Free.Bel.refl wr
    have HWR : Free.Bel wr wr := Free.Bel.refl _
    have HL_wr : Free.Bel w5 wr := HKr
    clear HKr
    by_cases hlt : j < (hi - lo + 1).toNat
    · have hjm : lo + (j : Int) ≤ hi := by omega
      obtain ⟨n, hn⟩ : ∃ n, lo + (j : Int) = n := ⟨_, rfl⟩
      have hnb : lo ≤ n ∧ n ≤ hi := by omega
      obtain ⟨p, q, hpq⟩ : ∃ p q, partV (waysI N n o f).toNat (chI N o).toNat = i2 p q := ⟨_, _, rfl⟩
      have HP := Lib.hid hpq
      have hwl := waysI_le N n o f (by omega) (by omega) (by omega) (by omega)
      have hp0 := part_pos _ _ p q hwl.1 (by omega) hpq
      have hw0 := waysI_pos N n o f (by omega) (by omega) (by omega) (by omega)
      have hp1 : decide (0 < p) = decide (f ≤ n ∧ o - f ≤ N - n) := by rw [hp0, decide_eq_decide]; exact hw0
      clear hpq hwl hp0 hw0
      have hn2 : IntKind.i64.wrap (n + 1) = lo + ((j + 1 : Nat) : Int) := by rw [IntWalk.i64_in _ (by omega)]; omega
      have hb := HIS.out n hnb.1 hnb.2
      rw [hn]
      have HHN := Lib.hid hn
      clear hn
      by_cases hab : f ≤ n ∧ o - f ≤ N - n
      · skip
        have hb0 := hb.1 hab
        skip
        have hp2 : decide (0 < p) = true := hp1.trans (decide_eq_true hab)
        clear hp1
        have HB0 := Lib.hid (congrArg Value.bool hb0)
        clear hb0
        go_wp2_with fail
        refine (chance_ok N lo hi n o f p q _ hc hd hnb HP).mono ?_
        rintro e w6 ⟨rfl, hB⟩
        have HB_w6 := Lib.hid (HB_wr.out.trans ((hB).mono hz_wr))
        have hz_w6 : bb ≤ w6.heap.size := Nat.le_trans hz_wr (hB).size
        have HL_w6 : Free.Bel w5 w6 := bt HL_wr (hB)
        clear HL_wr
        have HWR : Free.Bel wr w6 := bt HWR (hB)
        have FN := fun (W : World) (hW : Free.Bel w6 W) => FA W (bt (hB) hW)
        clear FA HB_wr hz_wr KR
        have FA := FN
        clear FN
        have KR := Free.Bel.refl w6
        clear hB
        have KA0 : Free.Bel w6 (w6.alloc (.cells #[.int .i64 p, .int .i64 q] 29)) := Bel.allocT (Free.Bel.refl _) _
        go_wp2_with fail
        clear KA0
        have hN : Free.Bel w6 (w6.alloc (.cells #[.int .i64 p, .int .i64 q] 29)) := (Bel.allocT (Free.Bel.refl w6) _)
        have n_g60_0 : (w6.alloc (.cells #[.int .i64 p, .int .i64 q] 29)).cell? ⟨w6.heap.size, 0, none⟩ = some (.int .i64 p) := by simp [go_sem]
        have n_g60_1 : (w6.alloc (.cells #[.int .i64 p, .int .i64 q] 29)).cell? ⟨w6.heap.size, 1, none⟩ = some (.int .i64 q) := by simp [go_sem]
        generalize (w6.alloc (.cells #[.int .i64 p, .int .i64 q] 29)) = w7 at *
        obtain ⟨g60, hgz⟩ : ∃ x, x = w6.heap.size := ⟨_, rfl⟩
        rw [← hgz] at n_g60_0 n_g60_1 ⊢
        clear hgz
        have HB_w7 := Lib.hid (HB_w6.out.trans ((hN).mono hz_w6))
        have hz_w7 : bb ≤ w7.heap.size := Nat.le_trans hz_w6 (hN).size
        have HL_w7 : Free.Bel w5 w7 := bt HL_w6 (hN)
        clear HL_w6
        have HWR : Free.Bel wr w7 := bt HWR (hN)
        have FN := fun (W : World) (hW : Free.Bel w7 W) => And.intro (keepsB hW n_g60_0) (And.intro (keepsB hW n_g60_1) (FA W (bt (hN) hW)))
        clear FA HB_w6 hz_w6 KR
        have FA := FN
        clear FN
        have KR := Free.Bel.refl w7
        clear hN n_g60_0 n_g60_1
        have hF : ∀ W, Free.Bel w7.drew W → Free.Bel w7 W := fun W hW => bt (Bel.drewT (Free.Bel.refl _)) hW
        refine Free.wp_free (R := Free.Bel) (by kernel_rfl) (by kernel_rfl) Free.Bel.refl Free.Bel.trans ?_
        refine Free.Chain.ex ?_ [] [15] (by kernel_rfl) (by kernel_rfl) rfl Free.Bel.refl ?_ ?_
        rotate_left 2
        simp only [an1, an2]
        refine Free.Chain.ex ?_ [(0, 122)] [] (by kernel_rfl) (by kernel_rfl) rfl Free.Bel.refl ?_ ?_
        rotate_left 2
        simp only [an1, an2]
        refine Free.Chain.ex ?_ [(1, 123)] [] (by kernel_rfl) (by kernel_rfl) rfl Free.Bel.refl ?_ ?_
        rotate_left 2
        simp only [an1, an2]
        rotate_left
        iterate 3 (rotate_left; intro ev W hb hR hO hD; have hS := hF W hR; obtain ⟨hb1, hb2, hb3⟩ := hb; simp only [Free.AllDeps, Free.AllOuts, Free.At, al1, al2, al3, al4, al5, and_true] at hO hD; go_simp; rfl)
        refine Free.Chain.exG ?_ [(2, 124)] [8] 2 false 124 (by kernel_rfl) (by kernel_rfl) rfl (by kernel_rfl) Free.Bel.refl ?_ ?_
        rotate_left 2
        simp only [an1, an2]
        refine Free.Chain.exG ?_ [(2, 124)] [6] 2 false 124 (by kernel_rfl) (by kernel_rfl) rfl (by kernel_rfl) Free.Bel.refl ?_ ?_
        rotate_left 2
        simp only [an1, an2]
        refine Free.Chain.exG ?_ [(2, 124)] [7] 2 false 124 (by kernel_rfl) (by kernel_rfl) rfl (by kernel_rfl) Free.Bel.refl ?_ ?_
        rotate_left 2
        simp only [an1, an2]
        refine Free.Chain.exG ?_ [(2, 124)] [13] 2 false 124 (by kernel_rfl) (by kernel_rfl) rfl (by kernel_rfl) Free.Bel.refl ?_ ?_
        rotate_left 2
        simp only [an1, an2]
        rotate_left
        iterate 4 (rotate_left; intro ev W hb hR hO hD; have hS := hF W hR; obtain ⟨hb1, hb2, hb3⟩ := hb; simp only [Free.AllDeps, Free.AllOuts, Free.At, al1, al2, al3, al4, al5, and_true] at hO hD; refine ⟨by simp [hD], ?_⟩; go_simp; rfl)
        refine Free.Chain.prG (fun v _ => v = .bool true) [(3, 125), (4, 126), (5, 127), (6, 128), (2, 124), (2, 124)] [] 2 false 124 (by kernel_rfl) (by kernel_rfl) rfl (by kernel_rfl) (fun _ _ _ _ h => h) ?_ ?_
        · (intro ev W hb hR hO hD; have hS := hF W hR; obtain ⟨hb1, hb2, hb3⟩ := hb; simp only [Free.AllDeps, Free.AllOuts, Free.At, al1, al2, al3, al4, al5, and_true] at hO hD; refine ⟨by simp [hD], ?_⟩; go_simp; refine yields_enter ?_; (with_reducible refine (is_v sx sy 0 n (.bool true) _ HB0).mono ?_); rintro e W2 ⟨rfl, hB2⟩; exact ⟨_, rfl, hB2, rfl⟩)
        simp only [an1, an2]
        refine Free.Chain.exG ?_ [(2, 124)] [14] 2 false 124 (by kernel_rfl) (by kernel_rfl) rfl (by kernel_rfl) Free.Bel.refl ?_ ?_
        rotate_left 2
        simp only [an1, an2]
        refine Free.Chain.exG ?_ [(8, 130), (2, 124)] [] 2 false 124 (by kernel_rfl) (by kernel_rfl) rfl (by kernel_rfl) Free.Bel.refl ?_ ?_
        rotate_left 2
        simp only [an1, an2]
        refine Free.Chain.exG ?_ [(9, 131), (2, 124)] [] 2 false 124 (by kernel_rfl) (by kernel_rfl) rfl (by kernel_rfl) Free.Bel.refl ?_ ?_
        rotate_left 2
        simp only [an1, an2]
        refine Free.Chain.exG ?_ [(7, 129), (10, 132), (2, 124)] [] 2 false 124 (by kernel_rfl) (by kernel_rfl) rfl (by kernel_rfl) Free.Bel.refl ?_ ?_
        rotate_left 2
        simp only [an1, an2]
        rotate_left
        iterate 4 (rotate_left; intro ev W hb hR hO hD; have hS := hF W hR; obtain ⟨hb1, hb2, hb3⟩ := hb; simp only [Free.AllDeps, Free.AllOuts, Free.At, al1, al2, al3, al4, al5, and_true] at hO hD; refine ⟨by simp [hD], ?_⟩; go_simp; rfl)
        refine Free.Chain.ex ?_ [(2, 124), (11, 133)] [] (by kernel_rfl) (by kernel_rfl) rfl Free.Bel.refl ?_ ?_
        rotate_left 2
        simp only [an1, an2]
        rotate_left
        rotate_left
        · (intro ev W hb hR hO hD; have hS := hF W hR; obtain ⟨hb1, hb2, hb3⟩ := hb; simp only [Free.AllDeps, Free.AllOuts, Free.At, al1, al2, al3, al4, al5, and_true] at hO hD; go_simp; rfl)
        intro xs w8 hR hV
        simp only [Free.AllV, Free.At, List.length_cons, List.length_nil, Nat.reduceAdd, List.getElem?_cons_succ, List.getElem?_cons_zero, true_and, and_true] at hV
        simp only [Free.putsFrom, Act.put, Nat.zero_add, Nat.reduceAdd, hV, List.setIfInBounds_toArray, List.set_cons_succ, List.set_cons_zero]
        have hN := hF w8 hR
        clear hR hF
        have HB_w8 := Lib.hid (HB_w7.out.trans ((hN).mono hz_w7))
        have hz_w8 : bb ≤ w8.heap.size := Nat.le_trans hz_w7 (hN).size
        have HL_w8 : Free.Bel w5 w8 := bt HL_w7 (hN)
        clear HL_w7
        have HWR : Free.Bel wr w8 := bt HWR (hN)
        have FN := fun (W : World) (hW : Free.Bel w8 W) => FA W (bt (hN) hW)
        clear FA HB_w7 hz_w7 KR
        have FA := FN
        clear FN
        have KR := Free.Bel.refl w8
        clear hN hV
        go_wp2_with fail
        have hF : ∀ W, Free.Bel w8.drew W → Free.Bel w8 W := fun W hW => bt (Bel.drewT (Free.Bel.refl _)) hW
        refine Free.wp_free (R := Free.Bel) (by kernel_rfl) (by kernel_rfl) Free.Bel.refl Free.Bel.trans ?_
        refine Free.Chain.ex ?_ [] [3] (by kernel_rfl) (by kernel_rfl) rfl Free.Bel.refl ?_ ?_
        rotate_left 2
        simp only [an1, an2]
        refine Free.Chain.ex ?_ [(0, 135)] [] (by kernel_rfl) (by kernel_rfl) rfl Free.Bel.refl ?_ ?_
        rotate_left 2
        simp only [an1, an2]
        refine Free.Chain.ex ?_ [] [2] (by kernel_rfl) (by kernel_rfl) rfl Free.Bel.refl ?_ ?_
        rotate_left 2
        simp only [an1, an2]
        refine Free.Chain.ex ?_ [(2, 137)] [] (by kernel_rfl) (by kernel_rfl) rfl Free.Bel.refl ?_ ?_
        rotate_left 2
        simp only [an1, an2]
        refine Free.Chain.ex ?_ [(1, 136), (3, 138)] [] (by kernel_rfl) (by kernel_rfl) rfl Free.Bel.refl ?_ ?_
        rotate_left 2
        simp only [an1, an2]
        refine Free.Chain.ex ?_ [(4, 139)] [] (by kernel_rfl) (by kernel_rfl) rfl Free.Bel.refl ?_ ?_
        rotate_left 2
        simp only [an1, an2]
        rotate_left
        iterate 6 (rotate_left; intro ev W hb hR hO hD; have hS := hF W hR; obtain ⟨hb1, hb2, hb3⟩ := hb; simp only [Free.AllDeps, Free.AllOuts, Free.At, al1, al2, al3, al4, al5, and_true] at hO hD; go_simp; rfl)
        refine Free.Chain.no [(5, 140)] [8] 5 true 140 (by kernel_rfl) (by kernel_rfl) rfl (by kernel_rfl) ?_ ?_
        · (intro ev W hR hD; simp only [Free.AllDeps, Free.At, List.getElem?_cons_succ, List.getElem?_cons_zero, and_true] at hD; simp [hD])
        simp only [an1, an2]
        refine Free.Chain.no [(5, 140)] [6] 5 true 140 (by kernel_rfl) (by kernel_rfl) rfl (by kernel_rfl) ?_ ?_
        · (intro ev W hR hD; simp only [Free.AllDeps, Free.At, List.getElem?_cons_succ, List.getElem?_cons_zero, and_true] at hD; simp [hD])
        simp only [an1, an2]
        refine Free.Chain.no [(5, 140)] [7] 5 true 140 (by kernel_rfl) (by kernel_rfl) rfl (by kernel_rfl) ?_ ?_
        · (intro ev W hR hD; simp only [Free.AllDeps, Free.At, List.getElem?_cons_succ, List.getElem?_cons_zero, and_true] at hD; simp [hD])
        simp only [an1, an2]
        refine Free.Chain.no [(5, 140)] [13] 5 true 140 (by kernel_rfl) (by kernel_rfl) rfl (by kernel_rfl) ?_ ?_
        · (intro ev W hR hD; simp only [Free.AllDeps, Free.At, List.getElem?_cons_succ, List.getElem?_cons_zero, and_true] at hD; simp [hD])
        simp only [an1, an2]
        refine Free.Chain.no [(6, 141), (7, 142), (8, 143), (9, 144), (5, 140), (5, 140)] [] 5 true 140 (by kernel_rfl) (by kernel_rfl) rfl (by kernel_rfl) ?_ ?_
        · (intro ev W hR hD; simp only [Free.AllDeps, Free.At, List.getElem?_cons_succ, List.getElem?_cons_zero, and_true] at hD; simp [hD])
        simp only [an1, an2]
        refine Free.Chain.no [(5, 140)] [8] 5 true 140 (by kernel_rfl) (by kernel_rfl) rfl (by kernel_rfl) ?_ ?_
        · (intro ev W hR hD; simp only [Free.AllDeps, Free.At, List.getElem?_cons_succ, List.getElem?_cons_zero, and_true] at hD; simp [hD])
        simp only [an1, an2]
        refine Free.Chain.no [(5, 140)] [9] 5 true 140 (by kernel_rfl) (by kernel_rfl) rfl (by kernel_rfl) ?_ ?_
        · (intro ev W hR hD; simp only [Free.AllDeps, Free.At, List.getElem?_cons_succ, List.getElem?_cons_zero, and_true] at hD; simp [hD])
        simp only [an1, an2]
        refine Free.Chain.no [(5, 140)] [11] 5 true 140 (by kernel_rfl) (by kernel_rfl) rfl (by kernel_rfl) ?_ ?_
        · (intro ev W hR hD; simp only [Free.AllDeps, Free.At, List.getElem?_cons_succ, List.getElem?_cons_zero, and_true] at hD; simp [hD])
        simp only [an1, an2]
        refine Free.Chain.no [(5, 140)] [13] 5 true 140 (by kernel_rfl) (by kernel_rfl) rfl (by kernel_rfl) ?_ ?_
        · (intro ev W hR hD; simp only [Free.AllDeps, Free.At, List.getElem?_cons_succ, List.getElem?_cons_zero, and_true] at hD; simp [hD])
        simp only [an1, an2]
        refine Free.Chain.no [(11, 146), (12, 147), (13, 148), (14, 149), (10, 145), (5, 140)] [] 5 true 140 (by kernel_rfl) (by kernel_rfl) rfl (by kernel_rfl) ?_ ?_
        · (intro ev W hR hD; simp only [Free.AllDeps, Free.At, List.getElem?_cons_succ, List.getElem?_cons_zero, and_true] at hD; simp [hD])
        simp only [an1, an2]
        refine Free.Chain.no [(15, 150), (15, 150), (5, 140)] [] 5 true 140 (by kernel_rfl) (by kernel_rfl) rfl (by kernel_rfl) ?_ ?_
        · (intro ev W hR hD; simp only [Free.AllDeps, Free.At, List.getElem?_cons_succ, List.getElem?_cons_zero, and_true] at hD; simp [hD])
        simp only [an1, an2]
        refine Free.Chain.no [(16, 151)] [8] 16 false 151 (by kernel_rfl) (by kernel_rfl) rfl (by kernel_rfl) ?_ ?_
        · (intro ev W hR hD; simp only [Free.AllDeps, Free.At, List.getElem?_cons_succ, List.getElem?_cons_zero, and_true] at hD; simp [hD])
        simp only [an1, an2]
        refine Free.Chain.no [(16, 151)] [10] 16 false 151 (by kernel_rfl) (by kernel_rfl) rfl (by kernel_rfl) ?_ ?_
        · (intro ev W hR hD; simp only [Free.AllDeps, Free.At, List.getElem?_cons_succ, List.getElem?_cons_zero, and_true] at hD; simp [hD])
        simp only [an1, an2]
        refine Free.Chain.no [(16, 151)] [12] 16 false 151 (by kernel_rfl) (by kernel_rfl) rfl (by kernel_rfl) ?_ ?_
        · (intro ev W hR hD; simp only [Free.AllDeps, Free.At, List.getElem?_cons_succ, List.getElem?_cons_zero, and_true] at hD; simp [hD])
        simp only [an1, an2]
        refine Free.Chain.no [(16, 151)] [13] 16 false 151 (by kernel_rfl) (by kernel_rfl) rfl (by kernel_rfl) ?_ ?_
        · (intro ev W hR hD; simp only [Free.AllDeps, Free.At, List.getElem?_cons_succ, List.getElem?_cons_zero, and_true] at hD; simp [hD])
        simp only [an1, an2]
        refine Free.Chain.no [(17, 152), (18, 153), (19, 154), (20, 155), (16, 151), (16, 151)] [] 16 false 151 (by kernel_rfl) (by kernel_rfl) rfl (by kernel_rfl) ?_ ?_
        · (intro ev W hR hD; simp only [Free.AllDeps, Free.At, List.getElem?_cons_succ, List.getElem?_cons_zero, and_true] at hD; simp [hD])
        simp only [an1, an2]
        refine Free.Chain.no [(16, 151), (21, 156), (5, 140)] [] 5 true 140 (by kernel_rfl) (by kernel_rfl) rfl (by kernel_rfl) ?_ ?_
        · (intro ev W hR hD; simp only [Free.AllDeps, Free.At, List.getElem?_cons_succ, List.getElem?_cons_zero, and_true] at hD; simp [hD])
        simp only [an1, an2]
        refine Free.Chain.no [(10, 145), (22, 157), (5, 140)] [] 5 true 140 (by kernel_rfl) (by kernel_rfl) rfl (by kernel_rfl) ?_ ?_
        · (intro ev W hR hD; simp only [Free.AllDeps, Free.At, List.getElem?_cons_succ, List.getElem?_cons_zero, and_true] at hD; simp [hD])
        simp only [an1, an2]
        refine Free.Chain.ex ?_ [(5, 140), (23, 158)] [] (by kernel_rfl) (by kernel_rfl) rfl Free.Bel.refl ?_ ?_
        rotate_left 2
        simp only [an1, an2]
        rotate_left
        rotate_left
        · (intro ev W hb hR hO hD; have hS := hF W hR; obtain ⟨hb1, hb2, hb3⟩ := hb; simp only [Free.AllDeps, Free.AllOuts, Free.At, al1, al2, al3, al4, al5, and_true] at hO hD; go_simp; rfl)
        intro xs w9 hR hV
        simp only [Free.AllV, Free.At, List.length_cons, List.length_nil, Nat.reduceAdd, List.getElem?_cons_succ, List.getElem?_cons_zero, true_and, and_true] at hV
        simp only [Free.putsFrom, Act.put, Nat.zero_add, Nat.reduceAdd, hV, List.setIfInBounds_toArray, List.set_cons_succ, List.set_cons_zero]
        have hN := hF w9 hR
        clear hR hF
        have HB_w9 := Lib.hid (HB_w8.out.trans ((hN).mono hz_w8))
        have hz_w9 : bb ≤ w9.heap.size := Nat.le_trans hz_w8 (hN).size
        have HL_w9 : Free.Bel w5 w9 := bt HL_w8 (hN)
        clear HL_w8
        have HWR : Free.Bel wr w9 := bt HWR (hN)
        have FN := fun (W : World) (hW : Free.Bel w9 W) => FA W (bt (hN) hW)
        clear FA HB_w8 hz_w8 KR
        have FA := FN
        clear FN
        have KR := Free.Bel.refl w9
        clear hN hV
        go_wp2_with fail
        go_roundw
        case rel => exact ⟨j + 1, by omega, rfl, HL_w9⟩
        case measure => have := HHN.out; simp [intOf]; omega
      · skip
        have hb0 := hb.2 hab
        skip
        have hp2 : decide (0 < p) = false := hp1.trans (decide_eq_false hab)
        clear hp1
        have HB0 := Lib.hid (congrArg Value.bool hb0)
        clear hb0
        go_wp2_with fail
        refine (chance_ok N lo hi n o f p q _ hc hd hnb HP).mono ?_
        rintro e w10 ⟨rfl, hB⟩
        have HB_w10 := Lib.hid (HB_wr.out.trans ((hB).mono hz_wr))
        have hz_w10 : bb ≤ w10.heap.size := Nat.le_trans hz_wr (hB).size
        have HL_w10 : Free.Bel w5 w10 := bt HL_wr (hB)
        clear HL_wr
        have HWR : Free.Bel wr w10 := bt HWR (hB)
        have FN := fun (W : World) (hW : Free.Bel w10 W) => FA W (bt (hB) hW)
        clear FA HB_wr hz_wr KR
        have FA := FN
        clear FN
        have KR := Free.Bel.refl w10
        clear hB
        have KA0 : Free.Bel w10 (w10.alloc (.cells #[.int .i64 p, .int .i64 q] 29)) := Bel.allocT (Free.Bel.refl _) _
        go_wp2_with fail
        clear KA0
        have hN : Free.Bel w10 (w10.alloc (.cells #[.int .i64 p, .int .i64 q] 29)) := (Bel.allocT (Free.Bel.refl w10) _)
        have n_g100_0 : (w10.alloc (.cells #[.int .i64 p, .int .i64 q] 29)).cell? ⟨w10.heap.size, 0, none⟩ = some (.int .i64 p) := by simp [go_sem]
        have n_g100_1 : (w10.alloc (.cells #[.int .i64 p, .int .i64 q] 29)).cell? ⟨w10.heap.size, 1, none⟩ = some (.int .i64 q) := by simp [go_sem]
        generalize (w10.alloc (.cells #[.int .i64 p, .int .i64 q] 29)) = w11 at *
        obtain ⟨g100, hgz⟩ : ∃ x, x = w10.heap.size := ⟨_, rfl⟩
        rw [← hgz] at n_g100_0 n_g100_1 ⊢
        clear hgz
        have HB_w11 := Lib.hid (HB_w10.out.trans ((hN).mono hz_w10))
        have hz_w11 : bb ≤ w11.heap.size := Nat.le_trans hz_w10 (hN).size
        have HL_w11 : Free.Bel w5 w11 := bt HL_w10 (hN)
        clear HL_w10
        have HWR : Free.Bel wr w11 := bt HWR (hN)
        have FN := fun (W : World) (hW : Free.Bel w11 W) => And.intro (keepsB hW n_g100_0) (And.intro (keepsB hW n_g100_1) (FA W (bt (hN) hW)))
        clear FA HB_w10 hz_w10 KR
        have FA := FN
        clear FN
        have KR := Free.Bel.refl w11
        clear hN n_g100_0 n_g100_1
        have hF : ∀ W, Free.Bel w11.drew W → Free.Bel w11 W := fun W hW => bt (Bel.drewT (Free.Bel.refl _)) hW
        refine Free.wp_free (R := Free.Bel) (by kernel_rfl) (by kernel_rfl) Free.Bel.refl Free.Bel.trans ?_
        refine Free.Chain.ex ?_ [] [15] (by kernel_rfl) (by kernel_rfl) rfl Free.Bel.refl ?_ ?_
        rotate_left 2
        simp only [an1, an2]
        refine Free.Chain.ex ?_ [(0, 122)] [] (by kernel_rfl) (by kernel_rfl) rfl Free.Bel.refl ?_ ?_
        rotate_left 2
        simp only [an1, an2]
        refine Free.Chain.ex ?_ [(1, 123)] [] (by kernel_rfl) (by kernel_rfl) rfl Free.Bel.refl ?_ ?_
        rotate_left 2
        simp only [an1, an2]
        rotate_left
        iterate 3 (rotate_left; intro ev W hb hR hO hD; have hS := hF W hR; obtain ⟨hb1, hb2, hb3⟩ := hb; simp only [Free.AllDeps, Free.AllOuts, Free.At, al1, al2, al3, al4, al5, and_true] at hO hD; go_simp; rfl)
        refine Free.Chain.exG ?_ [(2, 124)] [8] 2 false 124 (by kernel_rfl) (by kernel_rfl) rfl (by kernel_rfl) Free.Bel.refl ?_ ?_
        rotate_left 2
        simp only [an1, an2]
        refine Free.Chain.exG ?_ [(2, 124)] [6] 2 false 124 (by kernel_rfl) (by kernel_rfl) rfl (by kernel_rfl) Free.Bel.refl ?_ ?_
        rotate_left 2
        simp only [an1, an2]
        refine Free.Chain.exG ?_ [(2, 124)] [7] 2 false 124 (by kernel_rfl) (by kernel_rfl) rfl (by kernel_rfl) Free.Bel.refl ?_ ?_
        rotate_left 2
        simp only [an1, an2]
        refine Free.Chain.exG ?_ [(2, 124)] [13] 2 false 124 (by kernel_rfl) (by kernel_rfl) rfl (by kernel_rfl) Free.Bel.refl ?_ ?_
        rotate_left 2
        simp only [an1, an2]
        rotate_left
        iterate 4 (rotate_left; intro ev W hb hR hO hD; have hS := hF W hR; obtain ⟨hb1, hb2, hb3⟩ := hb; simp only [Free.AllDeps, Free.AllOuts, Free.At, al1, al2, al3, al4, al5, and_true] at hO hD; refine ⟨by simp [hD], ?_⟩; go_simp; rfl)
        refine Free.Chain.prG (fun v _ => v = .bool false) [(3, 125), (4, 126), (5, 127), (6, 128), (2, 124), (2, 124)] [] 2 false 124 (by kernel_rfl) (by kernel_rfl) rfl (by kernel_rfl) (fun _ _ _ _ h => h) ?_ ?_
        · (intro ev W hb hR hO hD; have hS := hF W hR; obtain ⟨hb1, hb2, hb3⟩ := hb; simp only [Free.AllDeps, Free.AllOuts, Free.At, al1, al2, al3, al4, al5, and_true] at hO hD; refine ⟨by simp [hD], ?_⟩; go_simp; refine yields_enter ?_; (with_reducible refine (is_v sx sy 0 n (.bool false) _ HB0).mono ?_); rintro e W2 ⟨rfl, hB2⟩; exact ⟨_, rfl, hB2, rfl⟩)
        simp only [an1, an2]
        refine Free.Chain.exG ?_ [(2, 124)] [14] 2 false 124 (by kernel_rfl) (by kernel_rfl) rfl (by kernel_rfl) Free.Bel.refl ?_ ?_
        rotate_left 2
        simp only [an1, an2]
        refine Free.Chain.exG ?_ [(8, 130), (2, 124)] [] 2 false 124 (by kernel_rfl) (by kernel_rfl) rfl (by kernel_rfl) Free.Bel.refl ?_ ?_
        rotate_left 2
        simp only [an1, an2]
        refine Free.Chain.exG ?_ [(9, 131), (2, 124)] [] 2 false 124 (by kernel_rfl) (by kernel_rfl) rfl (by kernel_rfl) Free.Bel.refl ?_ ?_
        rotate_left 2
        simp only [an1, an2]
        refine Free.Chain.exG ?_ [(7, 129), (10, 132), (2, 124)] [] 2 false 124 (by kernel_rfl) (by kernel_rfl) rfl (by kernel_rfl) Free.Bel.refl ?_ ?_
        rotate_left 2
        simp only [an1, an2]
        rotate_left
        iterate 4 (rotate_left; intro ev W hb hR hO hD; have hS := hF W hR; obtain ⟨hb1, hb2, hb3⟩ := hb; simp only [Free.AllDeps, Free.AllOuts, Free.At, al1, al2, al3, al4, al5, and_true] at hO hD; refine ⟨by simp [hD], ?_⟩; go_simp; rfl)
        refine Free.Chain.ex ?_ [(2, 124), (11, 133)] [] (by kernel_rfl) (by kernel_rfl) rfl Free.Bel.refl ?_ ?_
        rotate_left 2
        simp only [an1, an2]
        rotate_left
        rotate_left
        · (intro ev W hb hR hO hD; have hS := hF W hR; obtain ⟨hb1, hb2, hb3⟩ := hb; simp only [Free.AllDeps, Free.AllOuts, Free.At, al1, al2, al3, al4, al5, and_true] at hO hD; go_simp; rfl)
        intro xs w12 hR hV
        simp only [Free.AllV, Free.At, List.length_cons, List.length_nil, Nat.reduceAdd, List.getElem?_cons_succ, List.getElem?_cons_zero, true_and, and_true] at hV
        simp only [Free.putsFrom, Act.put, Nat.zero_add, Nat.reduceAdd, hV, List.setIfInBounds_toArray, List.set_cons_succ, List.set_cons_zero]
        have hN := hF w12 hR
        clear hR hF
        have HB_w12 := Lib.hid (HB_w11.out.trans ((hN).mono hz_w11))
        have hz_w12 : bb ≤ w12.heap.size := Nat.le_trans hz_w11 (hN).size
        have HL_w12 : Free.Bel w5 w12 := bt HL_w11 (hN)
        clear HL_w11
        have HWR : Free.Bel wr w12 := bt HWR (hN)
        have FN := fun (W : World) (hW : Free.Bel w12 W) => FA W (bt (hN) hW)
        clear FA HB_w11 hz_w11 KR
        have FA := FN
        clear FN
        have KR := Free.Bel.refl w12
        clear hN hV
        go_wp2_with fail
        have hF : ∀ W, Free.Bel w12.drew W → Free.Bel w12 W := fun W hW => bt (Bel.drewT (Free.Bel.refl _)) hW
        refine Free.wp_free (R := Free.Bel) (by kernel_rfl) (by kernel_rfl) Free.Bel.refl Free.Bel.trans ?_
        refine Free.Chain.ex ?_ [] [3] (by kernel_rfl) (by kernel_rfl) rfl Free.Bel.refl ?_ ?_
        rotate_left 2
        simp only [an1, an2]
        refine Free.Chain.ex ?_ [(0, 135)] [] (by kernel_rfl) (by kernel_rfl) rfl Free.Bel.refl ?_ ?_
        rotate_left 2
        simp only [an1, an2]
        refine Free.Chain.ex ?_ [] [2] (by kernel_rfl) (by kernel_rfl) rfl Free.Bel.refl ?_ ?_
        rotate_left 2
        simp only [an1, an2]
        refine Free.Chain.ex ?_ [(2, 137)] [] (by kernel_rfl) (by kernel_rfl) rfl Free.Bel.refl ?_ ?_
        rotate_left 2
        simp only [an1, an2]
        refine Free.Chain.ex ?_ [(1, 136), (3, 138)] [] (by kernel_rfl) (by kernel_rfl) rfl Free.Bel.refl ?_ ?_
        rotate_left 2
        simp only [an1, an2]
        refine Free.Chain.ex ?_ [(4, 139)] [] (by kernel_rfl) (by kernel_rfl) rfl Free.Bel.refl ?_ ?_
        rotate_left 2
        simp only [an1, an2]
        rotate_left
        iterate 6 (rotate_left; intro ev W hb hR hO hD; have hS := hF W hR; obtain ⟨hb1, hb2, hb3⟩ := hb; simp only [Free.AllDeps, Free.AllOuts, Free.At, al1, al2, al3, al4, al5, and_true] at hO hD; go_simp; rfl)
        refine Free.Chain.no [(5, 140)] [8] 5 true 140 (by kernel_rfl) (by kernel_rfl) rfl (by kernel_rfl) ?_ ?_
        · (intro ev W hR hD; simp only [Free.AllDeps, Free.At, List.getElem?_cons_succ, List.getElem?_cons_zero, and_true] at hD; simp [hD])
        simp only [an1, an2]
        refine Free.Chain.no [(5, 140)] [6] 5 true 140 (by kernel_rfl) (by kernel_rfl) rfl (by kernel_rfl) ?_ ?_
        · (intro ev W hR hD; simp only [Free.AllDeps, Free.At, List.getElem?_cons_succ, List.getElem?_cons_zero, and_true] at hD; simp [hD])
        simp only [an1, an2]
        refine Free.Chain.no [(5, 140)] [7] 5 true 140 (by kernel_rfl) (by kernel_rfl) rfl (by kernel_rfl) ?_ ?_
        · (intro ev W hR hD; simp only [Free.AllDeps, Free.At, List.getElem?_cons_succ, List.getElem?_cons_zero, and_true] at hD; simp [hD])
        simp only [an1, an2]
        refine Free.Chain.no [(5, 140)] [13] 5 true 140 (by kernel_rfl) (by kernel_rfl) rfl (by kernel_rfl) ?_ ?_
        · (intro ev W hR hD; simp only [Free.AllDeps, Free.At, List.getElem?_cons_succ, List.getElem?_cons_zero, and_true] at hD; simp [hD])
        simp only [an1, an2]
        refine Free.Chain.no [(6, 141), (7, 142), (8, 143), (9, 144), (5, 140), (5, 140)] [] 5 true 140 (by kernel_rfl) (by kernel_rfl) rfl (by kernel_rfl) ?_ ?_
        · (intro ev W hR hD; simp only [Free.AllDeps, Free.At, List.getElem?_cons_succ, List.getElem?_cons_zero, and_true] at hD; simp [hD])
        simp only [an1, an2]
        refine Free.Chain.no [(5, 140)] [8] 5 true 140 (by kernel_rfl) (by kernel_rfl) rfl (by kernel_rfl) ?_ ?_
        · (intro ev W hR hD; simp only [Free.AllDeps, Free.At, List.getElem?_cons_succ, List.getElem?_cons_zero, and_true] at hD; simp [hD])
        simp only [an1, an2]
        refine Free.Chain.no [(5, 140)] [9] 5 true 140 (by kernel_rfl) (by kernel_rfl) rfl (by kernel_rfl) ?_ ?_
        · (intro ev W hR hD; simp only [Free.AllDeps, Free.At, List.getElem?_cons_succ, List.getElem?_cons_zero, and_true] at hD; simp [hD])
        simp only [an1, an2]
        refine Free.Chain.no [(5, 140)] [11] 5 true 140 (by kernel_rfl) (by kernel_rfl) rfl (by kernel_rfl) ?_ ?_
        · (intro ev W hR hD; simp only [Free.AllDeps, Free.At, List.getElem?_cons_succ, List.getElem?_cons_zero, and_true] at hD; simp [hD])
        simp only [an1, an2]
        refine Free.Chain.no [(5, 140)] [13] 5 true 140 (by kernel_rfl) (by kernel_rfl) rfl (by kernel_rfl) ?_ ?_
        · (intro ev W hR hD; simp only [Free.AllDeps, Free.At, List.getElem?_cons_succ, List.getElem?_cons_zero, and_true] at hD; simp [hD])
        simp only [an1, an2]
        refine Free.Chain.no [(11, 146), (12, 147), (13, 148), (14, 149), (10, 145), (5, 140)] [] 5 true 140 (by kernel_rfl) (by kernel_rfl) rfl (by kernel_rfl) ?_ ?_
        · (intro ev W hR hD; simp only [Free.AllDeps, Free.At, List.getElem?_cons_succ, List.getElem?_cons_zero, and_true] at hD; simp [hD])
        simp only [an1, an2]
        refine Free.Chain.no [(15, 150), (15, 150), (5, 140)] [] 5 true 140 (by kernel_rfl) (by kernel_rfl) rfl (by kernel_rfl) ?_ ?_
        · (intro ev W hR hD; simp only [Free.AllDeps, Free.At, List.getElem?_cons_succ, List.getElem?_cons_zero, and_true] at hD; simp [hD])
        simp only [an1, an2]
        refine Free.Chain.no [(16, 151)] [8] 16 false 151 (by kernel_rfl) (by kernel_rfl) rfl (by kernel_rfl) ?_ ?_
        · (intro ev W hR hD; simp only [Free.AllDeps, Free.At, List.getElem?_cons_succ, List.getElem?_cons_zero, and_true] at hD; simp [hD])
        simp only [an1, an2]
        refine Free.Chain.no [(16, 151)] [10] 16 false 151 (by kernel_rfl) (by kernel_rfl) rfl (by kernel_rfl) ?_ ?_
        · (intro ev W hR hD; simp only [Free.AllDeps, Free.At, List.getElem?_cons_succ, List.getElem?_cons_zero, and_true] at hD; simp [hD])
        simp only [an1, an2]
        refine Free.Chain.no [(16, 151)] [12] 16 false 151 (by kernel_rfl) (by kernel_rfl) rfl (by kernel_rfl) ?_ ?_
        · (intro ev W hR hD; simp only [Free.AllDeps, Free.At, List.getElem?_cons_succ, List.getElem?_cons_zero, and_true] at hD; simp [hD])
        simp only [an1, an2]
        refine Free.Chain.no [(16, 151)] [13] 16 false 151 (by kernel_rfl) (by kernel_rfl) rfl (by kernel_rfl) ?_ ?_
        · (intro ev W hR hD; simp only [Free.AllDeps, Free.At, List.getElem?_cons_succ, List.getElem?_cons_zero, and_true] at hD; simp [hD])
        simp only [an1, an2]
        refine Free.Chain.no [(17, 152), (18, 153), (19, 154), (20, 155), (16, 151), (16, 151)] [] 16 false 151 (by kernel_rfl) (by kernel_rfl) rfl (by kernel_rfl) ?_ ?_
        · (intro ev W hR hD; simp only [Free.AllDeps, Free.At, List.getElem?_cons_succ, List.getElem?_cons_zero, and_true] at hD; simp [hD])
        simp only [an1, an2]
        refine Free.Chain.no [(16, 151), (21, 156), (5, 140)] [] 5 true 140 (by kernel_rfl) (by kernel_rfl) rfl (by kernel_rfl) ?_ ?_
        · (intro ev W hR hD; simp only [Free.AllDeps, Free.At, List.getElem?_cons_succ, List.getElem?_cons_zero, and_true] at hD; simp [hD])
        simp only [an1, an2]
        refine Free.Chain.no [(10, 145), (22, 157), (5, 140)] [] 5 true 140 (by kernel_rfl) (by kernel_rfl) rfl (by kernel_rfl) ?_ ?_
        · (intro ev W hR hD; simp only [Free.AllDeps, Free.At, List.getElem?_cons_succ, List.getElem?_cons_zero, and_true] at hD; simp [hD])
        simp only [an1, an2]
        refine Free.Chain.ex ?_ [(5, 140), (23, 158)] [] (by kernel_rfl) (by kernel_rfl) rfl Free.Bel.refl ?_ ?_
        rotate_left 2
        simp only [an1, an2]
        rotate_left
        rotate_left
        · (intro ev W hb hR hO hD; have hS := hF W hR; obtain ⟨hb1, hb2, hb3⟩ := hb; simp only [Free.AllDeps, Free.AllOuts, Free.At, al1, al2, al3, al4, al5, and_true] at hO hD; go_simp; rfl)
        intro xs w13 hR hV
        simp only [Free.AllV, Free.At, List.length_cons, List.length_nil, Nat.reduceAdd, List.getElem?_cons_succ, List.getElem?_cons_zero, true_and, and_true] at hV
        simp only [Free.putsFrom, Act.put, Nat.zero_add, Nat.reduceAdd, hV, List.setIfInBounds_toArray, List.set_cons_succ, List.set_cons_zero]
        have hN := hF w13 hR
        clear hR hF
        have HB_w13 := Lib.hid (HB_w12.out.trans ((hN).mono hz_w12))
        have hz_w13 : bb ≤ w13.heap.size := Nat.le_trans hz_w12 (hN).size
        have HL_w13 : Free.Bel w5 w13 := bt HL_w12 (hN)
        clear HL_w12
        have HWR : Free.Bel wr w13 := bt HWR (hN)
        have FN := fun (W : World) (hW : Free.Bel w13 W) => FA W (bt (hN) hW)
        clear FA HB_w12 hz_w12 KR
        have FA := FN
        clear FN
        have KR := Free.Bel.refl w13
        clear hN hV
        go_wp2_with fail
        go_roundw
        case rel => exact ⟨j + 1, by omega, rfl, HL_w13⟩
        case measure => have := HHN.out; simp [intOf]; omega
    · obtain rfl : j = (hi - lo + 1).toNat := by omega
      have k9 : decide (lo + (((hi - lo + 1).toNat : Nat) : Int) ≤ hi) = false := decide_eq_false (by omega)
      go_wp2_with fail
      refine (rest_full2 N lo hi o f _ HO hc hd sx sy HCAN).mono ?_
      rintro e w14 ⟨rfl, hB⟩
      have HB_w14 := Lib.hid (HB_wr.out.trans ((hB).mono hz_wr))
      have hz_w14 : bb ≤ w14.heap.size := Nat.le_trans hz_wr (hB).size
      have HL_w14 : Free.Bel w5 w14 := bt HL_wr (hB)
      clear HL_wr
      have HWR : Free.Bel wr w14 := bt HWR (hB)
      have FN := fun (W : World) (hW : Free.Bel w14 W) => FA W (bt (hB) hW)
      clear FA HB_wr hz_wr KR
      have FA := FN
      clear FN
      have KR := Free.Bel.refl w14
      clear hB
      have q1 : (sx == f) = true := by simp; omega
      have q2 : (sy == f) = true := by simp; omega
      have KA0 : Free.Bel w14 (w14.alloc (.cells #[.int .i64 0, .int .i64 0, .int .i64 0] 26)) := Bel.allocT (Free.Bel.refl _) _
      go_wp2_with fail
      clear KA0
      have hN : Free.Bel w14 (w14.alloc (.cells #[.int .i64 0, .int .i64 0, .int .i64 0] 26)) := (Bel.allocT (Free.Bel.refl w14) _)
      have n_g140_0 : (w14.alloc (.cells #[.int .i64 0, .int .i64 0, .int .i64 0] 26)).cell? ⟨w14.heap.size, 0, none⟩ = some (.int .i64 0) := by simp [go_sem]
      have n_g140_1 : (w14.alloc (.cells #[.int .i64 0, .int .i64 0, .int .i64 0] 26)).cell? ⟨w14.heap.size, 1, none⟩ = some (.int .i64 0) := by simp [go_sem]
      have n_g140_2 : (w14.alloc (.cells #[.int .i64 0, .int .i64 0, .int .i64 0] 26)).cell? ⟨w14.heap.size, 2, none⟩ = some (.int .i64 0) := by simp [go_sem]
      generalize (w14.alloc (.cells #[.int .i64 0, .int .i64 0, .int .i64 0] 26)) = w15 at *
      obtain ⟨g140, hgz⟩ : ∃ x, x = w14.heap.size := ⟨_, rfl⟩
      rw [← hgz] at n_g140_0 n_g140_1 n_g140_2 ⊢
      clear hgz
      have HB_w15 := Lib.hid (HB_w14.out.trans ((hN).mono hz_w14))
      have hz_w15 : bb ≤ w15.heap.size := Nat.le_trans hz_w14 (hN).size
      have HL_w15 : Free.Bel w5 w15 := bt HL_w14 (hN)
      clear HL_w14
      have HWR : Free.Bel wr w15 := bt HWR (hN)
      have FN := fun (W : World) (hW : Free.Bel w15 W) => And.intro (keepsB hW n_g140_0) (And.intro (keepsB hW n_g140_1) (And.intro (keepsB hW n_g140_2) (FA W (bt (hN) hW))))
      clear FA HB_w14 hz_w14 KR
      have FA := FN
      clear FN
      have KR := Free.Bel.refl w15
      clear hN n_g140_0 n_g140_1 n_g140_2
      go_ret
      have hbb := HBB.out
      subst hbb
      exact ⟨rfl, HB_w15.out⟩
end Go.Proofs.YtdiclofeggkjcaaDoor

/- The law about what can be: a case. -/
namespace Go.Proofs.YtdiclofeggkjcaaDoor
set_option linter.unusedSimpArgs false
set_option linter.unusedVariables false
open Go.RowKit Go.Proofs.YtdiclofeggkjcaaDoor.ML Go.Proofs.YtdiclofeggkjcaaDoor.Samp

set_option maxRecDepth 100000 in
set_option maxHeartbeats 8000000 in
theorem canL_fb (N lo hi o f sx sy cx cy ec dx dy ed : Int) (w : World) (hT : TabD w) (hc : 1 ≤ N ∧ N ≤ 36 ∧ 0 ≤ lo ∧ lo ≤ hi ∧ hi ≤ N) (hd : 0 ≤ o ∧ o ≤ N ∧ 0 ≤ f ∧ f ≤ o) (ho : o = N) (HCAN : Hid (canR N lo hi o f = .tuple #[i2 sx sy, .int .i64 8])) (hs : sx = 0 ∧ sy = 0) (hno : min hi (N - (o - f)) < max lo f) (HIS : Hid (∀ n, lo ≤ n → n ≤ hi → ((f ≤ n ∧ o - f ≤ N - n) → isB sx sy 8 n = true) ∧ (¬ (f ≤ n ∧ o - f ≤ N - n) → isB sx sy 8 n = false))) :
    Calls Tryd.prog 12 #[.agg #[.int .i64 N, .int .i64 lo, .int .i64 hi], i2 o f] w fun e w' => e = .returned (.bool true) ∧ Below w.heap.size w w' := by
  have HO := Lib.hid ho
  have hob : o ≤ N ∧ N ≤ o := by omega
  have kq : (o == N) = true := by simp; omega
  clear ho
  have hB0 : Below w.heap.size w ((w.alloc (.cells #[.int .i64 N, .int .i64 lo, .int .i64 hi] 26)).alloc (.cells #[.int .i64 o, .int .i64 f] 34)) := ((Below.refl _ w).alloc (Nat.le_refl _) _).alloc (by simp) _
  have c0_0 : ((w.alloc (.cells #[.int .i64 N, .int .i64 lo, .int .i64 hi] 26)).alloc (.cells #[.int .i64 o, .int .i64 f] 34)).cell? ⟨w.heap.size, 0, none⟩ = some (.int .i64 N) := by simp [go_sem]
  have c0_1 : ((w.alloc (.cells #[.int .i64 N, .int .i64 lo, .int .i64 hi] 26)).alloc (.cells #[.int .i64 o, .int .i64 f] 34)).cell? ⟨w.heap.size, 1, none⟩ = some (.int .i64 lo) := by simp [go_sem]
  have c0_2 : ((w.alloc (.cells #[.int .i64 N, .int .i64 lo, .int .i64 hi] 26)).alloc (.cells #[.int .i64 o, .int .i64 f] 34)).cell? ⟨w.heap.size, 2, none⟩ = some (.int .i64 hi) := by simp [go_sem]
  have c1_0 : ((w.alloc (.cells #[.int .i64 N, .int .i64 lo, .int .i64 hi] 26)).alloc (.cells #[.int .i64 o, .int .i64 f] 34)).cell? ⟨w.heap.size + 1, 0, none⟩ = some (.int .i64 o) := by simp [go_sem]
  have c1_1 : ((w.alloc (.cells #[.int .i64 N, .int .i64 lo, .int .i64 hi] 26)).alloc (.cells #[.int .i64 o, .int .i64 f] 34)).cell? ⟨w.heap.size + 1, 1, none⟩ = some (.int .i64 f) := by simp [go_sem]
  have t0 := keepsB hB0 hT.1
  have t1 := keepsB hB0 hT.2.1
  have t2 := keepsB hB0 hT.2.2
  clear hT
  go_enter Tryd.func12, Tryd.ntmps12
  go_wp2_with fail
  refine (alive_any _ (tabD_mk t0 t1 t2)).mono ?_
  rintro e w1 ⟨rfl, hB1⟩
  have hBz : Below w.heap.size w w1 := hB0.trans (hB1.mono (by simp; omega))
  have hzz : w.heap.size ≤ w1.heap.size := hBz.size
  have hzn : w.heap.size + 2 ≤ w1.heap.size := by have := hB1.size; simp at this; omega
  have kc0_0 := keepsB hB1 c0_0
  have kc0_1 := keepsB hB1 c0_1
  have kc0_2 := keepsB hB1 c0_2
  have kc1_0 := keepsB hB1 c1_0
  have kc1_1 := keepsB hB1 c1_1
  have kt0 := keepsB hB1 t0
  have kt1 := keepsB hB1 t1
  have kt2 := keepsB hB1 t2
  clear hB0 hB1 t0 t1 t2 c0_0 c0_1 c0_2 c1_0 c1_1
  generalize hbb : w.heap.size = bb at *
  have HBB := Lib.hid hbb
  clear hbb
  have HB_w1 := Lib.hid (show Below bb w w1 from hBz)
  have hz_w1 : bb ≤ w1.heap.size := hzz
  have FA : ∀ W, Free.Bel w1 W → W.cell? ⟨0, 0, none⟩ = some (dblF 130) ∧ W.cell? ⟨0, 1, none⟩ = some (dblF 131) ∧ W.cell? ⟨0, 2, none⟩ = some (dblF 132) ∧ W.cell? ⟨bb, 0, none⟩ = some (.int .i64 N) ∧ W.cell? ⟨bb, 1, none⟩ = some (.int .i64 lo) ∧ W.cell? ⟨bb, 2, none⟩ = some (.int .i64 hi) ∧ W.cell? ⟨bb + 1, 0, none⟩ = some (.int .i64 o) ∧ W.cell? ⟨bb + 1, 1, none⟩ = some (.int .i64 f) ∧ bb + 2 ≤ W.heap.size ∧ bb ≤ W.heap.size := fun W hW => ⟨keepsB hW kt0, keepsB hW kt1, keepsB hW kt2, keepsB hW kc0_0, keepsB hW kc0_1, keepsB hW kc0_2, keepsB hW kc1_0, keepsB hW kc1_1, Nat.le_trans hzn hW.size, Nat.le_trans hz_w1 hW.size⟩
  have KR : Free.Bel w1 w1 := Free.Bel.refl _
  clear hBz hzz kt0 kt1 kt2 kc0_0 kc0_1 kc0_2 kc1_0 kc1_1 hzn
  go_wp2_with fail
  refine (cargoR_any N lo hi true _ (cargoB_ok hc)).mono ?_
  rintro e w2 ⟨rfl, hB⟩
  have HB_w2 := Lib.hid (HB_w1.out.trans ((hB).mono hz_w1))
  have hz_w2 : bb ≤ w2.heap.size := Nat.le_trans hz_w1 (hB).size
  have FN := fun (W : World) (hW : Free.Bel w2 W) => FA W (bt (hB) hW)
  clear FA HB_w1 hz_w1 KR
  have FA := FN
  clear FN
  have KR := Free.Bel.refl w2
  clear hB
  go_wp2_with fail
  refine (drawR_any N lo hi o f true _ (drawB_ok hd)).mono ?_
  rintro e w3 ⟨rfl, hB⟩
  have HB_w3 := Lib.hid (HB_w2.out.trans ((hB).mono hz_w2))
  have hz_w3 : bb ≤ w3.heap.size := Nat.le_trans hz_w2 (hB).size
  have FN := fun (W : World) (hW : Free.Bel w3 W) => FA W (bt (hB) hW)
  clear FA HB_w2 hz_w2 KR
  have FA := FN
  clear FN
  have KR := Free.Bel.refl w3
  clear hB
  go_wp2_with fail
  obtain ⟨rfl, rfl⟩ := hs
  refine (can_v N lo hi o f _ _ HCAN).mono ?_
  rintro e w4 ⟨rfl, hB⟩
  have HB_w4 := Lib.hid (HB_w3.out.trans ((hB).mono hz_w3))
  have hz_w4 : bb ≤ w4.heap.size := Nat.le_trans hz_w3 (hB).size
  have FN := fun (W : World) (hW : Free.Bel w4 W) => FA W (bt (hB) hW)
  clear FA HB_w3 hz_w3 KR
  have FA := FN
  clear FN
  have KR := Free.Bel.refl w4
  clear hB
  have K1 : Free.Bel w4 (w4.alloc (.cells #[.int .i64 0, .int .i64 0] 24)) := Bel.allocT (Free.Bel.refl _) _
  have K2 : Free.Bel w4 ((w4.alloc (.cells #[.int .i64 0, .int .i64 0] 24)).alloc (.cells #[.int .i64 0, .int .i64 0] 24)) := Bel.allocT K1 _
  have K3 : Free.Bel w4 (((w4.alloc (.cells #[.int .i64 0, .int .i64 0] 24)).alloc (.cells #[.int .i64 0, .int .i64 0] 24)).alloc (.cells #[.int .i64 0, .int .i64 0] 24)) := Bel.allocT K2 _
  have k0 : decide (o < N) = false := decide_eq_false (by omega)
  go_wp2_with fail
  have hwo : IntKind.i64.wrap (o + 1) = o + 1 := IntWalk.i64_in _ (by omega)
  have hwf : IntKind.i64.wrap (f + 1) = f + 1 := IntWalk.i64_in _ (by omega)
  clear K1 K2
  have n0 : Two w4.heap.size (.int .i64 (0)) (.int .i64 (0)) (((w4.alloc (.cells #[.int .i64 0, .int .i64 0] 24)).alloc (.cells #[.int .i64 0, .int .i64 0] 24)).alloc (.cells #[.int .i64 0, .int .i64 0] 24)) := ⟨by simp [go_sem], by simp [go_sem], by simp [go_sem], by simp [go_sem]⟩
  have n1 : Two (w4.heap.size + 1) (.int .i64 0) (.int .i64 0) (((w4.alloc (.cells #[.int .i64 0, .int .i64 0] 24)).alloc (.cells #[.int .i64 0, .int .i64 0] 24)).alloc (.cells #[.int .i64 0, .int .i64 0] 24)) := ⟨by simp [go_sem], by simp [go_sem], by simp [go_sem], by simp [go_sem]⟩
  have n2 : Two (w4.heap.size + 1 + 1) (.int .i64 0) (.int .i64 0) (((w4.alloc (.cells #[.int .i64 0, .int .i64 0] 24)).alloc (.cells #[.int .i64 0, .int .i64 0] 24)).alloc (.cells #[.int .i64 0, .int .i64 0] 24)) := ⟨by simp [go_sem], by simp [go_sem], by simp [go_sem], by simp [go_sem]⟩
  have hsz : w4.heap.size + 3 ≤ ((((w4.alloc (.cells #[.int .i64 0, .int .i64 0] 24)).alloc (.cells #[.int .i64 0, .int .i64 0] 24)).alloc (.cells #[.int .i64 0, .int .i64 0] 24))).heap.size := by simp
  generalize (((w4.alloc (.cells #[.int .i64 0, .int .i64 0] 24)).alloc (.cells #[.int .i64 0, .int .i64 0] 24)).alloc (.cells #[.int .i64 0, .int .i64 0] 24)) = w5 at *
  obtain ⟨g, hg⟩ : ∃ x, x = w4.heap.size := ⟨_, rfl⟩
  rw [← hg] at n0 n1 n2 hsz ⊢
  have hgl : w4.heap.size ≤ g := by omega
  clear hg
  clear hsz
  have hN := K3
  clear K3
  have n00 := n0.c0
  have n01 := n0.c1
  clear n0
  have n10 := n1.c0
  have n11 := n1.c1
  clear n1
  have n20 := n2.c0
  have n21 := n2.c1
  clear n2
  clear hgl
  have HB_w5 := Lib.hid (HB_w4.out.trans ((hN).mono hz_w4))
  have hz_w5 : bb ≤ w5.heap.size := Nat.le_trans hz_w4 (hN).size
  have FN := fun (W : World) (hW : Free.Bel w5 W) => And.intro (keepsB hW n00) (And.intro (keepsB hW n01) (And.intro (keepsB hW n10) (And.intro (keepsB hW n11) (And.intro (keepsB hW n20) (And.intro (keepsB hW n21) (FA W (bt (hN) hW)))))))
  clear FA HB_w4 hz_w4 KR
  have FA := FN
  clear FN
  have KR := Free.Bel.refl w5
  clear hN n00 n01 n10 n11 n20 n21
  have hcp := chI_pos N o (by omega) (by omega) (by omega) (by omega)
  go_loopw [13] (fun i wr => ∃ j : Nat, j ≤ (hi - lo + 1).toNat ∧ i = .int .i64 (lo + j) ∧ Free.Bel w5 wr) (fun i _ => (hi - lo + 1).toNat - (intOf i - lo).toNat)
  case atStart => exact ⟨0, by omega, by simp, Free.Bel.refl _⟩
  case round =>
    obtain ⟨j, hj, rfl, HKr⟩ := hrel
    have HB_wr := Lib.hid (HB_w5.out.trans ((HKr).mono hz_w5))
    have hz_wr : bb ≤ wr.heap.size := Nat.le_trans hz_w5 (HKr).size
    have FN := fun (W : World) (hW : Free.Bel wr W) => FA W (bt (HKr) hW)
    clear FA HB_w5 hz_w5 KR
    have FA := FN
    clear FN
    have KR := Free.Bel.refl wr
    have HWR : Free.Bel wr wr := Free.Bel.refl _
    have HL_wr : Free.Bel w5 wr := HKr
    clear HKr
    by_cases hlt : j < (hi - lo + 1).toNat
    · have hjm : lo + (j : Int) ≤ hi := by omega
      obtain ⟨n, hn⟩ : ∃ n, lo + (j : Int) = n := ⟨_, rfl⟩
      have hnb : lo ≤ n ∧ n ≤ hi := by omega
      obtain ⟨p, q, hpq⟩ : ∃ p q, partV (waysI N n o f).toNat (chI N o).toNat = i2 p q := ⟨_, _, rfl⟩
      have HP := Lib.hid hpq
      have hwl := waysI_le N n o f (by omega) (by omega) (by omega) (by omega)
      have hp0 := part_pos _ _ p q hwl.1 (by omega) hpq
      have hw0 := waysI_pos N n o f (by omega) (by omega) (by omega) (by omega)
      have hp1 : decide (0 < p) = decide (f ≤ n ∧ o - f ≤ N - n) := by rw [hp0, decide_eq_decide]; exact hw0
      clear hpq hwl hp0 hw0
      have hn2 : IntKind.i64.wrap (n + 1) = lo + ((j + 1 : Nat) : Int) := by rw [IntWalk.i64_in _ (by omega)]; omega
      have hb := HIS.out n hnb.1 hnb.2
      rw [hn]
      have HHN := Lib.hid hn
      clear hn
      have hab : ¬ (f ≤ n ∧ o - f ≤ N - n) := by omega
      have hb0 := hb.2 hab
      skip
      have hp2 : decide (0 < p) = false := hp1.trans (decide_eq_false hab)
      clear hp1
      have HB0 := Lib.hid (congrArg Value.bool hb0)
      clear hb0
      go_wp2_with fail
      refine (chance_ok N lo hi n o f p q _ hc hd hnb HP).mono ?_
      rintro e w6 ⟨rfl, hB⟩
      have HB_w6 := Lib.hid (HB_wr.out.trans ((hB).mono hz_wr))
      have hz_w6 : bb ≤ w6.heap.size := Nat.le_trans hz_wr (hB).size
      have HL_w6 : Free.Bel w5 w6 := bt HL_wr (hB)
      clear HL_wr
      have HWR : Free.Bel wr w6 := bt HWR (hB)
      have FN := fun (W : World) (hW : Free.Bel w6 W) => FA W (bt (hB) hW)
      clear FA HB_wr hz_wr KR
      have FA := FN
      clear FN
      have KR := Free.Bel.refl w6
      clear hB
      have KA0 : Free.Bel w6 (w6.alloc (.cells #[.int .i64 p, .int .i64 q] 29)) := Bel.allocT (Free.Bel.refl _) _
      go_wp2_with fail
      clear KA0
      have hN : Free.Bel w6 (w6.alloc (.cells #[.int .i64 p, .int .i64 q] 29)) := (Bel.allocT (Free.Bel.refl w6) _)
      have n_g60_0 : (w6.alloc (.cells #[.int .i64 p, .int .i64 q] 29)).cell? ⟨w6.heap.size, 0, none⟩ = some (.int .i64 p) := by simp [go_sem]
      have n_g60_1 : (w6.alloc (.cells #[.int .i64 p, .int .i64 q] 29)).cell? ⟨w6.heap.size, 1, none⟩ = some (.int .i64 q) := by simp [go_sem]
      generalize (w6.alloc (.cells #[.int .i64 p, .int .i64 q] 29)) = w7 at *
      obtain ⟨g60, hgz⟩ : ∃ x, x = w6.heap.size := ⟨_, rfl⟩
      rw [← hgz] at n_g60_0 n_g60_1 ⊢
      clear hgz
      have HB_w7 := Lib.hid (HB_w6.out.trans ((hN).mono hz_w6))
      have hz_w7 : bb ≤ w7.heap.size := Nat.le_trans hz_w6 (hN).size
      have HL_w7 : Free.Bel w5 w7 := bt HL_w6 (hN)
      clear HL_w6
      have HWR : Free.Bel wr w7 := bt HWR (hN)
      have FN := fun (W : World) (hW : Free.Bel w7 W) => And.intro (keepsB hW n_g60_0) (And.intro (keepsB hW n_g60_1) (FA W (bt (hN) hW)))
      clear FA HB_w6 hz_w6 KR
      have FA := FN
      clear FN
      have KR := Free.Bel.refl w7
      clear hN n_g60_0 n_g60_1
      have hF : ∀ W, Free.Bel w7.drew W → Free.Bel w7 W := fun W hW => bt (Bel.drewT (Free.Bel.refl _)) hW
      refine Free.wp_free (R := Free.Bel) (by kernel_rfl) (by kernel_rfl) Free.Bel.refl Free.Bel.trans ?_
      refine Free.Chain.ex ?_ [] [15] (by kernel_rfl) (by kernel_rfl) rfl Free.Bel.refl ?_ ?_
      rotate_left 2
      simp only [an1, an2]
      refine Free.Chain.ex ?_ [(0, 122)] [] (by kernel_rfl) (by kernel_rfl) rfl Free.Bel.refl ?_ ?_
      rotate_left 2
      simp only [an1, an2]
      refine Free.Chain.ex ?_ [(1, 123)] [] (by kernel_rfl) (by kernel_rfl) rfl Free.Bel.refl ?_ ?_
      rotate_left 2
      simp only [an1, an2]
      rotate_left
      iterate 3 (rotate_left; intro ev W hb hR hO hD; have hS := hF W hR; obtain ⟨hb1, hb2, hb3⟩ := hb; simp only [Free.AllDeps, Free.AllOuts, Free.At, al1, al2, al3, al4, al5, and_true] at hO hD; go_simp; rfl)
      refine Free.Chain.exG ?_ [(2, 124)] [8] 2 false 124 (by kernel_rfl) (by kernel_rfl) rfl (by kernel_rfl) Free.Bel.refl ?_ ?_
      rotate_left 2
      simp only [an1, an2]
      refine Free.Chain.exG ?_ [(2, 124)] [6] 2 false 124 (by kernel_rfl) (by kernel_rfl) rfl (by kernel_rfl) Free.Bel.refl ?_ ?_
      rotate_left 2
      simp only [an1, an2]
      refine Free.Chain.exG ?_ [(2, 124)] [7] 2 false 124 (by kernel_rfl) (by kernel_rfl) rfl (by kernel_rfl) Free.Bel.refl ?_ ?_
      rotate_left 2
      simp only [an1, an2]
      refine Free.Chain.exG ?_ [(2, 124)] [13] 2 false 124 (by kernel_rfl) (by kernel_rfl) rfl (by kernel_rfl) Free.Bel.refl ?_ ?_
      rotate_left 2
      simp only [an1, an2]
      rotate_left
      iterate 4 (rotate_left; intro ev W hb hR hO hD; have hS := hF W hR; obtain ⟨hb1, hb2, hb3⟩ := hb; simp only [Free.AllDeps, Free.AllOuts, Free.At, al1, al2, al3, al4, al5, and_true] at hO hD; refine ⟨by simp [hD], ?_⟩; go_simp; rfl)
      refine Free.Chain.prG (fun v _ => v = .bool false) [(3, 125), (4, 126), (5, 127), (6, 128), (2, 124), (2, 124)] [] 2 false 124 (by kernel_rfl) (by kernel_rfl) rfl (by kernel_rfl) (fun _ _ _ _ h => h) ?_ ?_
      · (intro ev W hb hR hO hD; have hS := hF W hR; obtain ⟨hb1, hb2, hb3⟩ := hb; simp only [Free.AllDeps, Free.AllOuts, Free.At, al1, al2, al3, al4, al5, and_true] at hO hD; refine ⟨by simp [hD], ?_⟩; go_simp; refine yields_enter ?_; (with_reducible refine (is_v 0 0 8 n (.bool false) _ HB0).mono ?_); rintro e W2 ⟨rfl, hB2⟩; exact ⟨_, rfl, hB2, rfl⟩)
      simp only [an1, an2]
      refine Free.Chain.exG ?_ [(2, 124)] [14] 2 false 124 (by kernel_rfl) (by kernel_rfl) rfl (by kernel_rfl) Free.Bel.refl ?_ ?_
      rotate_left 2
      simp only [an1, an2]
      refine Free.Chain.exG ?_ [(8, 130), (2, 124)] [] 2 false 124 (by kernel_rfl) (by kernel_rfl) rfl (by kernel_rfl) Free.Bel.refl ?_ ?_
      rotate_left 2
      simp only [an1, an2]
      refine Free.Chain.exG ?_ [(9, 131), (2, 124)] [] 2 false 124 (by kernel_rfl) (by kernel_rfl) rfl (by kernel_rfl) Free.Bel.refl ?_ ?_
      rotate_left 2
      simp only [an1, an2]
      refine Free.Chain.exG ?_ [(7, 129), (10, 132), (2, 124)] [] 2 false 124 (by kernel_rfl) (by kernel_rfl) rfl (by kernel_rfl) Free.Bel.refl ?_ ?_
      rotate_left 2
      simp only [an1, an2]
      rotate_left
      iterate 4 (rotate_left; intro ev W hb hR hO hD; have hS := hF W hR; obtain ⟨hb1, hb2, hb3⟩ := hb; simp only [Free.AllDeps, Free.AllOuts, Free.At, al1, al2, al3, al4, al5, and_true] at hO hD; refine ⟨by simp [hD], ?_⟩; go_simp; rfl)
      refine Free.Chain.ex ?_ [(2, 124), (11, 133)] [] (by kernel_rfl) (by kernel_rfl) rfl Free.Bel.refl ?_ ?_
      rotate_left 2
      simp only [an1, an2]
      rotate_left
      rotate_left
      · (intro ev W hb hR hO hD; have hS := hF W hR; obtain ⟨hb1, hb2, hb3⟩ := hb; simp only [Free.AllDeps, Free.AllOuts, Free.At, al1, al2, al3, al4, al5, and_true] at hO hD; go_simp; rfl)
      intro xs w8 hR hV
      simp only [Free.AllV, Free.At, List.length_cons, List.length_nil, Nat.reduceAdd, List.getElem?_cons_succ, List.getElem?_cons_zero, true_and, and_true] at hV
      simp only [Free.putsFrom, Act.put, Nat.zero_add, Nat.reduceAdd, hV, List.setIfInBounds_toArray, List.set_cons_succ, List.set_cons_zero]
      have hN := hF w8 hR
      clear hR hF
      have HB_w8 := Lib.hid (HB_w7.out.trans ((hN).mono hz_w7))
      have hz_w8 : bb ≤ w8.heap.size := Nat.le_trans hz_w7 (hN).size
      have HL_w8 : Free.Bel w5 w8 := bt HL_w7 (hN)
      clear HL_w7
      have HWR : Free.Bel wr w8 := bt HWR (hN)
      have FN := fun (W : World) (hW : Free.Bel w8 W) => FA W (bt (hN) hW)
      clear FA HB_w7 hz_w7 KR
      have FA := FN
      clear FN
      have KR := Free.Bel.refl w8
      clear hN hV
      go_wp2_with fail
      have hF : ∀ W, Free.Bel w8.drew W → Free.Bel w8 W := fun W hW => bt (Bel.drewT (Free.Bel.refl _)) hW
      refine Free.wp_free (R := Free.Bel) (by kernel_rfl) (by kernel_rfl) Free.Bel.refl Free.Bel.trans ?_
      refine Free.Chain.ex ?_ [] [3] (by kernel_rfl) (by kernel_rfl) rfl Free.Bel.refl ?_ ?_
      rotate_left 2
      simp only [an1, an2]
      refine Free.Chain.ex ?_ [(0, 135)] [] (by kernel_rfl) (by kernel_rfl) rfl Free.Bel.refl ?_ ?_
      rotate_left 2
      simp only [an1, an2]
      refine Free.Chain.ex ?_ [] [2] (by kernel_rfl) (by kernel_rfl) rfl Free.Bel.refl ?_ ?_
      rotate_left 2
      simp only [an1, an2]
      refine Free.Chain.ex ?_ [(2, 137)] [] (by kernel_rfl) (by kernel_rfl) rfl Free.Bel.refl ?_ ?_
      rotate_left 2
      simp only [an1, an2]
      refine Free.Chain.ex ?_ [(1, 136), (3, 138)] [] (by kernel_rfl) (by kernel_rfl) rfl Free.Bel.refl ?_ ?_
      rotate_left 2
      simp only [an1, an2]
      refine Free.Chain.ex ?_ [(4, 139)] [] (by kernel_rfl) (by kernel_rfl) rfl Free.Bel.refl ?_ ?_
      rotate_left 2
      simp only [an1, an2]
      rotate_left
      iterate 6 (rotate_left; intro ev W hb hR hO hD; have hS := hF W hR; obtain ⟨hb1, hb2, hb3⟩ := hb; simp only [Free.AllDeps, Free.AllOuts, Free.At, al1, al2, al3, al4, al5, and_true] at hO hD; go_simp; rfl)
      refine Free.Chain.no [(5, 140)] [8] 5 true 140 (by kernel_rfl) (by kernel_rfl) rfl (by kernel_rfl) ?_ ?_
      · (intro ev W hR hD; simp only [Free.AllDeps, Free.At, List.getElem?_cons_succ, List.getElem?_cons_zero, and_true] at hD; simp [hD])
      simp only [an1, an2]
      refine Free.Chain.no [(5, 140)] [6] 5 true 140 (by kernel_rfl) (by kernel_rfl) rfl (by kernel_rfl) ?_ ?_
      · (intro ev W hR hD; simp only [Free.AllDeps, Free.At, List.getElem?_cons_succ, List.getElem?_cons_zero, and_true] at hD; simp [hD])
      simp only [an1, an2]
      refine Free.Chain.no [(5, 140)] [7] 5 true 140 (by kernel_rfl) (by kernel_rfl) rfl (by kernel_rfl) ?_ ?_
      · (intro ev W hR hD; simp only [Free.AllDeps, Free.At, List.getElem?_cons_succ, List.getElem?_cons_zero, and_true] at hD; simp [hD])
      simp only [an1, an2]
      refine Free.Chain.no [(5, 140)] [13] 5 true 140 (by kernel_rfl) (by kernel_rfl) rfl (by kernel_rfl) ?_ ?_
      · (intro ev W hR hD; simp only [Free.AllDeps, Free.At, List.getElem?_cons_succ, List.getElem?_cons_zero, and_true] at hD; simp [hD])
      simp only [an1, an2]
      refine Free.Chain.no [(6, 141), (7, 142), (8, 143), (9, 144), (5, 140), (5, 140)] [] 5 true 140 (by kernel_rfl) (by kernel_rfl) rfl (by kernel_rfl) ?_ ?_
      · (intro ev W hR hD; simp only [Free.AllDeps, Free.At, List.getElem?_cons_succ, List.getElem?_cons_zero, and_true] at hD; simp [hD])
      simp only [an1, an2]
      refine Free.Chain.no [(5, 140)] [8] 5 true 140 (by kernel_rfl) (by kernel_rfl) rfl (by kernel_rfl) ?_ ?_
      · (intro ev W hR hD; simp only [Free.AllDeps, Free.At, List.getElem?_cons_succ, List.getElem?_cons_zero, and_true] at hD; simp [hD])
      simp only [an1, an2]
      refine Free.Chain.no [(5, 140)] [9] 5 true 140 (by kernel_rfl) (by kernel_rfl) rfl (by kernel_rfl) ?_ ?_
      · (intro ev W hR hD; simp only [Free.AllDeps, Free.At, List.getElem?_cons_succ, List.getElem?_cons_zero, and_true] at hD; simp [hD])
      simp only [an1, an2]
      refine Free.Chain.no [(5, 140)] [11] 5 true 140 (by kernel_rfl) (by kernel_rfl) rfl (by kernel_rfl) ?_ ?_
      · (intro ev W hR hD; simp only [Free.AllDeps, Free.At, List.getElem?_cons_succ, List.getElem?_cons_zero, and_true] at hD; simp [hD])
      simp only [an1, an2]
      refine Free.Chain.no [(5, 140)] [13] 5 true 140 (by kernel_rfl) (by kernel_rfl) rfl (by kernel_rfl) ?_ ?_
      · (intro ev W hR hD; simp only [Free.AllDeps, Free.At, List.getElem?_cons_succ, List.getElem?_cons_zero, and_true] at hD; simp [hD])
      simp only [an1, an2]
      refine Free.Chain.no [(11, 146), (12, 147), (13, 148), (14, 149), (10, 145), (5, 140)] [] 5 true 140 (by kernel_rfl) (by kernel_rfl) rfl (by kernel_rfl) ?_ ?_
      · (intro ev W hR hD; simp only [Free.AllDeps, Free.At, List.getElem?_cons_succ, List.getElem?_cons_zero, and_true] at hD; simp [hD])
      simp only [an1, an2]
      refine Free.Chain.no [(15, 150), (15, 150), (5, 140)] [] 5 true 140 (by kernel_rfl) (by kernel_rfl) rfl (by kernel_rfl) ?_ ?_
      · (intro ev W hR hD; simp only [Free.AllDeps, Free.At, List.getElem?_cons_succ, List.getElem?_cons_zero, and_true] at hD; simp [hD])
      simp only [an1, an2]
      refine Free.Chain.no [(16, 151)] [8] 16 false 151 (by kernel_rfl) (by kernel_rfl) rfl (by kernel_rfl) ?_ ?_
      · (intro ev W hR hD; simp only [Free.AllDeps, Free.At, List.getElem?_cons_succ, List.getElem?_cons_zero, and_true] at hD; simp [hD])
      simp only [an1, an2]
      refine Free.Chain.no [(16, 151)] [10] 16 false 151 (by kernel_rfl) (by kernel_rfl) rfl (by kernel_rfl) ?_ ?_
      · (intro ev W hR hD; simp only [Free.AllDeps, Free.At, List.getElem?_cons_succ, List.getElem?_cons_zero, and_true] at hD; simp [hD])
      simp only [an1, an2]
      refine Free.Chain.no [(16, 151)] [12] 16 false 151 (by kernel_rfl) (by kernel_rfl) rfl (by kernel_rfl) ?_ ?_
      · (intro ev W hR hD; simp only [Free.AllDeps, Free.At, List.getElem?_cons_succ, List.getElem?_cons_zero, and_true] at hD; simp [hD])
      simp only [an1, an2]
      refine Free.Chain.no [(16, 151)] [13] 16 false 151 (by kernel_rfl) (by kernel_rfl) rfl (by kernel_rfl) ?_ ?_
      · (intro ev W hR hD; simp only [Free.AllDeps, Free.At, List.getElem?_cons_succ, List.getElem?_cons_zero, and_true] at hD; simp [hD])
      simp only [an1, an2]
      refine Free.Chain.no [(17, 152), (18, 153), (19, 154), (20, 155), (16, 151), (16, 151)] [] 16 false 151 (by kernel_rfl) (by kernel_rfl) rfl (by kernel_rfl) ?_ ?_
      · (intro ev W hR hD; simp only [Free.AllDeps, Free.At, List.getElem?_cons_succ, List.getElem?_cons_zero, and_true] at hD; simp [hD])
      simp only [an1, an2]
      refine Free.Chain.no [(16, 151), (21, 156), (5, 140)] [] 5 true 140 (by kernel_rfl) (by kernel_rfl) rfl (by kernel_rfl) ?_ ?_
      · (intro ev W hR hD; simp only [Free.AllDeps, Free.At, List.getElem?_cons_succ, List.getElem?_cons_zero, and_true] at hD; simp [hD])
      simp only [an1, an2]
      refine Free.Chain.no [(10, 145), (22, 157), (5, 140)] [] 5 true 140 (by kernel_rfl) (by kernel_rfl) rfl (by kernel_rfl) ?_ ?_
      · (intro ev W hR hD; simp only [Free.AllDeps, Free.At, List.getElem?_cons_succ, List.getElem?_cons_zero, and_true] at hD; simp [hD])
      simp only [an1, an2]
      refine Free.Chain.ex ?_ [(5, 140), (23, 158)] [] (by kernel_rfl) (by kernel_rfl) rfl Free.Bel.refl ?_ ?_
      rotate_left 2
      simp only [an1, an2]
      rotate_left
      rotate_left
      · (intro ev W hb hR hO hD; have hS := hF W hR; obtain ⟨hb1, hb2, hb3⟩ := hb; simp only [Free.AllDeps, Free.AllOuts, Free.At, al1, al2, al3, al4, al5, and_true] at hO hD; go_simp; rfl)
      intro xs w9 hR hV
      simp only [Free.AllV, Free.At, List.length_cons, List.length_nil, Nat.reduceAdd, List.getElem?_cons_succ, List.getElem?_cons_zero, true_and, and_true] at hV
      simp only [Free.putsFrom, Act.put, Nat.zero_add, Nat.reduceAdd, hV, List.setIfInBounds_toArray, List.set_cons_succ, List.set_cons_zero]
      have hN := hF w9 hR
      clear hR hF
      have HB_w9 := Lib.hid (HB_w8.out.trans ((hN).mono hz_w8))
      have hz_w9 : bb ≤ w9.heap.size := Nat.le_trans hz_w8 (hN).size
      have HL_w9 : Free.Bel w5 w9 := bt HL_w8 (hN)
      clear HL_w8
      have HWR : Free.Bel wr w9 := bt HWR (hN)
      have FN := fun (W : World) (hW : Free.Bel w9 W) => FA W (bt (hN) hW)
      clear FA HB_w8 hz_w8 KR
      have FA := FN
      clear FN
      have KR := Free.Bel.refl w9
      clear hN hV
      go_wp2_with fail
      go_roundw
      case rel => exact ⟨j + 1, by omega, rfl, HL_w9⟩
      case measure => have := HHN.out; simp [intOf]; omega
    · obtain rfl : j = (hi - lo + 1).toNat := by omega
      have k9 : decide (lo + (((hi - lo + 1).toNat : Nat) : Int) ≤ hi) = false := decide_eq_false (by omega)
      go_wp2_with fail
      refine (rest_bad N lo hi o f _ hc hd HCAN).mono ?_
      rintro e w10 ⟨rfl, hB⟩
      have HB_w10 := Lib.hid (HB_wr.out.trans ((hB).mono hz_wr))
      have hz_w10 : bb ≤ w10.heap.size := Nat.le_trans hz_wr (hB).size
      have HL_w10 : Free.Bel w5 w10 := bt HL_wr (hB)
      clear HL_wr
      have HWR : Free.Bel wr w10 := bt HWR (hB)
      have FN := fun (W : World) (hW : Free.Bel w10 W) => FA W (bt (hB) hW)
      clear FA HB_wr hz_wr KR
      have FA := FN
      clear FN
      have KR := Free.Bel.refl w10
      clear hB
      have KA0 : Free.Bel w10 (w10.alloc (.cells #[.int .i64 0, .int .i64 0, .int .i64 0] 26)) := Bel.allocT (Free.Bel.refl _) _
      go_wp2_with fail
      clear KA0
      have hN : Free.Bel w10 (w10.alloc (.cells #[.int .i64 0, .int .i64 0, .int .i64 0] 26)) := (Bel.allocT (Free.Bel.refl w10) _)
      have n_g100_0 : (w10.alloc (.cells #[.int .i64 0, .int .i64 0, .int .i64 0] 26)).cell? ⟨w10.heap.size, 0, none⟩ = some (.int .i64 0) := by simp [go_sem]
      have n_g100_1 : (w10.alloc (.cells #[.int .i64 0, .int .i64 0, .int .i64 0] 26)).cell? ⟨w10.heap.size, 1, none⟩ = some (.int .i64 0) := by simp [go_sem]
      have n_g100_2 : (w10.alloc (.cells #[.int .i64 0, .int .i64 0, .int .i64 0] 26)).cell? ⟨w10.heap.size, 2, none⟩ = some (.int .i64 0) := by simp [go_sem]
      generalize (w10.alloc (.cells #[.int .i64 0, .int .i64 0, .int .i64 0] 26)) = w11 at *
      obtain ⟨g100, hgz⟩ : ∃ x, x = w10.heap.size := ⟨_, rfl⟩
      rw [← hgz] at n_g100_0 n_g100_1 n_g100_2 ⊢
      clear hgz
      have HB_w11 := Lib.hid (HB_w10.out.trans ((hN).mono hz_w10))
      have hz_w11 : bb ≤ w11.heap.size := Nat.le_trans hz_w10 (hN).size
      have HL_w11 : Free.Bel w5 w11 := bt HL_w10 (hN)
      clear HL_w10
      have HWR : Free.Bel wr w11 := bt HWR (hN)
      have FN := fun (W : World) (hW : Free.Bel w11 W) => And.intro (keepsB hW n_g100_0) (And.intro (keepsB hW n_g100_1) (And.intro (keepsB hW n_g100_2) (FA W (bt (hN) hW))))
      clear FA HB_w10 hz_w10 KR
      have FA := FN
      clear FN
      have KR := Free.Bel.refl w11
      clear hN n_g100_0 n_g100_1 n_g100_2
      go_ret
      have hbb := HBB.out
      subst hbb
      exact ⟨rfl, HB_w11.out⟩
end Go.Proofs.YtdiclofeggkjcaaDoor

/- The law about what can be: a case. -/
namespace Go.Proofs.YtdiclofeggkjcaaDoor
set_option linter.unusedSimpArgs false
set_option linter.unusedVariables false
open Go.RowKit Go.Proofs.YtdiclofeggkjcaaDoor.ML Go.Proofs.YtdiclofeggkjcaaDoor.Samp

set_option maxRecDepth 100000 in
set_option maxHeartbeats 8000000 in
theorem canL_pg (N lo hi o f sx sy cx cy ec dx dy ed : Int) (w : World) (hT : TabD w) (hc : 1 ≤ N ∧ N ≤ 36 ∧ 0 ≤ lo ∧ lo ≤ hi ∧ hi ≤ N) (hd : 0 ≤ o ∧ o ≤ N ∧ 0 ≤ f ∧ f ≤ o) (ho : o < N) (HC1 : Hid (canR N lo hi (o + 1) f = .tuple #[i2 cx cy, .int .i64 ec])) (HC2 : Hid (canR N lo hi (o + 1) (f + 1) = .tuple #[i2 dx dy, .int .i64 ed])) (HCAN : Hid (canR N lo hi o f = .tuple #[i2 sx sy, .int .i64 0])) (hs : lo ≤ sx ∧ sx ≤ sy ∧ sy ≤ hi ∧ f ≤ sx ∧ sy ≤ N - (o - f)) (HIS : Hid (∀ n, lo ≤ n → n ≤ hi → ((f ≤ n ∧ o - f ≤ N - n) → isB sx sy 0 n = true ∧ (isB cx cy ec n = true ∨ (isB cx cy ec n = false ∧ isB dx dy ed n = true))) ∧ (¬ (f ≤ n ∧ o - f ≤ N - n) → isB sx sy 0 n = false ∧ isB cx cy ec n = false ∧ isB dx dy ed n = false))) :
    Calls Tryd.prog 12 #[.agg #[.int .i64 N, .int .i64 lo, .int .i64 hi], i2 o f] w fun e w' => e = .returned (.bool true) ∧ Below w.heap.size w w' := by
  have hB0 : Below w.heap.size w ((w.alloc (.cells #[.int .i64 N, .int .i64 lo, .int .i64 hi] 26)).alloc (.cells #[.int .i64 o, .int .i64 f] 34)) := ((Below.refl _ w).alloc (Nat.le_refl _) _).alloc (by simp) _
  have c0_0 : ((w.alloc (.cells #[.int .i64 N, .int .i64 lo, .int .i64 hi] 26)).alloc (.cells #[.int .i64 o, .int .i64 f] 34)).cell? ⟨w.heap.size, 0, none⟩ = some (.int .i64 N) := by simp [go_sem]
  have c0_1 : ((w.alloc (.cells #[.int .i64 N, .int .i64 lo, .int .i64 hi] 26)).alloc (.cells #[.int .i64 o, .int .i64 f] 34)).cell? ⟨w.heap.size, 1, none⟩ = some (.int .i64 lo) := by simp [go_sem]
  have c0_2 : ((w.alloc (.cells #[.int .i64 N, .int .i64 lo, .int .i64 hi] 26)).alloc (.cells #[.int .i64 o, .int .i64 f] 34)).cell? ⟨w.heap.size, 2, none⟩ = some (.int .i64 hi) := by simp [go_sem]
  have c1_0 : ((w.alloc (.cells #[.int .i64 N, .int .i64 lo, .int .i64 hi] 26)).alloc (.cells #[.int .i64 o, .int .i64 f] 34)).cell? ⟨w.heap.size + 1, 0, none⟩ = some (.int .i64 o) := by simp [go_sem]
  have c1_1 : ((w.alloc (.cells #[.int .i64 N, .int .i64 lo, .int .i64 hi] 26)).alloc (.cells #[.int .i64 o, .int .i64 f] 34)).cell? ⟨w.heap.size + 1, 1, none⟩ = some (.int .i64 f) := by simp [go_sem]
  have t0 := keepsB hB0 hT.1
  have t1 := keepsB hB0 hT.2.1
  have t2 := keepsB hB0 hT.2.2
  clear hT
  go_enter Tryd.func12, Tryd.ntmps12
  go_wp2_with fail
  refine (alive_any _ (tabD_mk t0 t1 t2)).mono ?_
  rintro e w1 ⟨rfl, hB1⟩
  have hBz : Below w.heap.size w w1 := hB0.trans (hB1.mono (by simp; omega))
  have hzz : w.heap.size ≤ w1.heap.size := hBz.size
  have hzn : w.heap.size + 2 ≤ w1.heap.size := by have := hB1.size; simp at this; omega
  have kc0_0 := keepsB hB1 c0_0
  have kc0_1 := keepsB hB1 c0_1
  have kc0_2 := keepsB hB1 c0_2
  have kc1_0 := keepsB hB1 c1_0
  have kc1_1 := keepsB hB1 c1_1
  have kt0 := keepsB hB1 t0
  have kt1 := keepsB hB1 t1
  have kt2 := keepsB hB1 t2
  clear hB0 hB1 t0 t1 t2 c0_0 c0_1 c0_2 c1_0 c1_1
  generalize hbb : w.heap.size = bb at *
  have HBB := Lib.hid hbb
  clear hbb
  have HB_w1 := Lib.hid (show Below bb w w1 from hBz)
  have hz_w1 : bb ≤ w1.heap.size := hzz
  have FA : ∀ W, Free.Bel w1 W → W.cell? ⟨0, 0, none⟩ = some (dblF 130) ∧ W.cell? ⟨0, 1, none⟩ = some (dblF 131) ∧ W.cell? ⟨0, 2, none⟩ = some (dblF 132) ∧ W.cell? ⟨bb, 0, none⟩ = some (.int .i64 N) ∧ W.cell? ⟨bb, 1, none⟩ = some (.int .i64 lo) ∧ W.cell? ⟨bb, 2, none⟩ = some (.int .i64 hi) ∧ W.cell? ⟨bb + 1, 0, none⟩ = some (.int .i64 o) ∧ W.cell? ⟨bb + 1, 1, none⟩ = some (.int .i64 f) ∧ bb + 2 ≤ W.heap.size ∧ bb ≤ W.heap.size := fun W hW => ⟨keepsB hW kt0, keepsB hW kt1, keepsB hW kt2, keepsB hW kc0_0, keepsB hW kc0_1, keepsB hW kc0_2, keepsB hW kc1_0, keepsB hW kc1_1, Nat.le_trans hzn hW.size, Nat.le_trans hz_w1 hW.size⟩
  have KR : Free.Bel w1 w1 := Free.Bel.refl _
  clear hBz hzz kt0 kt1 kt2 kc0_0 kc0_1 kc0_2 kc1_0 kc1_1 hzn
  go_wp2_with fail
  refine (cargoR_any N lo hi true _ (cargoB_ok hc)).mono ?_
  rintro e w2 ⟨rfl, hB⟩
  have HB_w2 := Lib.hid (HB_w1.out.trans ((hB).mono hz_w1))
  have hz_w2 : bb ≤ w2.heap.size := Nat.le_trans hz_w1 (hB).size
  have FN := fun (W : World) (hW : Free.Bel w2 W) => FA W (bt (hB) hW)
  clear FA HB_w1 hz_w1 KR
  have FA := FN
  clear FN
  have KR := Free.Bel.refl w2
  clear hB
  go_wp2_with fail
  refine (drawR_any N lo hi o f true _ (drawB_ok hd)).mono ?_
  rintro e w3 ⟨rfl, hB⟩
  have HB_w3 := Lib.hid (HB_w2.out.trans ((hB).mono hz_w2))
  have hz_w3 : bb ≤ w3.heap.size := Nat.le_trans hz_w2 (hB).size
  have FN := fun (W : World) (hW : Free.Bel w3 W) => FA W (bt (hB) hW)
  clear FA HB_w2 hz_w2 KR
  have FA := FN
  clear FN
  have KR := Free.Bel.refl w3
  clear hB
  go_wp2_with fail
  refine (can_v N lo hi o f _ _ HCAN).mono ?_
  rintro e w4 ⟨rfl, hB⟩
  have HB_w4 := Lib.hid (HB_w3.out.trans ((hB).mono hz_w3))
  have hz_w4 : bb ≤ w4.heap.size := Nat.le_trans hz_w3 (hB).size
  have FN := fun (W : World) (hW : Free.Bel w4 W) => FA W (bt (hB) hW)
  clear FA HB_w3 hz_w3 KR
  have FA := FN
  clear FN
  have KR := Free.Bel.refl w4
  clear hB
  have K1 : Free.Bel w4 (w4.alloc (.cells #[.int .i64 sx, .int .i64 sy] 24)) := Bel.allocT (Free.Bel.refl _) _
  have K2 : Free.Bel w4 ((w4.alloc (.cells #[.int .i64 sx, .int .i64 sy] 24)).alloc (.cells #[.int .i64 0, .int .i64 0] 24)) := Bel.allocT K1 _
  have K3 : Free.Bel w4 (((w4.alloc (.cells #[.int .i64 sx, .int .i64 sy] 24)).alloc (.cells #[.int .i64 0, .int .i64 0] 24)).alloc (.cells #[.int .i64 0, .int .i64 0] 24)) := Bel.allocT K2 _
  have k0 : decide (o < N) = true := decide_eq_true (by omega)
  have k1 : decide (sx < lo) = false := decide_eq_false (by omega)
  have k2 : decide (sy < sx) = false := decide_eq_false (by omega)
  have k3 : decide (hi < sy) = false := decide_eq_false (by omega)
  go_wp2_with fail
  have hwo : IntKind.i64.wrap (o + 1) = o + 1 := IntWalk.i64_in _ (by omega)
  have hwf : IntKind.i64.wrap (f + 1) = f + 1 := IntWalk.i64_in _ (by omega)
  clear K1 K2 k1 k2 k3
  have n0 : Two w4.heap.size (.int .i64 (sx)) (.int .i64 (sy)) (((w4.alloc (.cells #[.int .i64 sx, .int .i64 sy] 24)).alloc (.cells #[.int .i64 0, .int .i64 0] 24)).alloc (.cells #[.int .i64 0, .int .i64 0] 24)) := ⟨by simp [go_sem], by simp [go_sem], by simp [go_sem], by simp [go_sem]⟩
  have n1 : Two (w4.heap.size + 1) (.int .i64 0) (.int .i64 0) (((w4.alloc (.cells #[.int .i64 sx, .int .i64 sy] 24)).alloc (.cells #[.int .i64 0, .int .i64 0] 24)).alloc (.cells #[.int .i64 0, .int .i64 0] 24)) := ⟨by simp [go_sem], by simp [go_sem], by simp [go_sem], by simp [go_sem]⟩
  have n2 : Two (w4.heap.size + 1 + 1) (.int .i64 0) (.int .i64 0) (((w4.alloc (.cells #[.int .i64 sx, .int .i64 sy] 24)).alloc (.cells #[.int .i64 0, .int .i64 0] 24)).alloc (.cells #[.int .i64 0, .int .i64 0] 24)) := ⟨by simp [go_sem], by simp [go_sem], by simp [go_sem], by simp [go_sem]⟩
  have hsz : w4.heap.size + 3 ≤ ((((w4.alloc (.cells #[.int .i64 sx, .int .i64 sy] 24)).alloc (.cells #[.int .i64 0, .int .i64 0] 24)).alloc (.cells #[.int .i64 0, .int .i64 0] 24))).heap.size := by simp
  generalize (((w4.alloc (.cells #[.int .i64 sx, .int .i64 sy] 24)).alloc (.cells #[.int .i64 0, .int .i64 0] 24)).alloc (.cells #[.int .i64 0, .int .i64 0] 24)) = w5 at *
  obtain ⟨g, hg⟩ : ∃ x, x = w4.heap.size := ⟨_, rfl⟩
  rw [← hg] at n0 n1 n2 hsz ⊢
  have hgl : w4.heap.size ≤ g := by omega
  clear hg
  have hF : ∀ W, KeptX (g + 3) [g + 1] w5.drew W → Free.Bel w4 W := fun W hW => KeptX.below (Below.drew K3) hW (by omega) (by intro r hr; simp at hr; omega) K3.size
  refine Free2.wp_free (R := KeptX (g + 3) [g + 1]) (J := Fx 11 (g + 1) (.int .i64 0) (.int .i64 0) (.int .i64 cx) (.int .i64 cy)) (by kernel_rfl) (by kernel_rfl) (KeptX.refl _ _) (fun _ _ _ => KeptX.trans) (Fx.start ⟨n1.c0, n1.c1, n1.f0, n1.f1⟩) ?_
  refine Free2.Chain.ex ?_ 0 rfl [] [2] (by kernel_rfl) (by kernel_rfl) rfl (KeptX.refl _ _) (fun X W v h => Fx.skip h 0 v (show (0 : Nat) ≠ 11 by decide)) ?_ ?_
  rotate_left
  · (intro ev W hb hR hO hD; have hS := hF W hR; obtain ⟨hb1, hb2, hb3⟩ := hb; simp only [Free.AllDeps, Free.AllOuts, Free.At, al1, al2, al3, al4, al5, and_true] at hO hD; go_simp; rfl)
  simp only [an1, an2]
  refine Free2.Chain.ex ?_ 1 rfl [] [3] (by kernel_rfl) (by kernel_rfl) rfl (KeptX.refl _ _) (fun X W v h => Fx.skip h 1 v (show (1 : Nat) ≠ 11 by decide)) ?_ ?_
  rotate_left
  · (intro ev W hb hR hO hD; have hS := hF W hR; obtain ⟨hb1, hb2, hb3⟩ := hb; simp only [Free.AllDeps, Free.AllOuts, Free.At, al1, al2, al3, al4, al5, and_true] at hO hD; go_simp; rfl)
  simp only [an1, an2]
  refine Free2.Chain.ex ?_ 2 rfl [(1, 84)] [] (by kernel_rfl) (by kernel_rfl) rfl (KeptX.refl _ _) (fun X W v h => Fx.skip h 2 v (show (2 : Nat) ≠ 11 by decide)) ?_ ?_
  rotate_left
  · (intro ev W hb hR hO hD; have hS := hF W hR; obtain ⟨hb1, hb2, hb3⟩ := hb; simp only [Free.AllDeps, Free.AllOuts, Free.At, al1, al2, al3, al4, al5, and_true] at hO hD; go_simp; rfl)
  simp only [an1, an2]
  refine Free2.Chain.ex ?_ 3 rfl [(2, 85)] [] (by kernel_rfl) (by kernel_rfl) rfl (KeptX.refl _ _) (fun X W v h => Fx.skip h 3 v (show (3 : Nat) ≠ 11 by decide)) ?_ ?_
  rotate_left
  · (intro ev W hb hR hO hD; have hS := hF W hR; obtain ⟨hb1, hb2, hb3⟩ := hb; simp only [Free.AllDeps, Free.AllOuts, Free.At, al1, al2, al3, al4, al5, and_true] at hO hD; go_simp; rfl)
  simp only [an1, an2]
  refine Free2.Chain.ex ?_ 4 rfl [] [3] (by kernel_rfl) (by kernel_rfl) rfl (KeptX.refl _ _) (fun X W v h => Fx.skip h 4 v (show (4 : Nat) ≠ 11 by decide)) ?_ ?_
  rotate_left
  · (intro ev W hb hR hO hD; have hS := hF W hR; obtain ⟨hb1, hb2, hb3⟩ := hb; simp only [Free.AllDeps, Free.AllOuts, Free.At, al1, al2, al3, al4, al5, and_true] at hO hD; go_simp; rfl)
  simp only [an1, an2]
  refine Free2.Chain.ex ?_ 5 rfl [(4, 87)] [] (by kernel_rfl) (by kernel_rfl) rfl (KeptX.refl _ _) (fun X W v h => Fx.skip h 5 v (show (5 : Nat) ≠ 11 by decide)) ?_ ?_
  rotate_left
  · (intro ev W hb hR hO hD; have hS := hF W hR; obtain ⟨hb1, hb2, hb3⟩ := hb; simp only [Free.AllDeps, Free.AllOuts, Free.At, al1, al2, al3, al4, al5, and_true] at hO hD; go_simp; rfl)
  simp only [an1, an2]
  refine Free2.Chain.pr (fun v _ => v = i2 (o + 1) (f)) 6 rfl [(3, 86), (5, 88)] [] (by kernel_rfl) (by kernel_rfl) rfl (fun _ _ _ _ h => h) ?_ ?_
  · (intro ev W X hb hR hO hD hj hx hax; have hS := hF W hR; obtain ⟨hb1, hb2, hb3⟩ := hb; simp only [Free.AllDeps, Free.AllOuts, Free.At, al1, al2, al3, al4, al5, and_true] at hO hD; simp only [Free2.AllX, and_true] at hax; go_simp; refine yields_enter ?_; (with_reducible refine (drawn_any (o + 1) (f) _).mono ?_); rintro e W2 ⟨rfl, hB2⟩; exact ⟨_, rfl, KeptX.of_kept (.of_below hB2), rfl, (hj.kept (mb := g + 3) (.of_below hB2) (by omega)).skip 6 _ (by decide)⟩)
  simp only [an1, an2]
  refine Free2.Chain.pr (fun v _ => v = .tuple #[i2 cx cy, .int .i64 ec]) 7 rfl [(0, 83), (6, 89), (6, 89)] [] (by kernel_rfl) (by kernel_rfl) rfl (fun _ _ _ _ h => h) ?_ ?_
  · (intro ev W X hb hR hO hD hj hx hax; have hS := hF W hR; obtain ⟨hb1, hb2, hb3⟩ := hb; simp only [Free.AllDeps, Free.AllOuts, Free.At, al1, al2, al3, al4, al5, and_true] at hO hD; simp only [Free2.AllX, and_true] at hax; go_simp; refine yields_enter ?_; (with_reducible refine (can_v N lo hi (o + 1) (f) _ _ HC1).mono ?_); rintro e W2 ⟨rfl, hB2⟩; exact ⟨_, rfl, KeptX.of_kept (.of_below hB2), rfl, (hj.kept (mb := g + 3) (.of_below hB2) (by omega)).skip 7 _ (by decide)⟩)
  simp only [an1, an2]
  refine Free2.Chain.ex ?_ 8 rfl [(7, 90)] [] (by kernel_rfl) (by kernel_rfl) rfl (KeptX.refl _ _) (fun X W v h => Fx.skip h 8 v (show (8 : Nat) ≠ 11 by decide)) ?_ ?_
  rotate_left
  · (intro ev W hb hR hO hD; have hS := hF W hR; obtain ⟨hb1, hb2, hb3⟩ := hb; simp only [Free.AllDeps, Free.AllOuts, Free.At, al1, al2, al3, al4, al5, and_true] at hO hD; go_simp; rfl)
  simp only [an1, an2]
  refine Free2.Chain.ex ?_ 9 rfl [(8, 82)] [] (by kernel_rfl) (by kernel_rfl) rfl (KeptX.refl _ _) (fun X W v h => Fx.skip h 9 v (show (9 : Nat) ≠ 11 by decide)) ?_ ?_
  rotate_left
  · (intro ev W hb hR hO hD; have hS := hF W hR; obtain ⟨hb1, hb2, hb3⟩ := hb; simp only [Free.AllDeps, Free.AllOuts, Free.At, al1, al2, al3, al4, al5, and_true] at hO hD; go_simp; rfl)
  simp only [an1, an2]
  refine Free2.Chain.ex ?_ 10 rfl [(8, 82)] [] (by kernel_rfl) (by kernel_rfl) rfl (KeptX.refl _ _) (fun X W v h => Fx.skip h 10 v (show (10 : Nat) ≠ 11 by decide)) ?_ ?_
  rotate_left
  · (intro ev W hb hR hO hD; have hS := hF W hR; obtain ⟨hb1, hb2, hb3⟩ := hb; simp only [Free.AllDeps, Free.AllOuts, Free.At, al1, al2, al3, al4, al5, and_true] at hO hD; go_simp; rfl)
  simp only [an1, an2]
  refine Free2.Chain.pr (fun _ _ => True) 11 rfl [(9, 91), (7, 90), (0, 83), (1, 84), (2, 85), (3, 86), (4, 87), (5, 88), (6, 89), (7, 90), (8, 82), (9, 91)] [9] (by kernel_rfl) (by kernel_rfl) rfl (fun _ _ _ _ h => h) ?_ ?_
  · (intro ev W X hb hR hO hD hj hx hax; have hS := hF W hR; obtain ⟨hb1, hb2, hb3⟩ := hb; simp only [Free.AllDeps, Free.AllOuts, Free.At, al1, al2, al3, al4, al5, and_true] at hO hD; simp only [Free2.AllX, and_true] at hax; obtain ⟨ht, hkx, hjj⟩ := hj.at_ (mb := g + 3) (rs := [g + 1]) (by simp) (by omega) hx; have t0 := ht.c0; have t1 := ht.c1; have t2 := ht.f0; have t3 := ht.f1; go_simp; exact ⟨hkx, hjj _⟩)
  simp only [an1, an2]
  refine Free2.Chain.ex ?_ 12 rfl [(10, 92), (0, 83), (1, 84), (2, 85), (3, 86), (4, 87), (5, 88), (6, 89), (7, 90), (8, 82), (9, 91), (10, 92)] [] (by kernel_rfl) (by kernel_rfl) rfl (KeptX.refl _ _) (fun X W v h => Fx.skip h 12 v (show (12 : Nat) ≠ 11 by decide)) ?_ ?_
  rotate_left
  · (intro ev W hb hR hO hD; have hS := hF W hR; obtain ⟨hb1, hb2, hb3⟩ := hb; simp only [Free.AllDeps, Free.AllOuts, Free.At, al1, al2, al3, al4, al5, and_true] at hO hD; go_simp; rfl)
  simp only [an1, an2]
  intro xs w6 hR hV hX
  obtain ⟨X, hj, hxx⟩ := hX
  have ee := hxx 11 (show (11 : Nat) < 13 by decide)
  have TA := hj.new (by rw [ee]; simp)
  simp only [Free.AllV, Free.At, List.length_cons, List.length_nil, Nat.reduceAdd, List.getElem?_cons_succ, List.getElem?_cons_zero, true_and, and_true] at hV
  simp only [Free.putsFrom, Act.put, Nat.zero_add, Nat.reduceAdd, hV, List.setIfInBounds_toArray, List.set_cons_succ, List.set_cons_zero]
  have hN := hF w6 hR
  have n0 := Two.keptX (w := w5.drew) (mb := g + 3) (rs := [g + 1]) ⟨n0.c0, n0.c1, n0.f0, n0.f1⟩ hR (by omega) (by simp; try omega)
  have n2 := Two.keptX (w := w5.drew) (mb := g + 3) (rs := [g + 1]) ⟨n2.c0, n2.c1, n2.f0, n2.f1⟩ hR (by omega) (by simp; try omega)
  have n1 := TA
  have hsz : g + 3 ≤ w6.heap.size := Nat.le_trans hsz hR.size
  have K3 := hN
  clear hN TA ee hj hxx hV hR hF
  go_wp2_with fail
  have hF : ∀ W, KeptX (g + 3) [g + 1 + 1] w6.drew W → Free.Bel w4 W := fun W hW => KeptX.below (Below.drew K3) hW (by omega) (by intro r hr; simp at hr; omega) K3.size
  refine Free2.wp_free (R := KeptX (g + 3) [g + 1 + 1]) (J := Fx 12 (g + 1 + 1) (.int .i64 0) (.int .i64 0) (.int .i64 dx) (.int .i64 dy)) (by kernel_rfl) (by kernel_rfl) (KeptX.refl _ _) (fun _ _ _ => KeptX.trans) (Fx.start ⟨n2.c0, n2.c1, n2.f0, n2.f1⟩) ?_
  refine Free2.Chain.ex ?_ 0 rfl [] [2] (by kernel_rfl) (by kernel_rfl) rfl (KeptX.refl _ _) (fun X W v h => Fx.skip h 0 v (show (0 : Nat) ≠ 12 by decide)) ?_ ?_
  rotate_left
  · (intro ev W hb hR hO hD; have hS := hF W hR; obtain ⟨hb1, hb2, hb3⟩ := hb; simp only [Free.AllDeps, Free.AllOuts, Free.At, al1, al2, al3, al4, al5, and_true] at hO hD; go_simp; rfl)
  simp only [an1, an2]
  refine Free2.Chain.ex ?_ 1 rfl [] [3] (by kernel_rfl) (by kernel_rfl) rfl (KeptX.refl _ _) (fun X W v h => Fx.skip h 1 v (show (1 : Nat) ≠ 12 by decide)) ?_ ?_
  rotate_left
  · (intro ev W hb hR hO hD; have hS := hF W hR; obtain ⟨hb1, hb2, hb3⟩ := hb; simp only [Free.AllDeps, Free.AllOuts, Free.At, al1, al2, al3, al4, al5, and_true] at hO hD; go_simp; rfl)
  simp only [an1, an2]
  refine Free2.Chain.ex ?_ 2 rfl [(1, 95)] [] (by kernel_rfl) (by kernel_rfl) rfl (KeptX.refl _ _) (fun X W v h => Fx.skip h 2 v (show (2 : Nat) ≠ 12 by decide)) ?_ ?_
  rotate_left
  · (intro ev W hb hR hO hD; have hS := hF W hR; obtain ⟨hb1, hb2, hb3⟩ := hb; simp only [Free.AllDeps, Free.AllOuts, Free.At, al1, al2, al3, al4, al5, and_true] at hO hD; go_simp; rfl)
  simp only [an1, an2]
  refine Free2.Chain.ex ?_ 3 rfl [(2, 96)] [] (by kernel_rfl) (by kernel_rfl) rfl (KeptX.refl _ _) (fun X W v h => Fx.skip h 3 v (show (3 : Nat) ≠ 12 by decide)) ?_ ?_
  rotate_left
  · (intro ev W hb hR hO hD; have hS := hF W hR; obtain ⟨hb1, hb2, hb3⟩ := hb; simp only [Free.AllDeps, Free.AllOuts, Free.At, al1, al2, al3, al4, al5, and_true] at hO hD; go_simp; rfl)
  simp only [an1, an2]
  refine Free2.Chain.ex ?_ 4 rfl [] [3] (by kernel_rfl) (by kernel_rfl) rfl (KeptX.refl _ _) (fun X W v h => Fx.skip h 4 v (show (4 : Nat) ≠ 12 by decide)) ?_ ?_
  rotate_left
  · (intro ev W hb hR hO hD; have hS := hF W hR; obtain ⟨hb1, hb2, hb3⟩ := hb; simp only [Free.AllDeps, Free.AllOuts, Free.At, al1, al2, al3, al4, al5, and_true] at hO hD; go_simp; rfl)
  simp only [an1, an2]
  refine Free2.Chain.ex ?_ 5 rfl [(4, 98)] [] (by kernel_rfl) (by kernel_rfl) rfl (KeptX.refl _ _) (fun X W v h => Fx.skip h 5 v (show (5 : Nat) ≠ 12 by decide)) ?_ ?_
  rotate_left
  · (intro ev W hb hR hO hD; have hS := hF W hR; obtain ⟨hb1, hb2, hb3⟩ := hb; simp only [Free.AllDeps, Free.AllOuts, Free.At, al1, al2, al3, al4, al5, and_true] at hO hD; go_simp; rfl)
  simp only [an1, an2]
  refine Free2.Chain.ex ?_ 6 rfl [(5, 99)] [] (by kernel_rfl) (by kernel_rfl) rfl (KeptX.refl _ _) (fun X W v h => Fx.skip h 6 v (show (6 : Nat) ≠ 12 by decide)) ?_ ?_
  rotate_left
  · (intro ev W hb hR hO hD; have hS := hF W hR; obtain ⟨hb1, hb2, hb3⟩ := hb; simp only [Free.AllDeps, Free.AllOuts, Free.At, al1, al2, al3, al4, al5, and_true] at hO hD; go_simp; rfl)
  simp only [an1, an2]
  refine Free2.Chain.pr (fun v _ => v = i2 (o + 1) (f + 1)) 7 rfl [(3, 97), (6, 100)] [] (by kernel_rfl) (by kernel_rfl) rfl (fun _ _ _ _ h => h) ?_ ?_
  · (intro ev W X hb hR hO hD hj hx hax; have hS := hF W hR; obtain ⟨hb1, hb2, hb3⟩ := hb; simp only [Free.AllDeps, Free.AllOuts, Free.At, al1, al2, al3, al4, al5, and_true] at hO hD; simp only [Free2.AllX, and_true] at hax; go_simp; refine yields_enter ?_; (with_reducible refine (drawn_any (o + 1) (f + 1) _).mono ?_); rintro e W2 ⟨rfl, hB2⟩; exact ⟨_, rfl, KeptX.of_kept (.of_below hB2), rfl, (hj.kept (mb := g + 3) (.of_below hB2) (by omega)).skip 7 _ (by decide)⟩)
  simp only [an1, an2]
  refine Free2.Chain.pr (fun v _ => v = .tuple #[i2 dx dy, .int .i64 ed]) 8 rfl [(0, 94), (7, 101), (7, 101)] [] (by kernel_rfl) (by kernel_rfl) rfl (fun _ _ _ _ h => h) ?_ ?_
  · (intro ev W X hb hR hO hD hj hx hax; have hS := hF W hR; obtain ⟨hb1, hb2, hb3⟩ := hb; simp only [Free.AllDeps, Free.AllOuts, Free.At, al1, al2, al3, al4, al5, and_true] at hO hD; simp only [Free2.AllX, and_true] at hax; go_simp; refine yields_enter ?_; (with_reducible refine (can_v N lo hi (o + 1) (f + 1) _ _ HC2).mono ?_); rintro e W2 ⟨rfl, hB2⟩; exact ⟨_, rfl, KeptX.of_kept (.of_below hB2), rfl, (hj.kept (mb := g + 3) (.of_below hB2) (by omega)).skip 8 _ (by decide)⟩)
  simp only [an1, an2]
  refine Free2.Chain.ex ?_ 9 rfl [(8, 102)] [] (by kernel_rfl) (by kernel_rfl) rfl (KeptX.refl _ _) (fun X W v h => Fx.skip h 9 v (show (9 : Nat) ≠ 12 by decide)) ?_ ?_
  rotate_left
  · (intro ev W hb hR hO hD; have hS := hF W hR; obtain ⟨hb1, hb2, hb3⟩ := hb; simp only [Free.AllDeps, Free.AllOuts, Free.At, al1, al2, al3, al4, al5, and_true] at hO hD; go_simp; rfl)
  simp only [an1, an2]
  refine Free2.Chain.ex ?_ 10 rfl [(9, 93)] [] (by kernel_rfl) (by kernel_rfl) rfl (KeptX.refl _ _) (fun X W v h => Fx.skip h 10 v (show (10 : Nat) ≠ 12 by decide)) ?_ ?_
  rotate_left
  · (intro ev W hb hR hO hD; have hS := hF W hR; obtain ⟨hb1, hb2, hb3⟩ := hb; simp only [Free.AllDeps, Free.AllOuts, Free.At, al1, al2, al3, al4, al5, and_true] at hO hD; go_simp; rfl)
  simp only [an1, an2]
  refine Free2.Chain.ex ?_ 11 rfl [(9, 93)] [] (by kernel_rfl) (by kernel_rfl) rfl (KeptX.refl _ _) (fun X W v h => Fx.skip h 11 v (show (11 : Nat) ≠ 12 by decide)) ?_ ?_
  rotate_left
  · (intro ev W hb hR hO hD; have hS := hF W hR; obtain ⟨hb1, hb2, hb3⟩ := hb; simp only [Free.AllDeps, Free.AllOuts, Free.At, al1, al2, al3, al4, al5, and_true] at hO hD; go_simp; rfl)
  simp only [an1, an2]
  refine Free2.Chain.pr (fun _ _ => True) 12 rfl [(10, 103), (8, 102), (0, 94), (1, 95), (2, 96), (3, 97), (4, 98), (5, 99), (6, 100), (7, 101), (8, 102), (9, 93), (10, 103)] [10] (by kernel_rfl) (by kernel_rfl) rfl (fun _ _ _ _ h => h) ?_ ?_
  · (intro ev W X hb hR hO hD hj hx hax; have hS := hF W hR; obtain ⟨hb1, hb2, hb3⟩ := hb; simp only [Free.AllDeps, Free.AllOuts, Free.At, al1, al2, al3, al4, al5, and_true] at hO hD; simp only [Free2.AllX, and_true] at hax; obtain ⟨ht, hkx, hjj⟩ := hj.at_ (mb := g + 3) (rs := [g + 1 + 1]) (by simp) (by omega) hx; have t0 := ht.c0; have t1 := ht.c1; have t2 := ht.f0; have t3 := ht.f1; go_simp; exact ⟨hkx, hjj _⟩)
  simp only [an1, an2]
  refine Free2.Chain.ex ?_ 13 rfl [(11, 104), (0, 94), (1, 95), (2, 96), (3, 97), (4, 98), (5, 99), (6, 100), (7, 101), (8, 102), (9, 93), (10, 103), (11, 104)] [] (by kernel_rfl) (by kernel_rfl) rfl (KeptX.refl _ _) (fun X W v h => Fx.skip h 13 v (show (13 : Nat) ≠ 12 by decide)) ?_ ?_
  rotate_left
  · (intro ev W hb hR hO hD; have hS := hF W hR; obtain ⟨hb1, hb2, hb3⟩ := hb; simp only [Free.AllDeps, Free.AllOuts, Free.At, al1, al2, al3, al4, al5, and_true] at hO hD; go_simp; rfl)
  simp only [an1, an2]
  intro xs w7 hR hV hX
  obtain ⟨X, hj, hxx⟩ := hX
  have ee := hxx 12 (show (12 : Nat) < 14 by decide)
  have TA := hj.new (by rw [ee]; simp)
  simp only [Free.AllV, Free.At, List.length_cons, List.length_nil, Nat.reduceAdd, List.getElem?_cons_succ, List.getElem?_cons_zero, true_and, and_true] at hV
  simp only [Free.putsFrom, Act.put, Nat.zero_add, Nat.reduceAdd, hV, List.setIfInBounds_toArray, List.set_cons_succ, List.set_cons_zero]
  have hN := hF w7 hR
  have n0 := Two.keptX (w := w6.drew) (mb := g + 3) (rs := [g + 1 + 1]) ⟨n0.c0, n0.c1, n0.f0, n0.f1⟩ hR (by omega) (by simp; try omega)
  have n1 := Two.keptX (w := w6.drew) (mb := g + 3) (rs := [g + 1 + 1]) ⟨n1.c0, n1.c1, n1.f0, n1.f1⟩ hR (by omega) (by simp; try omega)
  have n2 := TA
  have hsz : g + 3 ≤ w7.heap.size := Nat.le_trans hsz hR.size
  have K3 := hN
  clear hN TA ee hj hxx hV hR hF
  go_wp2_with fail
  clear hsz
  have hN := K3
  clear K3
  have n00 := n0.c0
  have n01 := n0.c1
  clear n0
  have n10 := n1.c0
  have n11 := n1.c1
  clear n1
  have n20 := n2.c0
  have n21 := n2.c1
  clear n2
  clear hgl
  have HB_w7 := Lib.hid (HB_w4.out.trans ((hN).mono hz_w4))
  have hz_w7 : bb ≤ w7.heap.size := Nat.le_trans hz_w4 (hN).size
  have FN := fun (W : World) (hW : Free.Bel w7 W) => And.intro (keepsB hW n00) (And.intro (keepsB hW n01) (And.intro (keepsB hW n10) (And.intro (keepsB hW n11) (And.intro (keepsB hW n20) (And.intro (keepsB hW n21) (FA W (bt (hN) hW)))))))
  clear FA HB_w4 hz_w4 KR
  have FA := FN
  clear FN
  have KR := Free.Bel.refl w7
  clear hN n00 n01 n10 n11 n20 n21
  have hcp := chI_pos N o (by omega) (by omega) (by omega) (by omega)
  go_loopw [13] (fun i wr => ∃ j : Nat, j ≤ (hi - lo + 1).toNat ∧ i = .int .i64 (lo + j) ∧ Free.Bel w7 wr) (fun i _ => (hi - lo + 1).toNat - (intOf i - lo).toNat)
  case atStart => exact ⟨0, by omega, by simp, Free.Bel.refl _⟩
  case round =>
    obtain ⟨j, hj, rfl, HKr⟩ := hrel
    have HB_wr := Lib.hid (HB_w7.out.trans ((HKr).mono hz_w7))
    have hz_wr : bb ≤ wr.heap.size := Nat.le_trans hz_w7 (HKr).size
    have FN := fun (W : World) (hW : Free.Bel wr W) => FA W (bt (HKr) hW)
    clear FA HB_w7 hz_w7 KR
    have FA := FN
    clear FN
    have KR := Free.Bel.refl wr
    have HWR : Free.Bel wr wr := Free.Bel.refl _
    have HL_wr : Free.Bel w7 wr := HKr
    clear HKr
    by_cases hlt : j < (hi - lo + 1).toNat
    · have hjm : lo + (j : Int) ≤ hi := by omega
      obtain ⟨n, hn⟩ : ∃ n, lo + (j : Int) = n := ⟨_, rfl⟩
      have hnb : lo ≤ n ∧ n ≤ hi := by omega
      obtain ⟨p, q, hpq⟩ : ∃ p q, partV (waysI N n o f).toNat (chI N o).toNat = i2 p q := ⟨_, _, rfl⟩
      have HP := Lib.hid hpq
      have hwl := waysI_le N n o f (by omega) (by omega) (by omega) (by omega)
      have hp0 := part_pos _ _ p q hwl.1 (by omega) hpq
      have hw0 := waysI_pos N n o f (by omega) (by omega) (by omega) (by omega)
      have hp1 : decide (0 < p) = decide (f ≤ n ∧ o - f ≤ N - n) := by rw [hp0, decide_eq_decide]; exact hw0
      clear hpq hwl hp0 hw0
      have hn2 : IntKind.i64.wrap (n + 1) = lo + ((j + 1 : Nat) : Int) := by rw [IntWalk.i64_in _ (by omega)]; omega
      have hb := HIS.out n hnb.1 hnb.2
      rw [hn]
      have HHN := Lib.hid hn
      clear hn
      by_cases hab : f ≤ n ∧ o - f ≤ N - n
      · skip
        obtain ⟨hb0, hb9⟩ := hb.1 hab
        rcases hb9 with hb1 | ⟨hb1, hb2⟩
        · skip
          skip
          have hp2 : decide (0 < p) = true := hp1.trans (decide_eq_true hab)
          clear hp1
          have HB0 := Lib.hid (congrArg Value.bool hb0)
          have HB1 := Lib.hid (congrArg Value.bool hb1)
          clear hb0 hb1
          go_wp2_with fail
          refine (chance_ok N lo hi n o f p q _ hc hd hnb HP).mono ?_
          rintro e w8 ⟨rfl, hB⟩
          have HB_w8 := Lib.hid (HB_wr.out.trans ((hB).mono hz_wr))
          have hz_w8 : bb ≤ w8.heap.size := Nat.le_trans hz_wr (hB).size
          have HL_w8 : Free.Bel w7 w8 := bt HL_wr (hB)
          clear HL_wr
          have HWR : Free.Bel wr w8 := bt HWR (hB)
          have FN := fun (W : World) (hW : Free.Bel w8 W) => FA W (bt (hB) hW)
          clear FA HB_wr hz_wr KR
          have FA := FN
          clear FN
          have KR := Free.Bel.refl w8
          clear hB
          have KA0 : Free.Bel w8 (w8.alloc (.cells #[.int .i64 p, .int .i64 q] 29)) := Bel.allocT (Free.Bel.refl _) _
          go_wp2_with fail
          clear KA0
          have hN : Free.Bel w8 (w8.alloc (.cells #[.int .i64 p, .int .i64 q] 29)) := (Bel.allocT (Free.Bel.refl w8) _)
          have n_g80_0 : (w8.alloc (.cells #[.int .i64 p, .int .i64 q] 29)).cell? ⟨w8.heap.size, 0, none⟩ = some (.int .i64 p) := by simp [go_sem]
          have n_g80_1 : (w8.alloc (.cells #[.int .i64 p, .int .i64 q] 29)).cell? ⟨w8.heap.size, 1, none⟩ = some (.int .i64 q) := by simp [go_sem]
          generalize (w8.alloc (.cells #[.int .i64 p, .int .i64 q] 29)) = w9 at *
          obtain ⟨g80, hgz⟩ : ∃ x, x = w8.heap.size := ⟨_, rfl⟩
          rw [← hgz] at n_g80_0 n_g80_1 ⊢
          clear hgz
          have HB_w9 := Lib.hid (HB_w8.out.trans ((hN).mono hz_w8))
          have hz_w9 : bb ≤ w9.heap.size := Nat.le_trans hz_w8 (hN).size
          have HL_w9 : Free.Bel w7 w9 := bt HL_w8 (hN)
          clear HL_w8
          have HWR : Free.Bel wr w9 := bt HWR (hN)
          have FN := fun (W : World) (hW : Free.Bel w9 W) => And.intro (keepsB hW n_g80_0) (And.intro (keepsB hW n_g80_1) (FA W (bt (hN) hW)))
          clear FA HB_w8 hz_w8 KR
          have FA := FN
          clear FN
          have KR := Free.Bel.refl w9
          clear hN n_g80_0 n_g80_1
          have hF : ∀ W, Free.Bel w9.drew W → Free.Bel w9 W := fun W hW => bt (Bel.drewT (Free.Bel.refl _)) hW
          refine Free.wp_free (R := Free.Bel) (by kernel_rfl) (by kernel_rfl) Free.Bel.refl Free.Bel.trans ?_
          refine Free.Chain.ex ?_ [] [15] (by kernel_rfl) (by kernel_rfl) rfl Free.Bel.refl ?_ ?_
          rotate_left 2
          simp only [an1, an2]
          refine Free.Chain.ex ?_ [(0, 122)] [] (by kernel_rfl) (by kernel_rfl) rfl Free.Bel.refl ?_ ?_
          rotate_left 2
          simp only [an1, an2]
          refine Free.Chain.ex ?_ [(1, 123)] [] (by kernel_rfl) (by kernel_rfl) rfl Free.Bel.refl ?_ ?_
          rotate_left 2
          simp only [an1, an2]
          rotate_left
          iterate 3 (rotate_left; intro ev W hb hR hO hD; have hS := hF W hR; obtain ⟨hb1, hb2, hb3⟩ := hb; simp only [Free.AllDeps, Free.AllOuts, Free.At, al1, al2, al3, al4, al5, and_true] at hO hD; go_simp; rfl)
          refine Free.Chain.exG ?_ [(2, 124)] [8] 2 false 124 (by kernel_rfl) (by kernel_rfl) rfl (by kernel_rfl) Free.Bel.refl ?_ ?_
          rotate_left 2
          simp only [an1, an2]
          refine Free.Chain.exG ?_ [(2, 124)] [6] 2 false 124 (by kernel_rfl) (by kernel_rfl) rfl (by kernel_rfl) Free.Bel.refl ?_ ?_
          rotate_left 2
          simp only [an1, an2]
          refine Free.Chain.exG ?_ [(2, 124)] [7] 2 false 124 (by kernel_rfl) (by kernel_rfl) rfl (by kernel_rfl) Free.Bel.refl ?_ ?_
          rotate_left 2
          simp only [an1, an2]
          refine Free.Chain.exG ?_ [(2, 124)] [13] 2 false 124 (by kernel_rfl) (by kernel_rfl) rfl (by kernel_rfl) Free.Bel.refl ?_ ?_
          rotate_left 2
          simp only [an1, an2]
          rotate_left
          iterate 4 (rotate_left; intro ev W hb hR hO hD; have hS := hF W hR; obtain ⟨hb1, hb2, hb3⟩ := hb; simp only [Free.AllDeps, Free.AllOuts, Free.At, al1, al2, al3, al4, al5, and_true] at hO hD; refine ⟨by simp [hD], ?_⟩; go_simp; rfl)
          refine Free.Chain.prG (fun v _ => v = .bool true) [(3, 125), (4, 126), (5, 127), (6, 128), (2, 124), (2, 124)] [] 2 false 124 (by kernel_rfl) (by kernel_rfl) rfl (by kernel_rfl) (fun _ _ _ _ h => h) ?_ ?_
          · (intro ev W hb hR hO hD; have hS := hF W hR; obtain ⟨hb1, hb2, hb3⟩ := hb; simp only [Free.AllDeps, Free.AllOuts, Free.At, al1, al2, al3, al4, al5, and_true] at hO hD; refine ⟨by simp [hD], ?_⟩; go_simp; refine yields_enter ?_; (with_reducible refine (is_v sx sy 0 n (.bool true) _ HB0).mono ?_); rintro e W2 ⟨rfl, hB2⟩; exact ⟨_, rfl, hB2, rfl⟩)
          simp only [an1, an2]
          refine Free.Chain.exG ?_ [(2, 124)] [14] 2 false 124 (by kernel_rfl) (by kernel_rfl) rfl (by kernel_rfl) Free.Bel.refl ?_ ?_
          rotate_left 2
          simp only [an1, an2]
          refine Free.Chain.exG ?_ [(8, 130), (2, 124)] [] 2 false 124 (by kernel_rfl) (by kernel_rfl) rfl (by kernel_rfl) Free.Bel.refl ?_ ?_
          rotate_left 2
          simp only [an1, an2]
          refine Free.Chain.exG ?_ [(9, 131), (2, 124)] [] 2 false 124 (by kernel_rfl) (by kernel_rfl) rfl (by kernel_rfl) Free.Bel.refl ?_ ?_
          rotate_left 2
          simp only [an1, an2]
          refine Free.Chain.exG ?_ [(7, 129), (10, 132), (2, 124)] [] 2 false 124 (by kernel_rfl) (by kernel_rfl) rfl (by kernel_rfl) Free.Bel.refl ?_ ?_
          rotate_left 2
          simp only [an1, an2]
          rotate_left
          iterate 4 (rotate_left; intro ev W hb hR hO hD; have hS := hF W hR; obtain ⟨hb1, hb2, hb3⟩ := hb; simp only [Free.AllDeps, Free.AllOuts, Free.At, al1, al2, al3, al4, al5, and_true] at hO hD; refine ⟨by simp [hD], ?_⟩; go_simp; rfl)
          refine Free.Chain.ex ?_ [(2, 124), (11, 133)] [] (by kernel_rfl) (by kernel_rfl) rfl Free.Bel.refl ?_ ?_
          rotate_left 2
          simp only [an1, an2]
          rotate_left
          rotate_left
          · (intro ev W hb hR hO hD; have hS := hF W hR; obtain ⟨hb1, hb2, hb3⟩ := hb; simp only [Free.AllDeps, Free.AllOuts, Free.At, al1, al2, al3, al4, al5, and_true] at hO hD; go_simp; rfl)
          intro xs w10 hR hV
          simp only [Free.AllV, Free.At, List.length_cons, List.length_nil, Nat.reduceAdd, List.getElem?_cons_succ, List.getElem?_cons_zero, true_and, and_true] at hV
          simp only [Free.putsFrom, Act.put, Nat.zero_add, Nat.reduceAdd, hV, List.setIfInBounds_toArray, List.set_cons_succ, List.set_cons_zero]
          have hN := hF w10 hR
          clear hR hF
          have HB_w10 := Lib.hid (HB_w9.out.trans ((hN).mono hz_w9))
          have hz_w10 : bb ≤ w10.heap.size := Nat.le_trans hz_w9 (hN).size
          have HL_w10 : Free.Bel w7 w10 := bt HL_w9 (hN)
          clear HL_w9
          have HWR : Free.Bel wr w10 := bt HWR (hN)
          have FN := fun (W : World) (hW : Free.Bel w10 W) => FA W (bt (hN) hW)
          clear FA HB_w9 hz_w9 KR
          have FA := FN
          clear FN
          have KR := Free.Bel.refl w10
          clear hN hV
          go_wp2_with fail
          have hF : ∀ W, Free.Bel w10.drew W → Free.Bel w10 W := fun W hW => bt (Bel.drewT (Free.Bel.refl _)) hW
          refine Free.wp_free (R := Free.Bel) (by kernel_rfl) (by kernel_rfl) Free.Bel.refl Free.Bel.trans ?_
          refine Free.Chain.ex ?_ [] [3] (by kernel_rfl) (by kernel_rfl) rfl Free.Bel.refl ?_ ?_
          rotate_left 2
          simp only [an1, an2]
          refine Free.Chain.ex ?_ [(0, 135)] [] (by kernel_rfl) (by kernel_rfl) rfl Free.Bel.refl ?_ ?_
          rotate_left 2
          simp only [an1, an2]
          refine Free.Chain.ex ?_ [] [2] (by kernel_rfl) (by kernel_rfl) rfl Free.Bel.refl ?_ ?_
          rotate_left 2
          simp only [an1, an2]
          refine Free.Chain.ex ?_ [(2, 137)] [] (by kernel_rfl) (by kernel_rfl) rfl Free.Bel.refl ?_ ?_
          rotate_left 2
          simp only [an1, an2]
          refine Free.Chain.ex ?_ [(1, 136), (3, 138)] [] (by kernel_rfl) (by kernel_rfl) rfl Free.Bel.refl ?_ ?_
          rotate_left 2
          simp only [an1, an2]
          refine Free.Chain.ex ?_ [(4, 139)] [] (by kernel_rfl) (by kernel_rfl) rfl Free.Bel.refl ?_ ?_
          rotate_left 2
          simp only [an1, an2]
          rotate_left
          iterate 6 (rotate_left; intro ev W hb hR hO hD; have hS := hF W hR; obtain ⟨hb1, hb2, hb3⟩ := hb; simp only [Free.AllDeps, Free.AllOuts, Free.At, al1, al2, al3, al4, al5, and_true] at hO hD; go_simp; rfl)
          refine Free.Chain.exG ?_ [(5, 140)] [8] 5 true 140 (by kernel_rfl) (by kernel_rfl) rfl (by kernel_rfl) Free.Bel.refl ?_ ?_
          rotate_left 2
          simp only [an1, an2]
          refine Free.Chain.exG ?_ [(5, 140)] [6] 5 true 140 (by kernel_rfl) (by kernel_rfl) rfl (by kernel_rfl) Free.Bel.refl ?_ ?_
          rotate_left 2
          simp only [an1, an2]
          refine Free.Chain.exG ?_ [(5, 140)] [7] 5 true 140 (by kernel_rfl) (by kernel_rfl) rfl (by kernel_rfl) Free.Bel.refl ?_ ?_
          rotate_left 2
          simp only [an1, an2]
          refine Free.Chain.exG ?_ [(5, 140)] [13] 5 true 140 (by kernel_rfl) (by kernel_rfl) rfl (by kernel_rfl) Free.Bel.refl ?_ ?_
          rotate_left 2
          simp only [an1, an2]
          rotate_left
          iterate 4 (rotate_left; intro ev W hb hR hO hD; have hS := hF W hR; obtain ⟨hb1, hb2, hb3⟩ := hb; simp only [Free.AllDeps, Free.AllOuts, Free.At, al1, al2, al3, al4, al5, and_true] at hO hD; refine ⟨by simp [hD], ?_⟩; go_simp; rfl)
          refine Free.Chain.prG (fun v _ => v = .bool true) [(6, 141), (7, 142), (8, 143), (9, 144), (5, 140), (5, 140)] [] 5 true 140 (by kernel_rfl) (by kernel_rfl) rfl (by kernel_rfl) (fun _ _ _ _ h => h) ?_ ?_
          · (intro ev W hb hR hO hD; have hS := hF W hR; obtain ⟨hb1, hb2, hb3⟩ := hb; simp only [Free.AllDeps, Free.AllOuts, Free.At, al1, al2, al3, al4, al5, and_true] at hO hD; refine ⟨by simp [hD], ?_⟩; go_simp; refine yields_enter ?_; (with_reducible refine (is_v sx sy 0 n (.bool true) _ HB0).mono ?_); rintro e W2 ⟨rfl, hB2⟩; exact ⟨_, rfl, hB2, rfl⟩)
          simp only [an1, an2]
          refine Free.Chain.exG ?_ [(5, 140)] [8] 5 true 140 (by kernel_rfl) (by kernel_rfl) rfl (by kernel_rfl) Free.Bel.refl ?_ ?_
          rotate_left 2
          simp only [an1, an2]
          refine Free.Chain.exG ?_ [(5, 140)] [9] 5 true 140 (by kernel_rfl) (by kernel_rfl) rfl (by kernel_rfl) Free.Bel.refl ?_ ?_
          rotate_left 2
          simp only [an1, an2]
          refine Free.Chain.exG ?_ [(5, 140)] [11] 5 true 140 (by kernel_rfl) (by kernel_rfl) rfl (by kernel_rfl) Free.Bel.refl ?_ ?_
          rotate_left 2
          simp only [an1, an2]
          refine Free.Chain.exG ?_ [(5, 140)] [13] 5 true 140 (by kernel_rfl) (by kernel_rfl) rfl (by kernel_rfl) Free.Bel.refl ?_ ?_
          rotate_left 2
          simp only [an1, an2]
          rotate_left
          iterate 4 (rotate_left; intro ev W hb hR hO hD; have hS := hF W hR; obtain ⟨hb1, hb2, hb3⟩ := hb; simp only [Free.AllDeps, Free.AllOuts, Free.At, al1, al2, al3, al4, al5, and_true] at hO hD; refine ⟨by simp [hD], ?_⟩; go_simp; rfl)
          refine Free.Chain.prG (fun v _ => v = .bool true) [(11, 146), (12, 147), (13, 148), (14, 149), (10, 145), (5, 140)] [] 5 true 140 (by kernel_rfl) (by kernel_rfl) rfl (by kernel_rfl) (fun _ _ _ _ h => h) ?_ ?_
          · (intro ev W hb hR hO hD; have hS := hF W hR; obtain ⟨hb1, hb2, hb3⟩ := hb; simp only [Free.AllDeps, Free.AllOuts, Free.At, al1, al2, al3, al4, al5, and_true] at hO hD; refine ⟨by simp [hD], ?_⟩; go_simp; refine yields_enter ?_; (with_reducible refine (is_v cx cy ec n (.bool true) _ HB1).mono ?_); rintro e W2 ⟨rfl, hB2⟩; exact ⟨_, rfl, hB2, rfl⟩)
          simp only [an1, an2]
          refine Free.Chain.exG ?_ [(15, 150), (15, 150), (5, 140)] [] 5 true 140 (by kernel_rfl) (by kernel_rfl) rfl (by kernel_rfl) Free.Bel.refl ?_ ?_
          rotate_left 2
          simp only [an1, an2]
          rotate_left
          rotate_left
          · (intro ev W hb hR hO hD; have hS := hF W hR; obtain ⟨hb1, hb2, hb3⟩ := hb; simp only [Free.AllDeps, Free.AllOuts, Free.At, al1, al2, al3, al4, al5, and_true] at hO hD; refine ⟨by simp [hD], ?_⟩; go_simp; rfl)
          refine Free.Chain.no [(16, 151)] [8] 16 false 151 (by kernel_rfl) (by kernel_rfl) rfl (by kernel_rfl) ?_ ?_
          · (intro ev W hR hD; simp only [Free.AllDeps, Free.At, List.getElem?_cons_succ, List.getElem?_cons_zero, and_true] at hD; simp [hD])
          simp only [an1, an2]
          refine Free.Chain.no [(16, 151)] [10] 16 false 151 (by kernel_rfl) (by kernel_rfl) rfl (by kernel_rfl) ?_ ?_
          · (intro ev W hR hD; simp only [Free.AllDeps, Free.At, List.getElem?_cons_succ, List.getElem?_cons_zero, and_true] at hD; simp [hD])
          simp only [an1, an2]
          refine Free.Chain.no [(16, 151)] [12] 16 false 151 (by kernel_rfl) (by kernel_rfl) rfl (by kernel_rfl) ?_ ?_
          · (intro ev W hR hD; simp only [Free.AllDeps, Free.At, List.getElem?_cons_succ, List.getElem?_cons_zero, and_true] at hD; simp [hD])
          simp only [an1, an2]
          refine Free.Chain.no [(16, 151)] [13] 16 false 151 (by kernel_rfl) (by kernel_rfl) rfl (by kernel_rfl) ?_ ?_
          · (intro ev W hR hD; simp only [Free.AllDeps, Free.At, List.getElem?_cons_succ, List.getElem?_cons_zero, and_true] at hD; simp [hD])
          simp only [an1, an2]
          refine Free.Chain.no [(17, 152), (18, 153), (19, 154), (20, 155), (16, 151), (16, 151)] [] 16 false 151 (by kernel_rfl) (by kernel_rfl) rfl (by kernel_rfl) ?_ ?_
          · (intro ev W hR hD; simp only [Free.AllDeps, Free.At, List.getElem?_cons_succ, List.getElem?_cons_zero, and_true] at hD; simp [hD])
          simp only [an1, an2]
          refine Free.Chain.exG ?_ [(16, 151), (21, 156), (5, 140)] [] 5 true 140 (by kernel_rfl) (by kernel_rfl) rfl (by kernel_rfl) Free.Bel.refl ?_ ?_
          rotate_left 2
          simp only [an1, an2]
          refine Free.Chain.exG ?_ [(10, 145), (22, 157), (5, 140)] [] 5 true 140 (by kernel_rfl) (by kernel_rfl) rfl (by kernel_rfl) Free.Bel.refl ?_ ?_
          rotate_left 2
          simp only [an1, an2]
          rotate_left
          iterate 2 (rotate_left; intro ev W hb hR hO hD; have hS := hF W hR; obtain ⟨hb1, hb2, hb3⟩ := hb; simp only [Free.AllDeps, Free.AllOuts, Free.At, al1, al2, al3, al4, al5, and_true] at hO hD; refine ⟨by simp [hD], ?_⟩; go_simp; rfl)
          refine Free.Chain.ex ?_ [(5, 140), (23, 158)] [] (by kernel_rfl) (by kernel_rfl) rfl Free.Bel.refl ?_ ?_
          rotate_left 2
          simp only [an1, an2]
          rotate_left
          rotate_left
          · (intro ev W hb hR hO hD; have hS := hF W hR; obtain ⟨hb1, hb2, hb3⟩ := hb; simp only [Free.AllDeps, Free.AllOuts, Free.At, al1, al2, al3, al4, al5, and_true] at hO hD; go_simp; rfl)
          intro xs w11 hR hV
          simp only [Free.AllV, Free.At, List.length_cons, List.length_nil, Nat.reduceAdd, List.getElem?_cons_succ, List.getElem?_cons_zero, true_and, and_true] at hV
          simp only [Free.putsFrom, Act.put, Nat.zero_add, Nat.reduceAdd, hV, List.setIfInBounds_toArray, List.set_cons_succ, List.set_cons_zero]
          have hN := hF w11 hR
          clear hR hF
          have HB_w11 := Lib.hid (HB_w10.out.trans ((hN).mono hz_w10))
          have hz_w11 : bb ≤ w11.heap.size := Nat.le_trans hz_w10 (hN).size
          have HL_w11 : Free.Bel w7 w11 := bt HL_w10 (hN)
          clear HL_w10
          have HWR : Free.Bel wr w11 := bt HWR (hN)
          have FN := fun (W : World) (hW : Free.Bel w11 W) => FA W (bt (hN) hW)
          clear FA HB_w10 hz_w10 KR
          have FA := FN
          clear FN
          have KR := Free.Bel.refl w11
          clear hN hV
          go_wp2_with fail
          go_roundw
          case rel => exact ⟨j + 1, by omega, rfl, HL_w11⟩
          case measure => have := HHN.out; simp [intOf]; omega
        · skip
          skip
          have hp2 : decide (0 < p) = true := hp1.trans (decide_eq_true hab)
          clear hp1
          have HB0 := Lib.hid (congrArg Value.bool hb0)
          have HB1 := Lib.hid (congrArg Value.bool hb1)
          have HB2 := Lib.hid (congrArg Value.bool hb2)
          clear hb0 hb1 hb2
          go_wp2_with fail
          refine (chance_ok N lo hi n o f p q _ hc hd hnb HP).mono ?_
          rintro e w12 ⟨rfl, hB⟩
          have HB_w12 := Lib.hid (HB_wr.out.trans ((hB).mono hz_wr))
          have hz_w12 : bb ≤ w12.heap.size := Nat.le_trans hz_wr (hB).size
          have HL_w12 : Free.Bel w7 w12 := bt HL_wr (hB)
          clear HL_wr
          have HWR : Free.Bel wr w12 := bt HWR (hB)
          have FN := fun (W : World) (hW : Free.Bel w12 W) => FA W (bt (hB) hW)
          clear FA HB_wr hz_wr KR
          have FA := FN
          clear FN
          have KR := Free.Bel.refl w12
          clear hB
          have KA0 : Free.Bel w12 (w12.alloc (.cells #[.int .i64 p, .int .i64 q] 29)) := Bel.allocT (Free.Bel.refl _) _
          go_wp2_with fail
          clear KA0
          have hN : Free.Bel w12 (w12.alloc (.cells #[.int .i64 p, .int .i64 q] 29)) := (Bel.allocT (Free.Bel.refl w12) _)
          have n_g120_0 : (w12.alloc (.cells #[.int .i64 p, .int .i64 q] 29)).cell? ⟨w12.heap.size, 0, none⟩ = some (.int .i64 p) := by simp [go_sem]
          have n_g120_1 : (w12.alloc (.cells #[.int .i64 p, .int .i64 q] 29)).cell? ⟨w12.heap.size, 1, none⟩ = some (.int .i64 q) := by simp [go_sem]
          generalize (w12.alloc (.cells #[.int .i64 p, .int .i64 q] 29)) = w13 at *
          obtain ⟨g120, hgz⟩ : ∃ x, x = w12.heap.size := ⟨_, rfl⟩
          rw [← hgz] at n_g120_0 n_g120_1 ⊢
          clear hgz
          have HB_w13 := Lib.hid (HB_w12.out.trans ((hN).mono hz_w12))
          have hz_w13 : bb ≤ w13.heap.size := Nat.le_trans hz_w12 (hN).size
          have HL_w13 : Free.Bel w7 w13 := bt HL_w12 (hN)
          clear HL_w12
          have HWR : Free.Bel wr w13 := bt HWR (hN)
          have FN := fun (W : World) (hW : Free.Bel w13 W) => And.intro (keepsB hW n_g120_0) (And.intro (keepsB hW n_g120_1) (FA W (bt (hN) hW)))
          clear FA HB_w12 hz_w12 KR
          have FA := FN
          clear FN
          have KR := Free.Bel.refl w13
          clear hN n_g120_0 n_g120_1
          have hF : ∀ W, Free.Bel w13.drew W → Free.Bel w13 W := fun W hW => bt (Bel.drewT (Free.Bel.refl _)) hW
          refine Free.wp_free (R := Free.Bel) (by kernel_rfl) (by kernel_rfl) Free.Bel.refl Free.Bel.trans ?_
          refine Free.Chain.ex ?_ [] [15] (by kernel_rfl) (by kernel_rfl) rfl Free.Bel.refl ?_ ?_
          rotate_left 2
          simp only [an1, an2]
          refine Free.Chain.ex ?_ [(0, 122)] [] (by kernel_rfl) (by kernel_rfl) rfl Free.Bel.refl ?_ ?_
          rotate_left 2
          simp only [an1, an2]
          refine Free.Chain.ex ?_ [(1, 123)] [] (by kernel_rfl) (by kernel_rfl) rfl Free.Bel.refl ?_ ?_
          rotate_left 2
          simp only [an1, an2]
          rotate_left
          iterate 3 (rotate_left; intro ev W hb hR hO hD; have hS := hF W hR; obtain ⟨hb1, hb2, hb3⟩ := hb; simp only [Free.AllDeps, Free.AllOuts, Free.At, al1, al2, al3, al4, al5, and_true] at hO hD; go_simp; rfl)
          refine Free.Chain.exG ?_ [(2, 124)] [8] 2 false 124 (by kernel_rfl) (by kernel_rfl) rfl (by kernel_rfl) Free.Bel.refl ?_ ?_
          rotate_left 2
          simp only [an1, an2]
          refine Free.Chain.exG ?_ [(2, 124)] [6] 2 false 124 (by kernel_rfl) (by kernel_rfl) rfl (by kernel_rfl) Free.Bel.refl ?_ ?_
          rotate_left 2
          simp only [an1, an2]
          refine Free.Chain.exG ?_ [(2, 124)] [7] 2 false 124 (by kernel_rfl) (by kernel_rfl) rfl (by kernel_rfl) Free.Bel.refl ?_ ?_
          rotate_left 2
          simp only [an1, an2]
          refine Free.Chain.exG ?_ [(2, 124)] [13] 2 false 124 (by kernel_rfl) (by kernel_rfl) rfl (by kernel_rfl) Free.Bel.refl ?_ ?_
          rotate_left 2
          simp only [an1, an2]
          rotate_left
          iterate 4 (rotate_left; intro ev W hb hR hO hD; have hS := hF W hR; obtain ⟨hb1, hb2, hb3⟩ := hb; simp only [Free.AllDeps, Free.AllOuts, Free.At, al1, al2, al3, al4, al5, and_true] at hO hD; refine ⟨by simp [hD], ?_⟩; go_simp; rfl)
          refine Free.Chain.prG (fun v _ => v = .bool true) [(3, 125), (4, 126), (5, 127), (6, 128), (2, 124), (2, 124)] [] 2 false 124 (by kernel_rfl) (by kernel_rfl) rfl (by kernel_rfl) (fun _ _ _ _ h => h) ?_ ?_
          · (intro ev W hb hR hO hD; have hS := hF W hR; obtain ⟨hb1, hb2, hb3⟩ := hb; simp only [Free.AllDeps, Free.AllOuts, Free.At, al1, al2, al3, al4, al5, and_true] at hO hD; refine ⟨by simp [hD], ?_⟩; go_simp; refine yields_enter ?_; (with_reducible refine (is_v sx sy 0 n (.bool true) _ HB0).mono ?_); rintro e W2 ⟨rfl, hB2⟩; exact ⟨_, rfl, hB2, rfl⟩)
          simp only [an1, an2]
          refine Free.Chain.exG ?_ [(2, 124)] [14] 2 false 124 (by kernel_rfl) (by kernel_rfl) rfl (by kernel_rfl) Free.Bel.refl ?_ ?_
          rotate_left 2
          simp only [an1, an2]
          refine Free.Chain.exG ?_ [(8, 130), (2, 124)] [] 2 false 124 (by kernel_rfl) (by kernel_rfl) rfl (by kernel_rfl) Free.Bel.refl ?_ ?_
          rotate_left 2
          simp only [an1, an2]
          refine Free.Chain.exG ?_ [(9, 131), (2, 124)] [] 2 false 124 (by kernel_rfl) (by kernel_rfl) rfl (by kernel_rfl) Free.Bel.refl ?_ ?_
          rotate_left 2
          simp only [an1, an2]
          refine Free.Chain.exG ?_ [(7, 129), (10, 132), (2, 124)] [] 2 false 124 (by kernel_rfl) (by kernel_rfl) rfl (by kernel_rfl) Free.Bel.refl ?_ ?_
          rotate_left 2
          simp only [an1, an2]
          rotate_left
          iterate 4 (rotate_left; intro ev W hb hR hO hD; have hS := hF W hR; obtain ⟨hb1, hb2, hb3⟩ := hb; simp only [Free.AllDeps, Free.AllOuts, Free.At, al1, al2, al3, al4, al5, and_true] at hO hD; refine ⟨by simp [hD], ?_⟩; go_simp; rfl)
          refine Free.Chain.ex ?_ [(2, 124), (11, 133)] [] (by kernel_rfl) (by kernel_rfl) rfl Free.Bel.refl ?_ ?_
          rotate_left 2
          simp only [an1, an2]
          rotate_left
          rotate_left
          · (intro ev W hb hR hO hD; have hS := hF W hR; obtain ⟨hb1, hb2, hb3⟩ := hb; simp only [Free.AllDeps, Free.AllOuts, Free.At, al1, al2, al3, al4, al5, and_true] at hO hD; go_simp; rfl)
          intro xs w14 hR hV
          simp only [Free.AllV, Free.At, List.length_cons, List.length_nil, Nat.reduceAdd, List.getElem?_cons_succ, List.getElem?_cons_zero, true_and, and_true] at hV
          simp only [Free.putsFrom, Act.put, Nat.zero_add, Nat.reduceAdd, hV, List.setIfInBounds_toArray, List.set_cons_succ, List.set_cons_zero]
          have hN := hF w14 hR
          clear hR hF
          have HB_w14 := Lib.hid (HB_w13.out.trans ((hN).mono hz_w13))
          have hz_w14 : bb ≤ w14.heap.size := Nat.le_trans hz_w13 (hN).size
          have HL_w14 : Free.Bel w7 w14 := bt HL_w13 (hN)
          clear HL_w13
          have HWR : Free.Bel wr w14 := bt HWR (hN)
          have FN := fun (W : World) (hW : Free.Bel w14 W) => FA W (bt (hN) hW)
          clear FA HB_w13 hz_w13 KR
          have FA := FN
          clear FN
          have KR := Free.Bel.refl w14
          clear hN hV
          go_wp2_with fail
          have hF : ∀ W, Free.Bel w14.drew W → Free.Bel w14 W := fun W hW => bt (Bel.drewT (Free.Bel.refl _)) hW
          refine Free.wp_free (R := Free.Bel) (by kernel_rfl) (by kernel_rfl) Free.Bel.refl Free.Bel.trans ?_
          refine Free.Chain.ex ?_ [] [3] (by kernel_rfl) (by kernel_rfl) rfl Free.Bel.refl ?_ ?_
          rotate_left 2
          simp only [an1, an2]
          refine Free.Chain.ex ?_ [(0, 135)] [] (by kernel_rfl) (by kernel_rfl) rfl Free.Bel.refl ?_ ?_
          rotate_left 2
          simp only [an1, an2]
          refine Free.Chain.ex ?_ [] [2] (by kernel_rfl) (by kernel_rfl) rfl Free.Bel.refl ?_ ?_
          rotate_left 2
          simp only [an1, an2]
          refine Free.Chain.ex ?_ [(2, 137)] [] (by kernel_rfl) (by kernel_rfl) rfl Free.Bel.refl ?_ ?_
          rotate_left 2
          simp only [an1, an2]
          refine Free.Chain.ex ?_ [(1, 136), (3, 138)] [] (by kernel_rfl) (by kernel_rfl) rfl Free.Bel.refl ?_ ?_
          rotate_left 2
          simp only [an1, an2]
          refine Free.Chain.ex ?_ [(4, 139)] [] (by kernel_rfl) (by kernel_rfl) rfl Free.Bel.refl ?_ ?_
          rotate_left 2
          simp only [an1, an2]
          rotate_left
          iterate 6 (rotate_left; intro ev W hb hR hO hD; have hS := hF W hR; obtain ⟨hb1, hb2, hb3⟩ := hb; simp only [Free.AllDeps, Free.AllOuts, Free.At, al1, al2, al3, al4, al5, and_true] at hO hD; go_simp; rfl)
          refine Free.Chain.exG ?_ [(5, 140)] [8] 5 true 140 (by kernel_rfl) (by kernel_rfl) rfl (by kernel_rfl) Free.Bel.refl ?_ ?_
          rotate_left 2
          simp only [an1, an2]
          refine Free.Chain.exG ?_ [(5, 140)] [6] 5 true 140 (by kernel_rfl) (by kernel_rfl) rfl (by kernel_rfl) Free.Bel.refl ?_ ?_
          rotate_left 2
          simp only [an1, an2]
          refine Free.Chain.exG ?_ [(5, 140)] [7] 5 true 140 (by kernel_rfl) (by kernel_rfl) rfl (by kernel_rfl) Free.Bel.refl ?_ ?_
          rotate_left 2
          simp only [an1, an2]
          refine Free.Chain.exG ?_ [(5, 140)] [13] 5 true 140 (by kernel_rfl) (by kernel_rfl) rfl (by kernel_rfl) Free.Bel.refl ?_ ?_
          rotate_left 2
          simp only [an1, an2]
          rotate_left
          iterate 4 (rotate_left; intro ev W hb hR hO hD; have hS := hF W hR; obtain ⟨hb1, hb2, hb3⟩ := hb; simp only [Free.AllDeps, Free.AllOuts, Free.At, al1, al2, al3, al4, al5, and_true] at hO hD; refine ⟨by simp [hD], ?_⟩; go_simp; rfl)
          refine Free.Chain.prG (fun v _ => v = .bool true) [(6, 141), (7, 142), (8, 143), (9, 144), (5, 140), (5, 140)] [] 5 true 140 (by kernel_rfl) (by kernel_rfl) rfl (by kernel_rfl) (fun _ _ _ _ h => h) ?_ ?_
          · (intro ev W hb hR hO hD; have hS := hF W hR; obtain ⟨hb1, hb2, hb3⟩ := hb; simp only [Free.AllDeps, Free.AllOuts, Free.At, al1, al2, al3, al4, al5, and_true] at hO hD; refine ⟨by simp [hD], ?_⟩; go_simp; refine yields_enter ?_; (with_reducible refine (is_v sx sy 0 n (.bool true) _ HB0).mono ?_); rintro e W2 ⟨rfl, hB2⟩; exact ⟨_, rfl, hB2, rfl⟩)
          simp only [an1, an2]
          refine Free.Chain.exG ?_ [(5, 140)] [8] 5 true 140 (by kernel_rfl) (by kernel_rfl) rfl (by kernel_rfl) Free.Bel.refl ?_ ?_
          rotate_left 2
          simp only [an1, an2]
          refine Free.Chain.exG ?_ [(5, 140)] [9] 5 true 140 (by kernel_rfl) (by kernel_rfl) rfl (by kernel_rfl) Free.Bel.refl ?_ ?_
          rotate_left 2
          simp only [an1, an2]
          refine Free.Chain.exG ?_ [(5, 140)] [11] 5 true 140 (by kernel_rfl) (by kernel_rfl) rfl (by kernel_rfl) Free.Bel.refl ?_ ?_
          rotate_left 2
          simp only [an1, an2]
          refine Free.Chain.exG ?_ [(5, 140)] [13] 5 true 140 (by kernel_rfl) (by kernel_rfl) rfl (by kernel_rfl) Free.Bel.refl ?_ ?_
          rotate_left 2
          simp only [an1, an2]
          rotate_left
          iterate 4 (rotate_left; intro ev W hb hR hO hD; have hS := hF W hR; obtain ⟨hb1, hb2, hb3⟩ := hb; simp only [Free.AllDeps, Free.AllOuts, Free.At, al1, al2, al3, al4, al5, and_true] at hO hD; refine ⟨by simp [hD], ?_⟩; go_simp; rfl)
          refine Free.Chain.prG (fun v _ => v = .bool false) [(11, 146), (12, 147), (13, 148), (14, 149), (10, 145), (5, 140)] [] 5 true 140 (by kernel_rfl) (by kernel_rfl) rfl (by kernel_rfl) (fun _ _ _ _ h => h) ?_ ?_
          · (intro ev W hb hR hO hD; have hS := hF W hR; obtain ⟨hb1, hb2, hb3⟩ := hb; simp only [Free.AllDeps, Free.AllOuts, Free.At, al1, al2, al3, al4, al5, and_true] at hO hD; refine ⟨by simp [hD], ?_⟩; go_simp; refine yields_enter ?_; (with_reducible refine (is_v cx cy ec n (.bool false) _ HB1).mono ?_); rintro e W2 ⟨rfl, hB2⟩; exact ⟨_, rfl, hB2, rfl⟩)
          simp only [an1, an2]
          refine Free.Chain.exG ?_ [(15, 150), (15, 150), (5, 140)] [] 5 true 140 (by kernel_rfl) (by kernel_rfl) rfl (by kernel_rfl) Free.Bel.refl ?_ ?_
          rotate_left 2
          simp only [an1, an2]
          refine Free.Chain.exG ?_ [(16, 151)] [8] 16 false 151 (by kernel_rfl) (by kernel_rfl) rfl (by kernel_rfl) Free.Bel.refl ?_ ?_
          rotate_left 2
          simp only [an1, an2]
          refine Free.Chain.exG ?_ [(16, 151)] [10] 16 false 151 (by kernel_rfl) (by kernel_rfl) rfl (by kernel_rfl) Free.Bel.refl ?_ ?_
          rotate_left 2
          simp only [an1, an2]
          refine Free.Chain.exG ?_ [(16, 151)] [12] 16 false 151 (by kernel_rfl) (by kernel_rfl) rfl (by kernel_rfl) Free.Bel.refl ?_ ?_
          rotate_left 2
          simp only [an1, an2]
          refine Free.Chain.exG ?_ [(16, 151)] [13] 16 false 151 (by kernel_rfl) (by kernel_rfl) rfl (by kernel_rfl) Free.Bel.refl ?_ ?_
          rotate_left 2
          simp only [an1, an2]
          rotate_left
          iterate 5 (rotate_left; intro ev W hb hR hO hD; have hS := hF W hR; obtain ⟨hb1, hb2, hb3⟩ := hb; simp only [Free.AllDeps, Free.AllOuts, Free.At, al1, al2, al3, al4, al5, and_true] at hO hD; refine ⟨by simp [hD], ?_⟩; go_simp; rfl)
          refine Free.Chain.prG (fun v _ => v = .bool true) [(17, 152), (18, 153), (19, 154), (20, 155), (16, 151), (16, 151)] [] 16 false 151 (by kernel_rfl) (by kernel_rfl) rfl (by kernel_rfl) (fun _ _ _ _ h => h) ?_ ?_
          · (intro ev W hb hR hO hD; have hS := hF W hR; obtain ⟨hb1, hb2, hb3⟩ := hb; simp only [Free.AllDeps, Free.AllOuts, Free.At, al1, al2, al3, al4, al5, and_true] at hO hD; refine ⟨by simp [hD], ?_⟩; go_simp; refine yields_enter ?_; (with_reducible refine (is_v dx dy ed n (.bool true) _ HB2).mono ?_); rintro e W2 ⟨rfl, hB2⟩; exact ⟨_, rfl, hB2, rfl⟩)
          simp only [an1, an2]
          refine Free.Chain.exG ?_ [(16, 151), (21, 156), (5, 140)] [] 5 true 140 (by kernel_rfl) (by kernel_rfl) rfl (by kernel_rfl) Free.Bel.refl ?_ ?_
          rotate_left 2
          simp only [an1, an2]
          refine Free.Chain.exG ?_ [(10, 145), (22, 157), (5, 140)] [] 5 true 140 (by kernel_rfl) (by kernel_rfl) rfl (by kernel_rfl) Free.Bel.refl ?_ ?_
          rotate_left 2
          simp only [an1, an2]
          rotate_left
          iterate 2 (rotate_left; intro ev W hb hR hO hD; have hS := hF W hR; obtain ⟨hb1, hb2, hb3⟩ := hb; simp only [Free.AllDeps, Free.AllOuts, Free.At, al1, al2, al3, al4, al5, and_true] at hO hD; refine ⟨by simp [hD], ?_⟩; go_simp; rfl)
          refine Free.Chain.ex ?_ [(5, 140), (23, 158)] [] (by kernel_rfl) (by kernel_rfl) rfl Free.Bel.refl ?_ ?_
          rotate_left 2
          simp only [an1, an2]
          rotate_left
          rotate_left
          · (intro ev W hb hR hO hD; have hS := hF W hR; obtain ⟨hb1, hb2, hb3⟩ := hb; simp only [Free.AllDeps, Free.AllOuts, Free.At, al1, al2, al3, al4, al5, and_true] at hO hD; go_simp; rfl)
          intro xs w15 hR hV
          simp only [Free.AllV, Free.At, List.length_cons, List.length_nil, Nat.reduceAdd, List.getElem?_cons_succ, List.getElem?_cons_zero, true_and, and_true] at hV
          simp only [Free.putsFrom, Act.put, Nat.zero_add, Nat.reduceAdd, hV, List.setIfInBounds_toArray, List.set_cons_succ, List.set_cons_zero]
          have hN := hF w15 hR
          clear hR hF
          have HB_w15 := Lib.hid (HB_w14.out.trans ((hN).mono hz_w14))
          have hz_w15 : bb ≤ w15.heap.size := Nat.le_trans hz_w14 (hN).size
          have HL_w15 : Free.Bel w7 w15 := bt HL_w14 (hN)
          clear HL_w14
          have HWR : Free.Bel wr w15 := bt HWR (hN)
          have FN := fun (W : World) (hW : Free.Bel w15 W) => FA W (bt (hN) hW)
          clear FA HB_w14 hz_w14 KR
          have FA := FN
          clear FN
          have KR := Free.Bel.refl w15
          clear hN hV
          go_wp2_with fail
          go_roundw
          case rel => exact ⟨j + 1, by omega, rfl, HL_w15⟩
          case measure => have := HHN.out; simp [intOf]; omega
      · skip
        obtain ⟨hb0, hb1, hb2⟩ := hb.2 hab
        skip
        have hp2 : decide (0 < p) = false := hp1.trans (decide_eq_false hab)
        clear hp1
        have HB0 := Lib.hid (congrArg Value.bool hb0)
        have HB1 := Lib.hid (congrArg Value.bool hb1)
        have HB2 := Lib.hid (congrArg Value.bool hb2)
        clear hb0 hb1 hb2
        go_wp2_with fail
        refine (chance_ok N lo hi n o f p q _ hc hd hnb HP).mono ?_
        rintro e w16 ⟨rfl, hB⟩
        have HB_w16 := Lib.hid (HB_wr.out.trans ((hB).mono hz_wr))
        have hz_w16 : bb ≤ w16.heap.size := Nat.le_trans hz_wr (hB).size
        have HL_w16 : Free.Bel w7 w16 := bt HL_wr (hB)
        clear HL_wr
        have HWR : Free.Bel wr w16 := bt HWR (hB)
        have FN := fun (W : World) (hW : Free.Bel w16 W) => FA W (bt (hB) hW)
        clear FA HB_wr hz_wr KR
        have FA := FN
        clear FN
        have KR := Free.Bel.refl w16
        clear hB
        have KA0 : Free.Bel w16 (w16.alloc (.cells #[.int .i64 p, .int .i64 q] 29)) := Bel.allocT (Free.Bel.refl _) _
        go_wp2_with fail
        clear KA0
        have hN : Free.Bel w16 (w16.alloc (.cells #[.int .i64 p, .int .i64 q] 29)) := (Bel.allocT (Free.Bel.refl w16) _)
        have n_g160_0 : (w16.alloc (.cells #[.int .i64 p, .int .i64 q] 29)).cell? ⟨w16.heap.size, 0, none⟩ = some (.int .i64 p) := by simp [go_sem]
        have n_g160_1 : (w16.alloc (.cells #[.int .i64 p, .int .i64 q] 29)).cell? ⟨w16.heap.size, 1, none⟩ = some (.int .i64 q) := by simp [go_sem]
        generalize (w16.alloc (.cells #[.int .i64 p, .int .i64 q] 29)) = w17 at *
        obtain ⟨g160, hgz⟩ : ∃ x, x = w16.heap.size := ⟨_, rfl⟩
        rw [← hgz] at n_g160_0 n_g160_1 ⊢
        clear hgz
        have HB_w17 := Lib.hid (HB_w16.out.trans ((hN).mono hz_w16))
        have hz_w17 : bb ≤ w17.heap.size := Nat.le_trans hz_w16 (hN).size
        have HL_w17 : Free.Bel w7 w17 := bt HL_w16 (hN)
        clear HL_w16
        have HWR : Free.Bel wr w17 := bt HWR (hN)
        have FN := fun (W : World) (hW : Free.Bel w17 W) => And.intro (keepsB hW n_g160_0) (And.intro (keepsB hW n_g160_1) (FA W (bt (hN) hW)))
        clear FA HB_w16 hz_w16 KR
        have FA := FN
        clear FN
        have KR := Free.Bel.refl w17
        clear hN n_g160_0 n_g160_1
        have hF : ∀ W, Free.Bel w17.drew W → Free.Bel w17 W := fun W hW => bt (Bel.drewT (Free.Bel.refl _)) hW
        refine Free.wp_free (R := Free.Bel) (by kernel_rfl) (by kernel_rfl) Free.Bel.refl Free.Bel.trans ?_
        refine Free.Chain.ex ?_ [] [15] (by kernel_rfl) (by kernel_rfl) rfl Free.Bel.refl ?_ ?_
        rotate_left 2
        simp only [an1, an2]
        refine Free.Chain.ex ?_ [(0, 122)] [] (by kernel_rfl) (by kernel_rfl) rfl Free.Bel.refl ?_ ?_
        rotate_left 2
        simp only [an1, an2]
        refine Free.Chain.ex ?_ [(1, 123)] [] (by kernel_rfl) (by kernel_rfl) rfl Free.Bel.refl ?_ ?_
        rotate_left 2
        simp only [an1, an2]
        rotate_left
        iterate 3 (rotate_left; intro ev W hb hR hO hD; have hS := hF W hR; obtain ⟨hb1, hb2, hb3⟩ := hb; simp only [Free.AllDeps, Free.AllOuts, Free.At, al1, al2, al3, al4, al5, and_true] at hO hD; go_simp; rfl)
        refine Free.Chain.exG ?_ [(2, 124)] [8] 2 false 124 (by kernel_rfl) (by kernel_rfl) rfl (by kernel_rfl) Free.Bel.refl ?_ ?_
        rotate_left 2
        simp only [an1, an2]
        refine Free.Chain.exG ?_ [(2, 124)] [6] 2 false 124 (by kernel_rfl) (by kernel_rfl) rfl (by kernel_rfl) Free.Bel.refl ?_ ?_
        rotate_left 2
        simp only [an1, an2]
        refine Free.Chain.exG ?_ [(2, 124)] [7] 2 false 124 (by kernel_rfl) (by kernel_rfl) rfl (by kernel_rfl) Free.Bel.refl ?_ ?_
        rotate_left 2
        simp only [an1, an2]
        refine Free.Chain.exG ?_ [(2, 124)] [13] 2 false 124 (by kernel_rfl) (by kernel_rfl) rfl (by kernel_rfl) Free.Bel.refl ?_ ?_
        rotate_left 2
        simp only [an1, an2]
        rotate_left
        iterate 4 (rotate_left; intro ev W hb hR hO hD; have hS := hF W hR; obtain ⟨hb1, hb2, hb3⟩ := hb; simp only [Free.AllDeps, Free.AllOuts, Free.At, al1, al2, al3, al4, al5, and_true] at hO hD; refine ⟨by simp [hD], ?_⟩; go_simp; rfl)
        refine Free.Chain.prG (fun v _ => v = .bool false) [(3, 125), (4, 126), (5, 127), (6, 128), (2, 124), (2, 124)] [] 2 false 124 (by kernel_rfl) (by kernel_rfl) rfl (by kernel_rfl) (fun _ _ _ _ h => h) ?_ ?_
        · (intro ev W hb hR hO hD; have hS := hF W hR; obtain ⟨hb1, hb2, hb3⟩ := hb; simp only [Free.AllDeps, Free.AllOuts, Free.At, al1, al2, al3, al4, al5, and_true] at hO hD; refine ⟨by simp [hD], ?_⟩; go_simp; refine yields_enter ?_; (with_reducible refine (is_v sx sy 0 n (.bool false) _ HB0).mono ?_); rintro e W2 ⟨rfl, hB2⟩; exact ⟨_, rfl, hB2, rfl⟩)
        simp only [an1, an2]
        refine Free.Chain.exG ?_ [(2, 124)] [14] 2 false 124 (by kernel_rfl) (by kernel_rfl) rfl (by kernel_rfl) Free.Bel.refl ?_ ?_
        rotate_left 2
        simp only [an1, an2]
        refine Free.Chain.exG ?_ [(8, 130), (2, 124)] [] 2 false 124 (by kernel_rfl) (by kernel_rfl) rfl (by kernel_rfl) Free.Bel.refl ?_ ?_
        rotate_left 2
        simp only [an1, an2]
        refine Free.Chain.exG ?_ [(9, 131), (2, 124)] [] 2 false 124 (by kernel_rfl) (by kernel_rfl) rfl (by kernel_rfl) Free.Bel.refl ?_ ?_
        rotate_left 2
        simp only [an1, an2]
        refine Free.Chain.exG ?_ [(7, 129), (10, 132), (2, 124)] [] 2 false 124 (by kernel_rfl) (by kernel_rfl) rfl (by kernel_rfl) Free.Bel.refl ?_ ?_
        rotate_left 2
        simp only [an1, an2]
        rotate_left
        iterate 4 (rotate_left; intro ev W hb hR hO hD; have hS := hF W hR; obtain ⟨hb1, hb2, hb3⟩ := hb; simp only [Free.AllDeps, Free.AllOuts, Free.At, al1, al2, al3, al4, al5, and_true] at hO hD; refine ⟨by simp [hD], ?_⟩; go_simp; rfl)
        refine Free.Chain.ex ?_ [(2, 124), (11, 133)] [] (by kernel_rfl) (by kernel_rfl) rfl Free.Bel.refl ?_ ?_
        rotate_left 2
        simp only [an1, an2]
        rotate_left
        rotate_left
        · (intro ev W hb hR hO hD; have hS := hF W hR; obtain ⟨hb1, hb2, hb3⟩ := hb; simp only [Free.AllDeps, Free.AllOuts, Free.At, al1, al2, al3, al4, al5, and_true] at hO hD; go_simp; rfl)
        intro xs w18 hR hV
        simp only [Free.AllV, Free.At, List.length_cons, List.length_nil, Nat.reduceAdd, List.getElem?_cons_succ, List.getElem?_cons_zero, true_and, and_true] at hV
        simp only [Free.putsFrom, Act.put, Nat.zero_add, Nat.reduceAdd, hV, List.setIfInBounds_toArray, List.set_cons_succ, List.set_cons_zero]
        have hN := hF w18 hR
        clear hR hF
        have HB_w18 := Lib.hid (HB_w17.out.trans ((hN).mono hz_w17))
        have hz_w18 : bb ≤ w18.heap.size := Nat.le_trans hz_w17 (hN).size
        have HL_w18 : Free.Bel w7 w18 := bt HL_w17 (hN)
        clear HL_w17
        have HWR : Free.Bel wr w18 := bt HWR (hN)
        have FN := fun (W : World) (hW : Free.Bel w18 W) => FA W (bt (hN) hW)
        clear FA HB_w17 hz_w17 KR
        have FA := FN
        clear FN
        have KR := Free.Bel.refl w18
        clear hN hV
        go_wp2_with fail
        have hF : ∀ W, Free.Bel w18.drew W → Free.Bel w18 W := fun W hW => bt (Bel.drewT (Free.Bel.refl _)) hW
        refine Free.wp_free (R := Free.Bel) (by kernel_rfl) (by kernel_rfl) Free.Bel.refl Free.Bel.trans ?_
        refine Free.Chain.ex ?_ [] [3] (by kernel_rfl) (by kernel_rfl) rfl Free.Bel.refl ?_ ?_
        rotate_left 2
        simp only [an1, an2]
        refine Free.Chain.ex ?_ [(0, 135)] [] (by kernel_rfl) (by kernel_rfl) rfl Free.Bel.refl ?_ ?_
        rotate_left 2
        simp only [an1, an2]
        refine Free.Chain.ex ?_ [] [2] (by kernel_rfl) (by kernel_rfl) rfl Free.Bel.refl ?_ ?_
        rotate_left 2
        simp only [an1, an2]
        refine Free.Chain.ex ?_ [(2, 137)] [] (by kernel_rfl) (by kernel_rfl) rfl Free.Bel.refl ?_ ?_
        rotate_left 2
        simp only [an1, an2]
        refine Free.Chain.ex ?_ [(1, 136), (3, 138)] [] (by kernel_rfl) (by kernel_rfl) rfl Free.Bel.refl ?_ ?_
        rotate_left 2
        simp only [an1, an2]
        refine Free.Chain.ex ?_ [(4, 139)] [] (by kernel_rfl) (by kernel_rfl) rfl Free.Bel.refl ?_ ?_
        rotate_left 2
        simp only [an1, an2]
        rotate_left
        iterate 6 (rotate_left; intro ev W hb hR hO hD; have hS := hF W hR; obtain ⟨hb1, hb2, hb3⟩ := hb; simp only [Free.AllDeps, Free.AllOuts, Free.At, al1, al2, al3, al4, al5, and_true] at hO hD; go_simp; rfl)
        refine Free.Chain.exG ?_ [(5, 140)] [8] 5 true 140 (by kernel_rfl) (by kernel_rfl) rfl (by kernel_rfl) Free.Bel.refl ?_ ?_
        rotate_left 2
        simp only [an1, an2]
        refine Free.Chain.exG ?_ [(5, 140)] [6] 5 true 140 (by kernel_rfl) (by kernel_rfl) rfl (by kernel_rfl) Free.Bel.refl ?_ ?_
        rotate_left 2
        simp only [an1, an2]
        refine Free.Chain.exG ?_ [(5, 140)] [7] 5 true 140 (by kernel_rfl) (by kernel_rfl) rfl (by kernel_rfl) Free.Bel.refl ?_ ?_
        rotate_left 2
        simp only [an1, an2]
        refine Free.Chain.exG ?_ [(5, 140)] [13] 5 true 140 (by kernel_rfl) (by kernel_rfl) rfl (by kernel_rfl) Free.Bel.refl ?_ ?_
        rotate_left 2
        simp only [an1, an2]
        rotate_left
        iterate 4 (rotate_left; intro ev W hb hR hO hD; have hS := hF W hR; obtain ⟨hb1, hb2, hb3⟩ := hb; simp only [Free.AllDeps, Free.AllOuts, Free.At, al1, al2, al3, al4, al5, and_true] at hO hD; refine ⟨by simp [hD], ?_⟩; go_simp; rfl)
        refine Free.Chain.prG (fun v _ => v = .bool false) [(6, 141), (7, 142), (8, 143), (9, 144), (5, 140), (5, 140)] [] 5 true 140 (by kernel_rfl) (by kernel_rfl) rfl (by kernel_rfl) (fun _ _ _ _ h => h) ?_ ?_
        · (intro ev W hb hR hO hD; have hS := hF W hR; obtain ⟨hb1, hb2, hb3⟩ := hb; simp only [Free.AllDeps, Free.AllOuts, Free.At, al1, al2, al3, al4, al5, and_true] at hO hD; refine ⟨by simp [hD], ?_⟩; go_simp; refine yields_enter ?_; (with_reducible refine (is_v sx sy 0 n (.bool false) _ HB0).mono ?_); rintro e W2 ⟨rfl, hB2⟩; exact ⟨_, rfl, hB2, rfl⟩)
        simp only [an1, an2]
        refine Free.Chain.exG ?_ [(5, 140)] [8] 5 true 140 (by kernel_rfl) (by kernel_rfl) rfl (by kernel_rfl) Free.Bel.refl ?_ ?_
        rotate_left 2
        simp only [an1, an2]
        refine Free.Chain.exG ?_ [(5, 140)] [9] 5 true 140 (by kernel_rfl) (by kernel_rfl) rfl (by kernel_rfl) Free.Bel.refl ?_ ?_
        rotate_left 2
        simp only [an1, an2]
        refine Free.Chain.exG ?_ [(5, 140)] [11] 5 true 140 (by kernel_rfl) (by kernel_rfl) rfl (by kernel_rfl) Free.Bel.refl ?_ ?_
        rotate_left 2
        simp only [an1, an2]
        refine Free.Chain.exG ?_ [(5, 140)] [13] 5 true 140 (by kernel_rfl) (by kernel_rfl) rfl (by kernel_rfl) Free.Bel.refl ?_ ?_
        rotate_left 2
        simp only [an1, an2]
        rotate_left
        iterate 4 (rotate_left; intro ev W hb hR hO hD; have hS := hF W hR; obtain ⟨hb1, hb2, hb3⟩ := hb; simp only [Free.AllDeps, Free.AllOuts, Free.At, al1, al2, al3, al4, al5, and_true] at hO hD; refine ⟨by simp [hD], ?_⟩; go_simp; rfl)
        refine Free.Chain.prG (fun v _ => v = .bool false) [(11, 146), (12, 147), (13, 148), (14, 149), (10, 145), (5, 140)] [] 5 true 140 (by kernel_rfl) (by kernel_rfl) rfl (by kernel_rfl) (fun _ _ _ _ h => h) ?_ ?_
        · (intro ev W hb hR hO hD; have hS := hF W hR; obtain ⟨hb1, hb2, hb3⟩ := hb; simp only [Free.AllDeps, Free.AllOuts, Free.At, al1, al2, al3, al4, al5, and_true] at hO hD; refine ⟨by simp [hD], ?_⟩; go_simp; refine yields_enter ?_; (with_reducible refine (is_v cx cy ec n (.bool false) _ HB1).mono ?_); rintro e W2 ⟨rfl, hB2⟩; exact ⟨_, rfl, hB2, rfl⟩)
        simp only [an1, an2]
        refine Free.Chain.exG ?_ [(15, 150), (15, 150), (5, 140)] [] 5 true 140 (by kernel_rfl) (by kernel_rfl) rfl (by kernel_rfl) Free.Bel.refl ?_ ?_
        rotate_left 2
        simp only [an1, an2]
        refine Free.Chain.exG ?_ [(16, 151)] [8] 16 false 151 (by kernel_rfl) (by kernel_rfl) rfl (by kernel_rfl) Free.Bel.refl ?_ ?_
        rotate_left 2
        simp only [an1, an2]
        refine Free.Chain.exG ?_ [(16, 151)] [10] 16 false 151 (by kernel_rfl) (by kernel_rfl) rfl (by kernel_rfl) Free.Bel.refl ?_ ?_
        rotate_left 2
        simp only [an1, an2]
        refine Free.Chain.exG ?_ [(16, 151)] [12] 16 false 151 (by kernel_rfl) (by kernel_rfl) rfl (by kernel_rfl) Free.Bel.refl ?_ ?_
        rotate_left 2
        simp only [an1, an2]
        refine Free.Chain.exG ?_ [(16, 151)] [13] 16 false 151 (by kernel_rfl) (by kernel_rfl) rfl (by kernel_rfl) Free.Bel.refl ?_ ?_
        rotate_left 2
        simp only [an1, an2]
        rotate_left
        iterate 5 (rotate_left; intro ev W hb hR hO hD; have hS := hF W hR; obtain ⟨hb1, hb2, hb3⟩ := hb; simp only [Free.AllDeps, Free.AllOuts, Free.At, al1, al2, al3, al4, al5, and_true] at hO hD; refine ⟨by simp [hD], ?_⟩; go_simp; rfl)
        refine Free.Chain.prG (fun v _ => v = .bool false) [(17, 152), (18, 153), (19, 154), (20, 155), (16, 151), (16, 151)] [] 16 false 151 (by kernel_rfl) (by kernel_rfl) rfl (by kernel_rfl) (fun _ _ _ _ h => h) ?_ ?_
        · (intro ev W hb hR hO hD; have hS := hF W hR; obtain ⟨hb1, hb2, hb3⟩ := hb; simp only [Free.AllDeps, Free.AllOuts, Free.At, al1, al2, al3, al4, al5, and_true] at hO hD; refine ⟨by simp [hD], ?_⟩; go_simp; refine yields_enter ?_; (with_reducible refine (is_v dx dy ed n (.bool false) _ HB2).mono ?_); rintro e W2 ⟨rfl, hB2⟩; exact ⟨_, rfl, hB2, rfl⟩)
        simp only [an1, an2]
        refine Free.Chain.exG ?_ [(16, 151), (21, 156), (5, 140)] [] 5 true 140 (by kernel_rfl) (by kernel_rfl) rfl (by kernel_rfl) Free.Bel.refl ?_ ?_
        rotate_left 2
        simp only [an1, an2]
        refine Free.Chain.exG ?_ [(10, 145), (22, 157), (5, 140)] [] 5 true 140 (by kernel_rfl) (by kernel_rfl) rfl (by kernel_rfl) Free.Bel.refl ?_ ?_
        rotate_left 2
        simp only [an1, an2]
        rotate_left
        iterate 2 (rotate_left; intro ev W hb hR hO hD; have hS := hF W hR; obtain ⟨hb1, hb2, hb3⟩ := hb; simp only [Free.AllDeps, Free.AllOuts, Free.At, al1, al2, al3, al4, al5, and_true] at hO hD; refine ⟨by simp [hD], ?_⟩; go_simp; rfl)
        refine Free.Chain.ex ?_ [(5, 140), (23, 158)] [] (by kernel_rfl) (by kernel_rfl) rfl Free.Bel.refl ?_ ?_
        rotate_left 2
        simp only [an1, an2]
        rotate_left
        rotate_left
        · (intro ev W hb hR hO hD; have hS := hF W hR; obtain ⟨hb1, hb2, hb3⟩ := hb; simp only [Free.AllDeps, Free.AllOuts, Free.At, al1, al2, al3, al4, al5, and_true] at hO hD; go_simp; rfl)
        intro xs w19 hR hV
        simp only [Free.AllV, Free.At, List.length_cons, List.length_nil, Nat.reduceAdd, List.getElem?_cons_succ, List.getElem?_cons_zero, true_and, and_true] at hV
        simp only [Free.putsFrom, Act.put, Nat.zero_add, Nat.reduceAdd, hV, List.setIfInBounds_toArray, List.set_cons_succ, List.set_cons_zero]
        have hN := hF w19 hR
        clear hR hF
        have HB_w19 := Lib.hid (HB_w18.out.trans ((hN).mono hz_w18))
        have hz_w19 : bb ≤ w19.heap.size := Nat.le_trans hz_w18 (hN).size
        have HL_w19 : Free.Bel w7 w19 := bt HL_w18 (hN)
        clear HL_w18
        have HWR : Free.Bel wr w19 := bt HWR (hN)
        have FN := fun (W : World) (hW : Free.Bel w19 W) => FA W (bt (hN) hW)
        clear FA HB_w18 hz_w18 KR
        have FA := FN
        clear FN
        have KR := Free.Bel.refl w19
        clear hN hV
        go_wp2_with fail
        go_roundw
        case rel => exact ⟨j + 1, by omega, rfl, HL_w19⟩
        case measure => have := HHN.out; simp [intOf]; omega
    · obtain rfl : j = (hi - lo + 1).toNat := by omega
      have k9 : decide (lo + (((hi - lo + 1).toNat : Nat) : Int) ≤ hi) = false := decide_eq_false (by omega)
      go_wp2_with fail
      refine (rest_ok N lo hi o f _ hc hd sx sy HCAN (by omega) (by omega)).mono ?_
      rintro e w20 ⟨rfl, hB⟩
      have HB_w20 := Lib.hid (HB_wr.out.trans ((hB).mono hz_wr))
      have hz_w20 : bb ≤ w20.heap.size := Nat.le_trans hz_wr (hB).size
      have HL_w20 : Free.Bel w7 w20 := bt HL_wr (hB)
      clear HL_wr
      have HWR : Free.Bel wr w20 := bt HWR (hB)
      have FN := fun (W : World) (hW : Free.Bel w20 W) => FA W (bt (hB) hW)
      clear FA HB_wr hz_wr KR
      have FA := FN
      clear FN
      have KR := Free.Bel.refl w20
      clear hB
      have q1 : (o == N) = false := by simp; omega
      have q2 : IntKind.i64.wrap (N - o) = N - o := IntWalk.i64_in _ (by omega)
      have q3 : IntKind.i64.wrap (sx - f) = sx - f := IntWalk.i64_in _ (by omega)
      have q4 : IntKind.i64.wrap (sy - f) = sy - f := IntWalk.i64_in _ (by omega)
      have KA0 : Free.Bel w20 (w20.alloc (.cells #[.int .i64 (N - o), .int .i64 (sx - f), .int .i64 (sy - f)] 26)) := Bel.allocT (Free.Bel.refl _) _
      go_wp2_with fail
      clear KA0
      have hN : Free.Bel w20 (w20.alloc (.cells #[.int .i64 (N - o), .int .i64 (sx - f), .int .i64 (sy - f)] 26)) := (Bel.allocT (Free.Bel.refl w20) _)
      have n_g200_0 : (w20.alloc (.cells #[.int .i64 (N - o), .int .i64 (sx - f), .int .i64 (sy - f)] 26)).cell? ⟨w20.heap.size, 0, none⟩ = some (.int .i64 (N - o)) := by simp [go_sem]
      have n_g200_1 : (w20.alloc (.cells #[.int .i64 (N - o), .int .i64 (sx - f), .int .i64 (sy - f)] 26)).cell? ⟨w20.heap.size, 1, none⟩ = some (.int .i64 (sx - f)) := by simp [go_sem]
      have n_g200_2 : (w20.alloc (.cells #[.int .i64 (N - o), .int .i64 (sx - f), .int .i64 (sy - f)] 26)).cell? ⟨w20.heap.size, 2, none⟩ = some (.int .i64 (sy - f)) := by simp [go_sem]
      generalize (w20.alloc (.cells #[.int .i64 (N - o), .int .i64 (sx - f), .int .i64 (sy - f)] 26)) = w21 at *
      obtain ⟨g200, hgz⟩ : ∃ x, x = w20.heap.size := ⟨_, rfl⟩
      rw [← hgz] at n_g200_0 n_g200_1 n_g200_2 ⊢
      clear hgz
      have HB_w21 := Lib.hid (HB_w20.out.trans ((hN).mono hz_w20))
      have hz_w21 : bb ≤ w21.heap.size := Nat.le_trans hz_w20 (hN).size
      have HL_w21 : Free.Bel w7 w21 := bt HL_w20 (hN)
      clear HL_w20
      have HWR : Free.Bel wr w21 := bt HWR (hN)
      have FN := fun (W : World) (hW : Free.Bel w21 W) => And.intro (keepsB hW n_g200_0) (And.intro (keepsB hW n_g200_1) (And.intro (keepsB hW n_g200_2) (FA W (bt (hN) hW))))
      clear FA HB_w20 hz_w20 KR
      have FA := FN
      clear FN
      have KR := Free.Bel.refl w21
      clear hN n_g200_0 n_g200_1 n_g200_2
      refine (check_ok (N - o) (sx - f) (sy - f) _ (by omega)).mono ?_
      rintro e w22 ⟨rfl, hB⟩
      have HB_w22 := Lib.hid (HB_w21.out.trans ((hB).mono hz_w21))
      have hz_w22 : bb ≤ w22.heap.size := Nat.le_trans hz_w21 (hB).size
      have HL_w22 : Free.Bel w7 w22 := bt HL_w21 (hB)
      clear HL_w21
      have HWR : Free.Bel wr w22 := bt HWR (hB)
      have FN := fun (W : World) (hW : Free.Bel w22 W) => FA W (bt (hB) hW)
      clear FA HB_w21 hz_w21 KR
      have FA := FN
      clear FN
      have KR := Free.Bel.refl w22
      clear hB
      go_wp2_with fail
      go_ret
      have hbb := HBB.out
      subst hbb
      exact ⟨rfl, HB_w22.out⟩
end Go.Proofs.YtdiclofeggkjcaaDoor

/- The law about what can be: a case. -/
namespace Go.Proofs.YtdiclofeggkjcaaDoor
set_option linter.unusedSimpArgs false
set_option linter.unusedVariables false
open Go.RowKit Go.Proofs.YtdiclofeggkjcaaDoor.ML Go.Proofs.YtdiclofeggkjcaaDoor.Samp

set_option maxRecDepth 100000 in
set_option maxHeartbeats 8000000 in
theorem canL_pb (N lo hi o f sx sy cx cy ec dx dy ed : Int) (w : World) (hT : TabD w) (hc : 1 ≤ N ∧ N ≤ 36 ∧ 0 ≤ lo ∧ lo ≤ hi ∧ hi ≤ N) (hd : 0 ≤ o ∧ o ≤ N ∧ 0 ≤ f ∧ f ≤ o) (ho : o < N) (HC1 : Hid (canR N lo hi (o + 1) f = .tuple #[i2 cx cy, .int .i64 ec])) (HC2 : Hid (canR N lo hi (o + 1) (f + 1) = .tuple #[i2 dx dy, .int .i64 ed])) (HCAN : Hid (canR N lo hi o f = .tuple #[i2 sx sy, .int .i64 8])) (hs : sx = 0 ∧ sy = 0) (hno : min hi (N - (o - f)) < max lo f) (HIS : Hid (∀ n, lo ≤ n → n ≤ hi → ((f ≤ n ∧ o - f ≤ N - n) → isB sx sy 8 n = true ∧ (isB cx cy ec n = true ∨ (isB cx cy ec n = false ∧ isB dx dy ed n = true))) ∧ (¬ (f ≤ n ∧ o - f ≤ N - n) → isB sx sy 8 n = false ∧ isB cx cy ec n = false ∧ isB dx dy ed n = false))) :
    Calls Tryd.prog 12 #[.agg #[.int .i64 N, .int .i64 lo, .int .i64 hi], i2 o f] w fun e w' => e = .returned (.bool true) ∧ Below w.heap.size w w' := by
  have hB0 : Below w.heap.size w ((w.alloc (.cells #[.int .i64 N, .int .i64 lo, .int .i64 hi] 26)).alloc (.cells #[.int .i64 o, .int .i64 f] 34)) := ((Below.refl _ w).alloc (Nat.le_refl _) _).alloc (by simp) _
  have c0_0 : ((w.alloc (.cells #[.int .i64 N, .int .i64 lo, .int .i64 hi] 26)).alloc (.cells #[.int .i64 o, .int .i64 f] 34)).cell? ⟨w.heap.size, 0, none⟩ = some (.int .i64 N) := by simp [go_sem]
  have c0_1 : ((w.alloc (.cells #[.int .i64 N, .int .i64 lo, .int .i64 hi] 26)).alloc (.cells #[.int .i64 o, .int .i64 f] 34)).cell? ⟨w.heap.size, 1, none⟩ = some (.int .i64 lo) := by simp [go_sem]
  have c0_2 : ((w.alloc (.cells #[.int .i64 N, .int .i64 lo, .int .i64 hi] 26)).alloc (.cells #[.int .i64 o, .int .i64 f] 34)).cell? ⟨w.heap.size, 2, none⟩ = some (.int .i64 hi) := by simp [go_sem]
  have c1_0 : ((w.alloc (.cells #[.int .i64 N, .int .i64 lo, .int .i64 hi] 26)).alloc (.cells #[.int .i64 o, .int .i64 f] 34)).cell? ⟨w.heap.size + 1, 0, none⟩ = some (.int .i64 o) := by simp [go_sem]
  have c1_1 : ((w.alloc (.cells #[.int .i64 N, .int .i64 lo, .int .i64 hi] 26)).alloc (.cells #[.int .i64 o, .int .i64 f] 34)).cell? ⟨w.heap.size + 1, 1, none⟩ = some (.int .i64 f) := by simp [go_sem]
  have t0 := keepsB hB0 hT.1
  have t1 := keepsB hB0 hT.2.1
  have t2 := keepsB hB0 hT.2.2
  clear hT
  go_enter Tryd.func12, Tryd.ntmps12
  go_wp2_with fail
  refine (alive_any _ (tabD_mk t0 t1 t2)).mono ?_
  rintro e w1 ⟨rfl, hB1⟩
  have hBz : Below w.heap.size w w1 := hB0.trans (hB1.mono (by simp; omega))
  have hzz : w.heap.size ≤ w1.heap.size := hBz.size
  have hzn : w.heap.size + 2 ≤ w1.heap.size := by have := hB1.size; simp at this; omega
  have kc0_0 := keepsB hB1 c0_0
  have kc0_1 := keepsB hB1 c0_1
  have kc0_2 := keepsB hB1 c0_2
  have kc1_0 := keepsB hB1 c1_0
  have kc1_1 := keepsB hB1 c1_1
  have kt0 := keepsB hB1 t0
  have kt1 := keepsB hB1 t1
  have kt2 := keepsB hB1 t2
  clear hB0 hB1 t0 t1 t2 c0_0 c0_1 c0_2 c1_0 c1_1
  generalize hbb : w.heap.size = bb at *
  have HBB := Lib.hid hbb
  clear hbb
  have HB_w1 := Lib.hid (show Below bb w w1 from hBz)
  have hz_w1 : bb ≤ w1.heap.size := hzz
  have FA : ∀ W, Free.Bel w1 W → W.cell? ⟨0, 0, none⟩ = some (dblF 130) ∧ W.cell? ⟨0, 1, none⟩ = some (dblF 131) ∧ W.cell? ⟨0, 2, none⟩ = some (dblF 132) ∧ W.cell? ⟨bb, 0, none⟩ = some (.int .i64 N) ∧ W.cell? ⟨bb, 1, none⟩ = some (.int .i64 lo) ∧ W.cell? ⟨bb, 2, none⟩ = some (.int .i64 hi) ∧ W.cell? ⟨bb + 1, 0, none⟩ = some (.int .i64 o) ∧ W.cell? ⟨bb + 1, 1, none⟩ = some (.int .i64 f) ∧ bb + 2 ≤ W.heap.size ∧ bb ≤ W.heap.size := fun W hW => ⟨keepsB hW kt0, keepsB hW kt1, keepsB hW kt2, keepsB hW kc0_0, keepsB hW kc0_1, keepsB hW kc0_2, keepsB hW kc1_0, keepsB hW kc1_1, Nat.le_trans hzn hW.size, Nat.le_trans hz_w1 hW.size⟩
  have KR : Free.Bel w1 w1 := Free.Bel.refl _
  clear hBz hzz kt0 kt1 kt2 kc0_0 kc0_1 kc0_2 kc1_0 kc1_1 hzn
  go_wp2_with fail
  refine (cargoR_any N lo hi true _ (cargoB_ok hc)).mono ?_
  rintro e w2 ⟨rfl, hB⟩
  have HB_w2 := Lib.hid (HB_w1.out.trans ((hB).mono hz_w1))
  have hz_w2 : bb ≤ w2.heap.size := Nat.le_trans hz_w1 (hB).size
  have FN := fun (W : World) (hW : Free.Bel w2 W) => FA W (bt (hB) hW)
  clear FA HB_w1 hz_w1 KR
  have FA := FN
  clear FN
  have KR := Free.Bel.refl w2
  clear hB
  go_wp2_with fail
  refine (drawR_any N lo hi o f true _ (drawB_ok hd)).mono ?_
  rintro e w3 ⟨rfl, hB⟩
  have HB_w3 := Lib.hid (HB_w2.out.trans ((hB).mono hz_w2))
  have hz_w3 : bb ≤ w3.heap.size := Nat.le_trans hz_w2 (hB).size
  have FN := fun (W : World) (hW : Free.Bel w3 W) => FA W (bt (hB) hW)
  clear FA HB_w2 hz_w2 KR
  have FA := FN
  clear FN
  have KR := Free.Bel.refl w3
  clear hB
  go_wp2_with fail
  obtain ⟨rfl, rfl⟩ := hs
  refine (can_v N lo hi o f _ _ HCAN).mono ?_
  rintro e w4 ⟨rfl, hB⟩
  have HB_w4 := Lib.hid (HB_w3.out.trans ((hB).mono hz_w3))
  have hz_w4 : bb ≤ w4.heap.size := Nat.le_trans hz_w3 (hB).size
  have FN := fun (W : World) (hW : Free.Bel w4 W) => FA W (bt (hB) hW)
  clear FA HB_w3 hz_w3 KR
  have FA := FN
  clear FN
  have KR := Free.Bel.refl w4
  clear hB
  have K1 : Free.Bel w4 (w4.alloc (.cells #[.int .i64 0, .int .i64 0] 24)) := Bel.allocT (Free.Bel.refl _) _
  have K2 : Free.Bel w4 ((w4.alloc (.cells #[.int .i64 0, .int .i64 0] 24)).alloc (.cells #[.int .i64 0, .int .i64 0] 24)) := Bel.allocT K1 _
  have K3 : Free.Bel w4 (((w4.alloc (.cells #[.int .i64 0, .int .i64 0] 24)).alloc (.cells #[.int .i64 0, .int .i64 0] 24)).alloc (.cells #[.int .i64 0, .int .i64 0] 24)) := Bel.allocT K2 _
  have k0 : decide (o < N) = true := decide_eq_true (by omega)
  go_wp2_with fail
  have hwo : IntKind.i64.wrap (o + 1) = o + 1 := IntWalk.i64_in _ (by omega)
  have hwf : IntKind.i64.wrap (f + 1) = f + 1 := IntWalk.i64_in _ (by omega)
  clear K1 K2
  have n0 : Two w4.heap.size (.int .i64 (0)) (.int .i64 (0)) (((w4.alloc (.cells #[.int .i64 0, .int .i64 0] 24)).alloc (.cells #[.int .i64 0, .int .i64 0] 24)).alloc (.cells #[.int .i64 0, .int .i64 0] 24)) := ⟨by simp [go_sem], by simp [go_sem], by simp [go_sem], by simp [go_sem]⟩
  have n1 : Two (w4.heap.size + 1) (.int .i64 0) (.int .i64 0) (((w4.alloc (.cells #[.int .i64 0, .int .i64 0] 24)).alloc (.cells #[.int .i64 0, .int .i64 0] 24)).alloc (.cells #[.int .i64 0, .int .i64 0] 24)) := ⟨by simp [go_sem], by simp [go_sem], by simp [go_sem], by simp [go_sem]⟩
  have n2 : Two (w4.heap.size + 1 + 1) (.int .i64 0) (.int .i64 0) (((w4.alloc (.cells #[.int .i64 0, .int .i64 0] 24)).alloc (.cells #[.int .i64 0, .int .i64 0] 24)).alloc (.cells #[.int .i64 0, .int .i64 0] 24)) := ⟨by simp [go_sem], by simp [go_sem], by simp [go_sem], by simp [go_sem]⟩
  have hsz : w4.heap.size + 3 ≤ ((((w4.alloc (.cells #[.int .i64 0, .int .i64 0] 24)).alloc (.cells #[.int .i64 0, .int .i64 0] 24)).alloc (.cells #[.int .i64 0, .int .i64 0] 24))).heap.size := by simp
  generalize (((w4.alloc (.cells #[.int .i64 0, .int .i64 0] 24)).alloc (.cells #[.int .i64 0, .int .i64 0] 24)).alloc (.cells #[.int .i64 0, .int .i64 0] 24)) = w5 at *
  obtain ⟨g, hg⟩ : ∃ x, x = w4.heap.size := ⟨_, rfl⟩
  rw [← hg] at n0 n1 n2 hsz ⊢
  have hgl : w4.heap.size ≤ g := by omega
  clear hg
  have hF : ∀ W, KeptX (g + 3) [g + 1] w5.drew W → Free.Bel w4 W := fun W hW => KeptX.below (Below.drew K3) hW (by omega) (by intro r hr; simp at hr; omega) K3.size
  refine Free2.wp_free (R := KeptX (g + 3) [g + 1]) (J := Fx 11 (g + 1) (.int .i64 0) (.int .i64 0) (.int .i64 cx) (.int .i64 cy)) (by kernel_rfl) (by kernel_rfl) (KeptX.refl _ _) (fun _ _ _ => KeptX.trans) (Fx.start ⟨n1.c0, n1.c1, n1.f0, n1.f1⟩) ?_
  refine Free2.Chain.ex ?_ 0 rfl [] [2] (by kernel_rfl) (by kernel_rfl) rfl (KeptX.refl _ _) (fun X W v h => Fx.skip h 0 v (show (0 : Nat) ≠ 11 by decide)) ?_ ?_
  rotate_left
  · (intro ev W hb hR hO hD; have hS := hF W hR; obtain ⟨hb1, hb2, hb3⟩ := hb; simp only [Free.AllDeps, Free.AllOuts, Free.At, al1, al2, al3, al4, al5, and_true] at hO hD; go_simp; rfl)
  simp only [an1, an2]
  refine Free2.Chain.ex ?_ 1 rfl [] [3] (by kernel_rfl) (by kernel_rfl) rfl (KeptX.refl _ _) (fun X W v h => Fx.skip h 1 v (show (1 : Nat) ≠ 11 by decide)) ?_ ?_
  rotate_left
  · (intro ev W hb hR hO hD; have hS := hF W hR; obtain ⟨hb1, hb2, hb3⟩ := hb; simp only [Free.AllDeps, Free.AllOuts, Free.At, al1, al2, al3, al4, al5, and_true] at hO hD; go_simp; rfl)
  simp only [an1, an2]
  refine Free2.Chain.ex ?_ 2 rfl [(1, 84)] [] (by kernel_rfl) (by kernel_rfl) rfl (KeptX.refl _ _) (fun X W v h => Fx.skip h 2 v (show (2 : Nat) ≠ 11 by decide)) ?_ ?_
  rotate_left
  · (intro ev W hb hR hO hD; have hS := hF W hR; obtain ⟨hb1, hb2, hb3⟩ := hb; simp only [Free.AllDeps, Free.AllOuts, Free.At, al1, al2, al3, al4, al5, and_true] at hO hD; go_simp; rfl)
  simp only [an1, an2]
  refine Free2.Chain.ex ?_ 3 rfl [(2, 85)] [] (by kernel_rfl) (by kernel_rfl) rfl (KeptX.refl _ _) (fun X W v h => Fx.skip h 3 v (show (3 : Nat) ≠ 11 by decide)) ?_ ?_
  rotate_left
  · (intro ev W hb hR hO hD; have hS := hF W hR; obtain ⟨hb1, hb2, hb3⟩ := hb; simp only [Free.AllDeps, Free.AllOuts, Free.At, al1, al2, al3, al4, al5, and_true] at hO hD; go_simp; rfl)
  simp only [an1, an2]
  refine Free2.Chain.ex ?_ 4 rfl [] [3] (by kernel_rfl) (by kernel_rfl) rfl (KeptX.refl _ _) (fun X W v h => Fx.skip h 4 v (show (4 : Nat) ≠ 11 by decide)) ?_ ?_
  rotate_left
  · (intro ev W hb hR hO hD; have hS := hF W hR; obtain ⟨hb1, hb2, hb3⟩ := hb; simp only [Free.AllDeps, Free.AllOuts, Free.At, al1, al2, al3, al4, al5, and_true] at hO hD; go_simp; rfl)
  simp only [an1, an2]
  refine Free2.Chain.ex ?_ 5 rfl [(4, 87)] [] (by kernel_rfl) (by kernel_rfl) rfl (KeptX.refl _ _) (fun X W v h => Fx.skip h 5 v (show (5 : Nat) ≠ 11 by decide)) ?_ ?_
  rotate_left
  · (intro ev W hb hR hO hD; have hS := hF W hR; obtain ⟨hb1, hb2, hb3⟩ := hb; simp only [Free.AllDeps, Free.AllOuts, Free.At, al1, al2, al3, al4, al5, and_true] at hO hD; go_simp; rfl)
  simp only [an1, an2]
  refine Free2.Chain.pr (fun v _ => v = i2 (o + 1) (f)) 6 rfl [(3, 86), (5, 88)] [] (by kernel_rfl) (by kernel_rfl) rfl (fun _ _ _ _ h => h) ?_ ?_
  · (intro ev W X hb hR hO hD hj hx hax; have hS := hF W hR; obtain ⟨hb1, hb2, hb3⟩ := hb; simp only [Free.AllDeps, Free.AllOuts, Free.At, al1, al2, al3, al4, al5, and_true] at hO hD; simp only [Free2.AllX, and_true] at hax; go_simp; refine yields_enter ?_; (with_reducible refine (drawn_any (o + 1) (f) _).mono ?_); rintro e W2 ⟨rfl, hB2⟩; exact ⟨_, rfl, KeptX.of_kept (.of_below hB2), rfl, (hj.kept (mb := g + 3) (.of_below hB2) (by omega)).skip 6 _ (by decide)⟩)
  simp only [an1, an2]
  refine Free2.Chain.pr (fun v _ => v = .tuple #[i2 cx cy, .int .i64 ec]) 7 rfl [(0, 83), (6, 89), (6, 89)] [] (by kernel_rfl) (by kernel_rfl) rfl (fun _ _ _ _ h => h) ?_ ?_
  · (intro ev W X hb hR hO hD hj hx hax; have hS := hF W hR; obtain ⟨hb1, hb2, hb3⟩ := hb; simp only [Free.AllDeps, Free.AllOuts, Free.At, al1, al2, al3, al4, al5, and_true] at hO hD; simp only [Free2.AllX, and_true] at hax; go_simp; refine yields_enter ?_; (with_reducible refine (can_v N lo hi (o + 1) (f) _ _ HC1).mono ?_); rintro e W2 ⟨rfl, hB2⟩; exact ⟨_, rfl, KeptX.of_kept (.of_below hB2), rfl, (hj.kept (mb := g + 3) (.of_below hB2) (by omega)).skip 7 _ (by decide)⟩)
  simp only [an1, an2]
  refine Free2.Chain.ex ?_ 8 rfl [(7, 90)] [] (by kernel_rfl) (by kernel_rfl) rfl (KeptX.refl _ _) (fun X W v h => Fx.skip h 8 v (show (8 : Nat) ≠ 11 by decide)) ?_ ?_
  rotate_left
  · (intro ev W hb hR hO hD; have hS := hF W hR; obtain ⟨hb1, hb2, hb3⟩ := hb; simp only [Free.AllDeps, Free.AllOuts, Free.At, al1, al2, al3, al4, al5, and_true] at hO hD; go_simp; rfl)
  simp only [an1, an2]
  refine Free2.Chain.ex ?_ 9 rfl [(8, 82)] [] (by kernel_rfl) (by kernel_rfl) rfl (KeptX.refl _ _) (fun X W v h => Fx.skip h 9 v (show (9 : Nat) ≠ 11 by decide)) ?_ ?_
  rotate_left
  · (intro ev W hb hR hO hD; have hS := hF W hR; obtain ⟨hb1, hb2, hb3⟩ := hb; simp only [Free.AllDeps, Free.AllOuts, Free.At, al1, al2, al3, al4, al5, and_true] at hO hD; go_simp; rfl)
  simp only [an1, an2]
  refine Free2.Chain.ex ?_ 10 rfl [(8, 82)] [] (by kernel_rfl) (by kernel_rfl) rfl (KeptX.refl _ _) (fun X W v h => Fx.skip h 10 v (show (10 : Nat) ≠ 11 by decide)) ?_ ?_
  rotate_left
  · (intro ev W hb hR hO hD; have hS := hF W hR; obtain ⟨hb1, hb2, hb3⟩ := hb; simp only [Free.AllDeps, Free.AllOuts, Free.At, al1, al2, al3, al4, al5, and_true] at hO hD; go_simp; rfl)
  simp only [an1, an2]
  refine Free2.Chain.pr (fun _ _ => True) 11 rfl [(9, 91), (7, 90), (0, 83), (1, 84), (2, 85), (3, 86), (4, 87), (5, 88), (6, 89), (7, 90), (8, 82), (9, 91)] [9] (by kernel_rfl) (by kernel_rfl) rfl (fun _ _ _ _ h => h) ?_ ?_
  · (intro ev W X hb hR hO hD hj hx hax; have hS := hF W hR; obtain ⟨hb1, hb2, hb3⟩ := hb; simp only [Free.AllDeps, Free.AllOuts, Free.At, al1, al2, al3, al4, al5, and_true] at hO hD; simp only [Free2.AllX, and_true] at hax; obtain ⟨ht, hkx, hjj⟩ := hj.at_ (mb := g + 3) (rs := [g + 1]) (by simp) (by omega) hx; have t0 := ht.c0; have t1 := ht.c1; have t2 := ht.f0; have t3 := ht.f1; go_simp; exact ⟨hkx, hjj _⟩)
  simp only [an1, an2]
  refine Free2.Chain.ex ?_ 12 rfl [(10, 92), (0, 83), (1, 84), (2, 85), (3, 86), (4, 87), (5, 88), (6, 89), (7, 90), (8, 82), (9, 91), (10, 92)] [] (by kernel_rfl) (by kernel_rfl) rfl (KeptX.refl _ _) (fun X W v h => Fx.skip h 12 v (show (12 : Nat) ≠ 11 by decide)) ?_ ?_
  rotate_left
  · (intro ev W hb hR hO hD; have hS := hF W hR; obtain ⟨hb1, hb2, hb3⟩ := hb; simp only [Free.AllDeps, Free.AllOuts, Free.At, al1, al2, al3, al4, al5, and_true] at hO hD; go_simp; rfl)
  simp only [an1, an2]
  intro xs w6 hR hV hX
  obtain ⟨X, hj, hxx⟩ := hX
  have ee := hxx 11 (show (11 : Nat) < 13 by decide)
  have TA := hj.new (by rw [ee]; simp)
  simp only [Free.AllV, Free.At, List.length_cons, List.length_nil, Nat.reduceAdd, List.getElem?_cons_succ, List.getElem?_cons_zero, true_and, and_true] at hV
  simp only [Free.putsFrom, Act.put, Nat.zero_add, Nat.reduceAdd, hV, List.setIfInBounds_toArray, List.set_cons_succ, List.set_cons_zero]
  have hN := hF w6 hR
  have n0 := Two.keptX (w := w5.drew) (mb := g + 3) (rs := [g + 1]) ⟨n0.c0, n0.c1, n0.f0, n0.f1⟩ hR (by omega) (by simp; try omega)
  have n2 := Two.keptX (w := w5.drew) (mb := g + 3) (rs := [g + 1]) ⟨n2.c0, n2.c1, n2.f0, n2.f1⟩ hR (by omega) (by simp; try omega)
  have n1 := TA
  have hsz : g + 3 ≤ w6.heap.size := Nat.le_trans hsz hR.size
  have K3 := hN
  clear hN TA ee hj hxx hV hR hF
  go_wp2_with fail
  have hF : ∀ W, KeptX (g + 3) [g + 1 + 1] w6.drew W → Free.Bel w4 W := fun W hW => KeptX.below (Below.drew K3) hW (by omega) (by intro r hr; simp at hr; omega) K3.size
  refine Free2.wp_free (R := KeptX (g + 3) [g + 1 + 1]) (J := Fx 12 (g + 1 + 1) (.int .i64 0) (.int .i64 0) (.int .i64 dx) (.int .i64 dy)) (by kernel_rfl) (by kernel_rfl) (KeptX.refl _ _) (fun _ _ _ => KeptX.trans) (Fx.start ⟨n2.c0, n2.c1, n2.f0, n2.f1⟩) ?_
  refine Free2.Chain.ex ?_ 0 rfl [] [2] (by kernel_rfl) (by kernel_rfl) rfl (KeptX.refl _ _) (fun X W v h => Fx.skip h 0 v (show (0 : Nat) ≠ 12 by decide)) ?_ ?_
  rotate_left
  · (intro ev W hb hR hO hD; have hS := hF W hR; obtain ⟨hb1, hb2, hb3⟩ := hb; simp only [Free.AllDeps, Free.AllOuts, Free.At, al1, al2, al3, al4, al5, and_true] at hO hD; go_simp; rfl)
  simp only [an1, an2]
  refine Free2.Chain.ex ?_ 1 rfl [] [3] (by kernel_rfl) (by kernel_rfl) rfl (KeptX.refl _ _) (fun X W v h => Fx.skip h 1 v (show (1 : Nat) ≠ 12 by decide)) ?_ ?_
  rotate_left
  · (intro ev W hb hR hO hD; have hS := hF W hR; obtain ⟨hb1, hb2, hb3⟩ := hb; simp only [Free.AllDeps, Free.AllOuts, Free.At, al1, al2, al3, al4, al5, and_true] at hO hD; go_simp; rfl)
  simp only [an1, an2]
  refine Free2.Chain.ex ?_ 2 rfl [(1, 95)] [] (by kernel_rfl) (by kernel_rfl) rfl (KeptX.refl _ _) (fun X W v h => Fx.skip h 2 v (show (2 : Nat) ≠ 12 by decide)) ?_ ?_
  rotate_left
  · (intro ev W hb hR hO hD; have hS := hF W hR; obtain ⟨hb1, hb2, hb3⟩ := hb; simp only [Free.AllDeps, Free.AllOuts, Free.At, al1, al2, al3, al4, al5, and_true] at hO hD; go_simp; rfl)
  simp only [an1, an2]
  refine Free2.Chain.ex ?_ 3 rfl [(2, 96)] [] (by kernel_rfl) (by kernel_rfl) rfl (KeptX.refl _ _) (fun X W v h => Fx.skip h 3 v (show (3 : Nat) ≠ 12 by decide)) ?_ ?_
  rotate_left
  · (intro ev W hb hR hO hD; have hS := hF W hR; obtain ⟨hb1, hb2, hb3⟩ := hb; simp only [Free.AllDeps, Free.AllOuts, Free.At, al1, al2, al3, al4, al5, and_true] at hO hD; go_simp; rfl)
  simp only [an1, an2]
  refine Free2.Chain.ex ?_ 4 rfl [] [3] (by kernel_rfl) (by kernel_rfl) rfl (KeptX.refl _ _) (fun X W v h => Fx.skip h 4 v (show (4 : Nat) ≠ 12 by decide)) ?_ ?_
  rotate_left
  · (intro ev W hb hR hO hD; have hS := hF W hR; obtain ⟨hb1, hb2, hb3⟩ := hb; simp only [Free.AllDeps, Free.AllOuts, Free.At, al1, al2, al3, al4, al5, and_true] at hO hD; go_simp; rfl)
  simp only [an1, an2]
  refine Free2.Chain.ex ?_ 5 rfl [(4, 98)] [] (by kernel_rfl) (by kernel_rfl) rfl (KeptX.refl _ _) (fun X W v h => Fx.skip h 5 v (show (5 : Nat) ≠ 12 by decide)) ?_ ?_
  rotate_left
  · (intro ev W hb hR hO hD; have hS := hF W hR; obtain ⟨hb1, hb2, hb3⟩ := hb; simp only [Free.AllDeps, Free.AllOuts, Free.At, al1, al2, al3, al4, al5, and_true] at hO hD; go_simp; rfl)
  simp only [an1, an2]
  refine Free2.Chain.ex ?_ 6 rfl [(5, 99)] [] (by kernel_rfl) (by kernel_rfl) rfl (KeptX.refl _ _) (fun X W v h => Fx.skip h 6 v (show (6 : Nat) ≠ 12 by decide)) ?_ ?_
  rotate_left
  · (intro ev W hb hR hO hD; have hS := hF W hR; obtain ⟨hb1, hb2, hb3⟩ := hb; simp only [Free.AllDeps, Free.AllOuts, Free.At, al1, al2, al3, al4, al5, and_true] at hO hD; go_simp; rfl)
  simp only [an1, an2]
  refine Free2.Chain.pr (fun v _ => v = i2 (o + 1) (f + 1)) 7 rfl [(3, 97), (6, 100)] [] (by kernel_rfl) (by kernel_rfl) rfl (fun _ _ _ _ h => h) ?_ ?_
  · (intro ev W X hb hR hO hD hj hx hax; have hS := hF W hR; obtain ⟨hb1, hb2, hb3⟩ := hb; simp only [Free.AllDeps, Free.AllOuts, Free.At, al1, al2, al3, al4, al5, and_true] at hO hD; simp only [Free2.AllX, and_true] at hax; go_simp; refine yields_enter ?_; (with_reducible refine (drawn_any (o + 1) (f + 1) _).mono ?_); rintro e W2 ⟨rfl, hB2⟩; exact ⟨_, rfl, KeptX.of_kept (.of_below hB2), rfl, (hj.kept (mb := g + 3) (.of_below hB2) (by omega)).skip 7 _ (by decide)⟩)
  simp only [an1, an2]
  refine Free2.Chain.pr (fun v _ => v = .tuple #[i2 dx dy, .int .i64 ed]) 8 rfl [(0, 94), (7, 101), (7, 101)] [] (by kernel_rfl) (by kernel_rfl) rfl (fun _ _ _ _ h => h) ?_ ?_
  · (intro ev W X hb hR hO hD hj hx hax; have hS := hF W hR; obtain ⟨hb1, hb2, hb3⟩ := hb; simp only [Free.AllDeps, Free.AllOuts, Free.At, al1, al2, al3, al4, al5, and_true] at hO hD; simp only [Free2.AllX, and_true] at hax; go_simp; refine yields_enter ?_; (with_reducible refine (can_v N lo hi (o + 1) (f + 1) _ _ HC2).mono ?_); rintro e W2 ⟨rfl, hB2⟩; exact ⟨_, rfl, KeptX.of_kept (.of_below hB2), rfl, (hj.kept (mb := g + 3) (.of_below hB2) (by omega)).skip 8 _ (by decide)⟩)
  simp only [an1, an2]
  refine Free2.Chain.ex ?_ 9 rfl [(8, 102)] [] (by kernel_rfl) (by kernel_rfl) rfl (KeptX.refl _ _) (fun X W v h => Fx.skip h 9 v (show (9 : Nat) ≠ 12 by decide)) ?_ ?_
  rotate_left
  · (intro ev W hb hR hO hD; have hS := hF W hR; obtain ⟨hb1, hb2, hb3⟩ := hb; simp only [Free.AllDeps, Free.AllOuts, Free.At, al1, al2, al3, al4, al5, and_true] at hO hD; go_simp; rfl)
  simp only [an1, an2]
  refine Free2.Chain.ex ?_ 10 rfl [(9, 93)] [] (by kernel_rfl) (by kernel_rfl) rfl (KeptX.refl _ _) (fun X W v h => Fx.skip h 10 v (show (10 : Nat) ≠ 12 by decide)) ?_ ?_
  rotate_left
  · (intro ev W hb hR hO hD; have hS := hF W hR; obtain ⟨hb1, hb2, hb3⟩ := hb; simp only [Free.AllDeps, Free.AllOuts, Free.At, al1, al2, al3, al4, al5, and_true] at hO hD; go_simp; rfl)
  simp only [an1, an2]
  refine Free2.Chain.ex ?_ 11 rfl [(9, 93)] [] (by kernel_rfl) (by kernel_rfl) rfl (KeptX.refl _ _) (fun X W v h => Fx.skip h 11 v (show (11 : Nat) ≠ 12 by decide)) ?_ ?_
  rotate_left
  · (intro ev W hb hR hO hD; have hS := hF W hR; obtain ⟨hb1, hb2, hb3⟩ := hb; simp only [Free.AllDeps, Free.AllOuts, Free.At, al1, al2, al3, al4, al5, and_true] at hO hD; go_simp; rfl)
  simp only [an1, an2]
  refine Free2.Chain.pr (fun _ _ => True) 12 rfl [(10, 103), (8, 102), (0, 94), (1, 95), (2, 96), (3, 97), (4, 98), (5, 99), (6, 100), (7, 101), (8, 102), (9, 93), (10, 103)] [10] (by kernel_rfl) (by kernel_rfl) rfl (fun _ _ _ _ h => h) ?_ ?_
  · (intro ev W X hb hR hO hD hj hx hax; have hS := hF W hR; obtain ⟨hb1, hb2, hb3⟩ := hb; simp only [Free.AllDeps, Free.AllOuts, Free.At, al1, al2, al3, al4, al5, and_true] at hO hD; simp only [Free2.AllX, and_true] at hax; obtain ⟨ht, hkx, hjj⟩ := hj.at_ (mb := g + 3) (rs := [g + 1 + 1]) (by simp) (by omega) hx; have t0 := ht.c0; have t1 := ht.c1; have t2 := ht.f0; have t3 := ht.f1; go_simp; exact ⟨hkx, hjj _⟩)
  simp only [an1, an2]
  refine Free2.Chain.ex ?_ 13 rfl [(11, 104), (0, 94), (1, 95), (2, 96), (3, 97), (4, 98), (5, 99), (6, 100), (7, 101), (8, 102), (9, 93), (10, 103), (11, 104)] [] (by kernel_rfl) (by kernel_rfl) rfl (KeptX.refl _ _) (fun X W v h => Fx.skip h 13 v (show (13 : Nat) ≠ 12 by decide)) ?_ ?_
  rotate_left
  · (intro ev W hb hR hO hD; have hS := hF W hR; obtain ⟨hb1, hb2, hb3⟩ := hb; simp only [Free.AllDeps, Free.AllOuts, Free.At, al1, al2, al3, al4, al5, and_true] at hO hD; go_simp; rfl)
  simp only [an1, an2]
  intro xs w7 hR hV hX
  obtain ⟨X, hj, hxx⟩ := hX
  have ee := hxx 12 (show (12 : Nat) < 14 by decide)
  have TA := hj.new (by rw [ee]; simp)
  simp only [Free.AllV, Free.At, List.length_cons, List.length_nil, Nat.reduceAdd, List.getElem?_cons_succ, List.getElem?_cons_zero, true_and, and_true] at hV
  simp only [Free.putsFrom, Act.put, Nat.zero_add, Nat.reduceAdd, hV, List.setIfInBounds_toArray, List.set_cons_succ, List.set_cons_zero]
  have hN := hF w7 hR
  have n0 := Two.keptX (w := w6.drew) (mb := g + 3) (rs := [g + 1 + 1]) ⟨n0.c0, n0.c1, n0.f0, n0.f1⟩ hR (by omega) (by simp; try omega)
  have n1 := Two.keptX (w := w6.drew) (mb := g + 3) (rs := [g + 1 + 1]) ⟨n1.c0, n1.c1, n1.f0, n1.f1⟩ hR (by omega) (by simp; try omega)
  have n2 := TA
  have hsz : g + 3 ≤ w7.heap.size := Nat.le_trans hsz hR.size
  have K3 := hN
  clear hN TA ee hj hxx hV hR hF
  go_wp2_with fail
  clear hsz
  have hN := K3
  clear K3
  have n00 := n0.c0
  have n01 := n0.c1
  clear n0
  have n10 := n1.c0
  have n11 := n1.c1
  clear n1
  have n20 := n2.c0
  have n21 := n2.c1
  clear n2
  clear hgl
  have HB_w7 := Lib.hid (HB_w4.out.trans ((hN).mono hz_w4))
  have hz_w7 : bb ≤ w7.heap.size := Nat.le_trans hz_w4 (hN).size
  have FN := fun (W : World) (hW : Free.Bel w7 W) => And.intro (keepsB hW n00) (And.intro (keepsB hW n01) (And.intro (keepsB hW n10) (And.intro (keepsB hW n11) (And.intro (keepsB hW n20) (And.intro (keepsB hW n21) (FA W (bt (hN) hW)))))))
  clear FA HB_w4 hz_w4 KR
  have FA := FN
  clear FN
  have KR := Free.Bel.refl w7
  clear hN n00 n01 n10 n11 n20 n21
  have hcp := chI_pos N o (by omega) (by omega) (by omega) (by omega)
  go_loopw [13] (fun i wr => ∃ j : Nat, j ≤ (hi - lo + 1).toNat ∧ i = .int .i64 (lo + j) ∧ Free.Bel w7 wr) (fun i _ => (hi - lo + 1).toNat - (intOf i - lo).toNat)
  case atStart => exact ⟨0, by omega, by simp, Free.Bel.refl _⟩
  case round =>
    obtain ⟨j, hj, rfl, HKr⟩ := hrel
    have HB_wr := Lib.hid (HB_w7.out.trans ((HKr).mono hz_w7))
    have hz_wr : bb ≤ wr.heap.size := Nat.le_trans hz_w7 (HKr).size
    have FN := fun (W : World) (hW : Free.Bel wr W) => FA W (bt (HKr) hW)
    clear FA HB_w7 hz_w7 KR
    have FA := FN
    clear FN
    have KR := Free.Bel.refl wr
    have HWR : Free.Bel wr wr := Free.Bel.refl _
    have HL_wr : Free.Bel w7 wr := HKr
    clear HKr
    by_cases hlt : j < (hi - lo + 1).toNat
    · have hjm : lo + (j : Int) ≤ hi := by omega
      obtain ⟨n, hn⟩ : ∃ n, lo + (j : Int) = n := ⟨_, rfl⟩
      have hnb : lo ≤ n ∧ n ≤ hi := by omega
      obtain ⟨p, q, hpq⟩ : ∃ p q, partV (waysI N n o f).toNat (chI N o).toNat = i2 p q := ⟨_, _, rfl⟩
      have HP := Lib.hid hpq
      have hwl := waysI_le N n o f (by omega) (by omega) (by omega) (by omega)
      have hp0 := part_pos _ _ p q hwl.1 (by omega) hpq
      have hw0 := waysI_pos N n o f (by omega) (by omega) (by omega) (by omega)
      have hp1 : decide (0 < p) = decide (f ≤ n ∧ o - f ≤ N - n) := by rw [hp0, decide_eq_decide]; exact hw0
      clear hpq hwl hp0 hw0
      have hn2 : IntKind.i64.wrap (n + 1) = lo + ((j + 1 : Nat) : Int) := by rw [IntWalk.i64_in _ (by omega)]; omega
      have hb := HIS.out n hnb.1 hnb.2
      rw [hn]
      have HHN := Lib.hid hn
      clear hn
      have hab : ¬ (f ≤ n ∧ o - f ≤ N - n) := by omega
      obtain ⟨hb0, hb1, hb2⟩ := hb.2 hab
      skip
      have hp2 : decide (0 < p) = false := hp1.trans (decide_eq_false hab)
      clear hp1
      have HB0 := Lib.hid (congrArg Value.bool hb0)
      have HB1 := Lib.hid (congrArg Value.bool hb1)
      have HB2 := Lib.hid (congrArg Value.bool hb2)
      clear hb0 hb1 hb2
      go_wp2_with fail
      refine (chance_ok N lo hi n o f p q _ hc hd hnb HP).mono ?_
      rintro e w8 ⟨rfl, hB⟩
      have HB_w8 := Lib.hid (HB_wr.out.trans ((hB).mono hz_wr))
      have hz_w8 : bb ≤ w8.heap.size := Nat.le_trans hz_wr (hB).size
      have HL_w8 : Free.Bel w7 w8 := bt HL_wr (hB)
      clear HL_wr
      have HWR : Free.Bel wr w8 := bt HWR (hB)
      have FN := fun (W : World) (hW : Free.Bel w8 W) => FA W (bt (hB) hW)
      clear FA HB_wr hz_wr KR
      have FA := FN
      clear FN
      have KR := Free.Bel.refl w8
      clear hB
      have KA0 : Free.Bel w8 (w8.alloc (.cells #[.int .i64 p, .int .i64 q] 29)) := Bel.allocT (Free.Bel.refl _) _
      go_wp2_with fail
      clear KA0
      have hN : Free.Bel w8 (w8.alloc (.cells #[.int .i64 p, .int .i64 q] 29)) := (Bel.allocT (Free.Bel.refl w8) _)
      have n_g80_0 : (w8.alloc (.cells #[.int .i64 p, .int .i64 q] 29)).cell? ⟨w8.heap.size, 0, none⟩ = some (.int .i64 p) := by simp [go_sem]
      have n_g80_1 : (w8.alloc (.cells #[.int .i64 p, .int .i64 q] 29)).cell? ⟨w8.heap.size, 1, none⟩ = some (.int .i64 q) := by simp [go_sem]
      generalize (w8.alloc (.cells #[.int .i64 p, .int .i64 q] 29)) = w9 at *
      obtain ⟨g80, hgz⟩ : ∃ x, x = w8.heap.size := ⟨_, rfl⟩
      rw [← hgz] at n_g80_0 n_g80_1 ⊢
      clear hgz
      have HB_w9 := Lib.hid (HB_w8.out.trans ((hN).mono hz_w8))
      have hz_w9 : bb ≤ w9.heap.size := Nat.le_trans hz_w8 (hN).size
      have HL_w9 : Free.Bel w7 w9 := bt HL_w8 (hN)
      clear HL_w8
      have HWR : Free.Bel wr w9 := bt HWR (hN)
      have FN := fun (W : World) (hW : Free.Bel w9 W) => And.intro (keepsB hW n_g80_0) (And.intro (keepsB hW n_g80_1) (FA W (bt (hN) hW)))
      clear FA HB_w8 hz_w8 KR
      have FA := FN
      clear FN
      have KR := Free.Bel.refl w9
      clear hN n_g80_0 n_g80_1
      have hF : ∀ W, Free.Bel w9.drew W → Free.Bel w9 W := fun W hW => bt (Bel.drewT (Free.Bel.refl _)) hW
      refine Free.wp_free (R := Free.Bel) (by kernel_rfl) (by kernel_rfl) Free.Bel.refl Free.Bel.trans ?_
      refine Free.Chain.ex ?_ [] [15] (by kernel_rfl) (by kernel_rfl) rfl Free.Bel.refl ?_ ?_
      rotate_left 2
      simp only [an1, an2]
      refine Free.Chain.ex ?_ [(0, 122)] [] (by kernel_rfl) (by kernel_rfl) rfl Free.Bel.refl ?_ ?_
      rotate_left 2
      simp only [an1, an2]
      refine Free.Chain.ex ?_ [(1, 123)] [] (by kernel_rfl) (by kernel_rfl) rfl Free.Bel.refl ?_ ?_
      rotate_left 2
      simp only [an1, an2]
      rotate_left
      iterate 3 (rotate_left; intro ev W hb hR hO hD; have hS := hF W hR; obtain ⟨hb1, hb2, hb3⟩ := hb; simp only [Free.AllDeps, Free.AllOuts, Free.At, al1, al2, al3, al4, al5, and_true] at hO hD; go_simp; rfl)
      refine Free.Chain.exG ?_ [(2, 124)] [8] 2 false 124 (by kernel_rfl) (by kernel_rfl) rfl (by kernel_rfl) Free.Bel.refl ?_ ?_
      rotate_left 2
      simp only [an1, an2]
      refine Free.Chain.exG ?_ [(2, 124)] [6] 2 false 124 (by kernel_rfl) (by kernel_rfl) rfl (by kernel_rfl) Free.Bel.refl ?_ ?_
      rotate_left 2
      simp only [an1, an2]
      refine Free.Chain.exG ?_ [(2, 124)] [7] 2 false 124 (by kernel_rfl) (by kernel_rfl) rfl (by kernel_rfl) Free.Bel.refl ?_ ?_
      rotate_left 2
      simp only [an1, an2]
      refine Free.Chain.exG ?_ [(2, 124)] [13] 2 false 124 (by kernel_rfl) (by kernel_rfl) rfl (by kernel_rfl) Free.Bel.refl ?_ ?_
      rotate_left 2
      simp only [an1, an2]
      rotate_left
      iterate 4 (rotate_left; intro ev W hb hR hO hD; have hS := hF W hR; obtain ⟨hb1, hb2, hb3⟩ := hb; simp only [Free.AllDeps, Free.AllOuts, Free.At, al1, al2, al3, al4, al5, and_true] at hO hD; refine ⟨by simp [hD], ?_⟩; go_simp; rfl)
      refine Free.Chain.prG (fun v _ => v = .bool false) [(3, 125), (4, 126), (5, 127), (6, 128), (2, 124), (2, 124)] [] 2 false 124 (by kernel_rfl) (by kernel_rfl) rfl (by kernel_rfl) (fun _ _ _ _ h => h) ?_ ?_
      · (intro ev W hb hR hO hD; have hS := hF W hR; obtain ⟨hb1, hb2, hb3⟩ := hb; simp only [Free.AllDeps, Free.AllOuts, Free.At, al1, al2, al3, al4, al5, and_true] at hO hD; refine ⟨by simp [hD], ?_⟩; go_simp; refine yields_enter ?_; (with_reducible refine (is_v 0 0 8 n (.bool false) _ HB0).mono ?_); rintro e W2 ⟨rfl, hB2⟩; exact ⟨_, rfl, hB2, rfl⟩)
      simp only [an1, an2]
      refine Free.Chain.exG ?_ [(2, 124)] [14] 2 false 124 (by kernel_rfl) (by kernel_rfl) rfl (by kernel_rfl) Free.Bel.refl ?_ ?_
      rotate_left 2
      simp only [an1, an2]
      refine Free.Chain.exG ?_ [(8, 130), (2, 124)] [] 2 false 124 (by kernel_rfl) (by kernel_rfl) rfl (by kernel_rfl) Free.Bel.refl ?_ ?_
      rotate_left 2
      simp only [an1, an2]
      refine Free.Chain.exG ?_ [(9, 131), (2, 124)] [] 2 false 124 (by kernel_rfl) (by kernel_rfl) rfl (by kernel_rfl) Free.Bel.refl ?_ ?_
      rotate_left 2
      simp only [an1, an2]
      refine Free.Chain.exG ?_ [(7, 129), (10, 132), (2, 124)] [] 2 false 124 (by kernel_rfl) (by kernel_rfl) rfl (by kernel_rfl) Free.Bel.refl ?_ ?_
      rotate_left 2
      simp only [an1, an2]
      rotate_left
      iterate 4 (rotate_left; intro ev W hb hR hO hD; have hS := hF W hR; obtain ⟨hb1, hb2, hb3⟩ := hb; simp only [Free.AllDeps, Free.AllOuts, Free.At, al1, al2, al3, al4, al5, and_true] at hO hD; refine ⟨by simp [hD], ?_⟩; go_simp; rfl)
      refine Free.Chain.ex ?_ [(2, 124), (11, 133)] [] (by kernel_rfl) (by kernel_rfl) rfl Free.Bel.refl ?_ ?_
      rotate_left 2
      simp only [an1, an2]
      rotate_left
      rotate_left
      · (intro ev W hb hR hO hD; have hS := hF W hR; obtain ⟨hb1, hb2, hb3⟩ := hb; simp only [Free.AllDeps, Free.AllOuts, Free.At, al1, al2, al3, al4, al5, and_true] at hO hD; go_simp; rfl)
      intro xs w10 hR hV
      simp only [Free.AllV, Free.At, List.length_cons, List.length_nil, Nat.reduceAdd, List.getElem?_cons_succ, List.getElem?_cons_zero, true_and, and_true] at hV
      simp only [Free.putsFrom, Act.put, Nat.zero_add, Nat.reduceAdd, hV, List.setIfInBounds_toArray, List.set_cons_succ, List.set_cons_zero]
      have hN := hF w10 hR
      clear hR hF
      have HB_w10 := Lib.hid (HB_w9.out.trans ((hN).mono hz_w9))
      have hz_w10 : bb ≤ w10.heap.size := Nat.le_trans hz_w9 (hN).size
      have HL_w10 : Free.Bel w7 w10 := bt HL_w9 (hN)
      clear HL_w9
      have HWR : Free.Bel wr w10 := bt HWR (hN)
      have FN := fun (W : World) (hW : Free.Bel w10 W) => FA W (bt (hN) hW)
      clear FA HB_w9 hz_w9 KR
      have FA := FN
      clear FN
      have KR := Free.Bel.refl w10
      clear hN hV
      go_wp2_with fail
      have hF : ∀ W, Free.Bel w10.drew W → Free.Bel w10 W := fun W hW => bt (Bel.drewT (Free.Bel.refl _)) hW
      refine Free.wp_free (R := Free.Bel) (by kernel_rfl) (by kernel_rfl) Free.Bel.refl Free.Bel.trans ?_
      refine Free.Chain.ex ?_ [] [3] (by kernel_rfl) (by kernel_rfl) rfl Free.Bel.refl ?_ ?_
      rotate_left 2
      simp only [an1, an2]
      refine Free.Chain.ex ?_ [(0, 135)] [] (by kernel_rfl) (by kernel_rfl) rfl Free.Bel.refl ?_ ?_
      rotate_left 2
      simp only [an1, an2]
      refine Free.Chain.ex ?_ [] [2] (by kernel_rfl) (by kernel_rfl) rfl Free.Bel.refl ?_ ?_
      rotate_left 2
      simp only [an1, an2]
      refine Free.Chain.ex ?_ [(2, 137)] [] (by kernel_rfl) (by kernel_rfl) rfl Free.Bel.refl ?_ ?_
      rotate_left 2
      simp only [an1, an2]
      refine Free.Chain.ex ?_ [(1, 136), (3, 138)] [] (by kernel_rfl) (by kernel_rfl) rfl Free.Bel.refl ?_ ?_
      rotate_left 2
      simp only [an1, an2]
      refine Free.Chain.ex ?_ [(4, 139)] [] (by kernel_rfl) (by kernel_rfl) rfl Free.Bel.refl ?_ ?_
      rotate_left 2
      simp only [an1, an2]
      rotate_left
      iterate 6 (rotate_left; intro ev W hb hR hO hD; have hS := hF W hR; obtain ⟨hb1, hb2, hb3⟩ := hb; simp only [Free.AllDeps, Free.AllOuts, Free.At, al1, al2, al3, al4, al5, and_true] at hO hD; go_simp; rfl)
      refine Free.Chain.exG ?_ [(5, 140)] [8] 5 true 140 (by kernel_rfl) (by kernel_rfl) rfl (by kernel_rfl) Free.Bel.refl ?_ ?_
      rotate_left 2
      simp only [an1, an2]
      refine Free.Chain.exG ?_ [(5, 140)] [6] 5 true 140 (by kernel_rfl) (by kernel_rfl) rfl (by kernel_rfl) Free.Bel.refl ?_ ?_
      rotate_left 2
      simp only [an1, an2]
      refine Free.Chain.exG ?_ [(5, 140)] [7] 5 true 140 (by kernel_rfl) (by kernel_rfl) rfl (by kernel_rfl) Free.Bel.refl ?_ ?_
      rotate_left 2
      simp only [an1, an2]
      refine Free.Chain.exG ?_ [(5, 140)] [13] 5 true 140 (by kernel_rfl) (by kernel_rfl) rfl (by kernel_rfl) Free.Bel.refl ?_ ?_
      rotate_left 2
      simp only [an1, an2]
      rotate_left
      iterate 4 (rotate_left; intro ev W hb hR hO hD; have hS := hF W hR; obtain ⟨hb1, hb2, hb3⟩ := hb; simp only [Free.AllDeps, Free.AllOuts, Free.At, al1, al2, al3, al4, al5, and_true] at hO hD; refine ⟨by simp [hD], ?_⟩; go_simp; rfl)
      refine Free.Chain.prG (fun v _ => v = .bool false) [(6, 141), (7, 142), (8, 143), (9, 144), (5, 140), (5, 140)] [] 5 true 140 (by kernel_rfl) (by kernel_rfl) rfl (by kernel_rfl) (fun _ _ _ _ h => h) ?_ ?_
      · (intro ev W hb hR hO hD; have hS := hF W hR; obtain ⟨hb1, hb2, hb3⟩ := hb; simp only [Free.AllDeps, Free.AllOuts, Free.At, al1, al2, al3, al4, al5, and_true] at hO hD; refine ⟨by simp [hD], ?_⟩; go_simp; refine yields_enter ?_; (with_reducible refine (is_v 0 0 8 n (.bool false) _ HB0).mono ?_); rintro e W2 ⟨rfl, hB2⟩; exact ⟨_, rfl, hB2, rfl⟩)
      simp only [an1, an2]
      refine Free.Chain.exG ?_ [(5, 140)] [8] 5 true 140 (by kernel_rfl) (by kernel_rfl) rfl (by kernel_rfl) Free.Bel.refl ?_ ?_
      rotate_left 2
      simp only [an1, an2]
      refine Free.Chain.exG ?_ [(5, 140)] [9] 5 true 140 (by kernel_rfl) (by kernel_rfl) rfl (by kernel_rfl) Free.Bel.refl ?_ ?_
      rotate_left 2
      simp only [an1, an2]
      refine Free.Chain.exG ?_ [(5, 140)] [11] 5 true 140 (by kernel_rfl) (by kernel_rfl) rfl (by kernel_rfl) Free.Bel.refl ?_ ?_
      rotate_left 2
      simp only [an1, an2]
      refine Free.Chain.exG ?_ [(5, 140)] [13] 5 true 140 (by kernel_rfl) (by kernel_rfl) rfl (by kernel_rfl) Free.Bel.refl ?_ ?_
      rotate_left 2
      simp only [an1, an2]
      rotate_left
      iterate 4 (rotate_left; intro ev W hb hR hO hD; have hS := hF W hR; obtain ⟨hb1, hb2, hb3⟩ := hb; simp only [Free.AllDeps, Free.AllOuts, Free.At, al1, al2, al3, al4, al5, and_true] at hO hD; refine ⟨by simp [hD], ?_⟩; go_simp; rfl)
      refine Free.Chain.prG (fun v _ => v = .bool false) [(11, 146), (12, 147), (13, 148), (14, 149), (10, 145), (5, 140)] [] 5 true 140 (by kernel_rfl) (by kernel_rfl) rfl (by kernel_rfl) (fun _ _ _ _ h => h) ?_ ?_
      · (intro ev W hb hR hO hD; have hS := hF W hR; obtain ⟨hb1, hb2, hb3⟩ := hb; simp only [Free.AllDeps, Free.AllOuts, Free.At, al1, al2, al3, al4, al5, and_true] at hO hD; refine ⟨by simp [hD], ?_⟩; go_simp; refine yields_enter ?_; (with_reducible refine (is_v cx cy ec n (.bool false) _ HB1).mono ?_); rintro e W2 ⟨rfl, hB2⟩; exact ⟨_, rfl, hB2, rfl⟩)
      simp only [an1, an2]
      refine Free.Chain.exG ?_ [(15, 150), (15, 150), (5, 140)] [] 5 true 140 (by kernel_rfl) (by kernel_rfl) rfl (by kernel_rfl) Free.Bel.refl ?_ ?_
      rotate_left 2
      simp only [an1, an2]
      refine Free.Chain.exG ?_ [(16, 151)] [8] 16 false 151 (by kernel_rfl) (by kernel_rfl) rfl (by kernel_rfl) Free.Bel.refl ?_ ?_
      rotate_left 2
      simp only [an1, an2]
      refine Free.Chain.exG ?_ [(16, 151)] [10] 16 false 151 (by kernel_rfl) (by kernel_rfl) rfl (by kernel_rfl) Free.Bel.refl ?_ ?_
      rotate_left 2
      simp only [an1, an2]
      refine Free.Chain.exG ?_ [(16, 151)] [12] 16 false 151 (by kernel_rfl) (by kernel_rfl) rfl (by kernel_rfl) Free.Bel.refl ?_ ?_
      rotate_left 2
      simp only [an1, an2]
      refine Free.Chain.exG ?_ [(16, 151)] [13] 16 false 151 (by kernel_rfl) (by kernel_rfl) rfl (by kernel_rfl) Free.Bel.refl ?_ ?_
      rotate_left 2
      simp only [an1, an2]
      rotate_left
      iterate 5 (rotate_left; intro ev W hb hR hO hD; have hS := hF W hR; obtain ⟨hb1, hb2, hb3⟩ := hb; simp only [Free.AllDeps, Free.AllOuts, Free.At, al1, al2, al3, al4, al5, and_true] at hO hD; refine ⟨by simp [hD], ?_⟩; go_simp; rfl)
      refine Free.Chain.prG (fun v _ => v = .bool false) [(17, 152), (18, 153), (19, 154), (20, 155), (16, 151), (16, 151)] [] 16 false 151 (by kernel_rfl) (by kernel_rfl) rfl (by kernel_rfl) (fun _ _ _ _ h => h) ?_ ?_
      · (intro ev W hb hR hO hD; have hS := hF W hR; obtain ⟨hb1, hb2, hb3⟩ := hb; simp only [Free.AllDeps, Free.AllOuts, Free.At, al1, al2, al3, al4, al5, and_true] at hO hD; refine ⟨by simp [hD], ?_⟩; go_simp; refine yields_enter ?_; (with_reducible refine (is_v dx dy ed n (.bool false) _ HB2).mono ?_); rintro e W2 ⟨rfl, hB2⟩; exact ⟨_, rfl, hB2, rfl⟩)
      simp only [an1, an2]
      refine Free.Chain.exG ?_ [(16, 151), (21, 156), (5, 140)] [] 5 true 140 (by kernel_rfl) (by kernel_rfl) rfl (by kernel_rfl) Free.Bel.refl ?_ ?_
      rotate_left 2
      simp only [an1, an2]
      refine Free.Chain.exG ?_ [(10, 145), (22, 157), (5, 140)] [] 5 true 140 (by kernel_rfl) (by kernel_rfl) rfl (by kernel_rfl) Free.Bel.refl ?_ ?_
      rotate_left 2
      simp only [an1, an2]
      rotate_left
      iterate 2 (rotate_left; intro ev W hb hR hO hD; have hS := hF W hR; obtain ⟨hb1, hb2, hb3⟩ := hb; simp only [Free.AllDeps, Free.AllOuts, Free.At, al1, al2, al3, al4, al5, and_true] at hO hD; refine ⟨by simp [hD], ?_⟩; go_simp; rfl)
      refine Free.Chain.ex ?_ [(5, 140), (23, 158)] [] (by kernel_rfl) (by kernel_rfl) rfl Free.Bel.refl ?_ ?_
      rotate_left 2
      simp only [an1, an2]
      rotate_left
      rotate_left
      · (intro ev W hb hR hO hD; have hS := hF W hR; obtain ⟨hb1, hb2, hb3⟩ := hb; simp only [Free.AllDeps, Free.AllOuts, Free.At, al1, al2, al3, al4, al5, and_true] at hO hD; go_simp; rfl)
      intro xs w11 hR hV
      simp only [Free.AllV, Free.At, List.length_cons, List.length_nil, Nat.reduceAdd, List.getElem?_cons_succ, List.getElem?_cons_zero, true_and, and_true] at hV
      simp only [Free.putsFrom, Act.put, Nat.zero_add, Nat.reduceAdd, hV, List.setIfInBounds_toArray, List.set_cons_succ, List.set_cons_zero]
      have hN := hF w11 hR
      clear hR hF
      have HB_w11 := Lib.hid (HB_w10.out.trans ((hN).mono hz_w10))
      have hz_w11 : bb ≤ w11.heap.size := Nat.le_trans hz_w10 (hN).size
      have HL_w11 : Free.Bel w7 w11 := bt HL_w10 (hN)
      clear HL_w10
      have HWR : Free.Bel wr w11 := bt HWR (hN)
      have FN := fun (W : World) (hW : Free.Bel w11 W) => FA W (bt (hN) hW)
      clear FA HB_w10 hz_w10 KR
      have FA := FN
      clear FN
      have KR := Free.Bel.refl w11
      clear hN hV
      go_wp2_with fail
      go_roundw
      case rel => exact ⟨j + 1, by omega, rfl, HL_w11⟩
      case measure => have := HHN.out; simp [intOf]; omega
    · obtain rfl : j = (hi - lo + 1).toNat := by omega
      have k9 : decide (lo + (((hi - lo + 1).toNat : Nat) : Int) ≤ hi) = false := decide_eq_false (by omega)
      go_wp2_with fail
      refine (rest_bad N lo hi o f _ hc hd HCAN).mono ?_
      rintro e w12 ⟨rfl, hB⟩
      have HB_w12 := Lib.hid (HB_wr.out.trans ((hB).mono hz_wr))
      have hz_w12 : bb ≤ w12.heap.size := Nat.le_trans hz_wr (hB).size
      have HL_w12 : Free.Bel w7 w12 := bt HL_wr (hB)
      clear HL_wr
      have HWR : Free.Bel wr w12 := bt HWR (hB)
      have FN := fun (W : World) (hW : Free.Bel w12 W) => FA W (bt (hB) hW)
      clear FA HB_wr hz_wr KR
      have FA := FN
      clear FN
      have KR := Free.Bel.refl w12
      clear hB
      have KA0 : Free.Bel w12 (w12.alloc (.cells #[.int .i64 0, .int .i64 0, .int .i64 0] 26)) := Bel.allocT (Free.Bel.refl _) _
      go_wp2_with fail
      clear KA0
      have hN : Free.Bel w12 (w12.alloc (.cells #[.int .i64 0, .int .i64 0, .int .i64 0] 26)) := (Bel.allocT (Free.Bel.refl w12) _)
      have n_g120_0 : (w12.alloc (.cells #[.int .i64 0, .int .i64 0, .int .i64 0] 26)).cell? ⟨w12.heap.size, 0, none⟩ = some (.int .i64 0) := by simp [go_sem]
      have n_g120_1 : (w12.alloc (.cells #[.int .i64 0, .int .i64 0, .int .i64 0] 26)).cell? ⟨w12.heap.size, 1, none⟩ = some (.int .i64 0) := by simp [go_sem]
      have n_g120_2 : (w12.alloc (.cells #[.int .i64 0, .int .i64 0, .int .i64 0] 26)).cell? ⟨w12.heap.size, 2, none⟩ = some (.int .i64 0) := by simp [go_sem]
      generalize (w12.alloc (.cells #[.int .i64 0, .int .i64 0, .int .i64 0] 26)) = w13 at *
      obtain ⟨g120, hgz⟩ : ∃ x, x = w12.heap.size := ⟨_, rfl⟩
      rw [← hgz] at n_g120_0 n_g120_1 n_g120_2 ⊢
      clear hgz
      have HB_w13 := Lib.hid (HB_w12.out.trans ((hN).mono hz_w12))
      have hz_w13 : bb ≤ w13.heap.size := Nat.le_trans hz_w12 (hN).size
      have HL_w13 : Free.Bel w7 w13 := bt HL_w12 (hN)
      clear HL_w12
      have HWR : Free.Bel wr w13 := bt HWR (hN)
      have FN := fun (W : World) (hW : Free.Bel w13 W) => And.intro (keepsB hW n_g120_0) (And.intro (keepsB hW n_g120_1) (And.intro (keepsB hW n_g120_2) (FA W (bt (hN) hW))))
      clear FA HB_w12 hz_w12 KR
      have FA := FN
      clear FN
      have KR := Free.Bel.refl w13
      clear hN n_g120_0 n_g120_1 n_g120_2
      go_ret
      have hbb := HBB.out
      subst hbb
      exact ⟨rfl, HB_w13.out⟩
end Go.Proofs.YtdiclofeggkjcaaDoor

/- The law about what can be, and what is left. -/
namespace Go.Proofs.YtdiclofeggkjcaaDoor
set_option linter.unusedSimpArgs false
set_option linter.unusedVariables false
open Go.RowKit Go.Proofs.YtdiclofeggkjcaaDoor.ML Go.Proofs.YtdiclofeggkjcaaDoor.Samp

theorem can_is (N lo hi o f : Int) (hc : 1 ≤ N ∧ N ≤ 36 ∧ 0 ≤ lo ∧ lo ≤ hi ∧ hi ≤ N) (hd : 0 ≤ o ∧ o ≤ N ∧ 0 ≤ f ∧ f ≤ o) :
    ∃ x y e : Int, canR N lo hi o f = .tuple #[i2 x y, .int .i64 e] ∧ (∀ n, lo ≤ n → n ≤ hi → isB x y e n = decide (f ≤ n ∧ o - f ≤ N - n)) ∧
      ((e = 0 ∧ x = max lo f ∧ y = min hi (N - (o - f)) ∧ x ≤ y) ∨ (e = 8 ∧ (x = 0 ∧ y = 0) ∧ min hi (N - (o - f)) < max lo f)) := by
  rcases can_at N lo hi o f hc hd with ⟨h1, _, h2⟩ | ⟨h1, _, h2⟩
  · refine ⟨_, _, _, h2, fun n hl hh => ?_, .inl ⟨rfl, rfl, rfl, h1⟩⟩
    by_cases h : f ≤ n ∧ o - f ≤ N - n
    · rw [decide_eq_true h, isB, decide_eq_true (show (0 : Int) = 0 from rfl), Bool.true_and, Bool.and_eq_true, decide_eq_true_eq, decide_eq_true_eq]; omega
    · rw [decide_eq_false h]
      rw [isB, decide_eq_true (show (0 : Int) = 0 from rfl), Bool.true_and, Bool.and_eq_false_iff, decide_eq_false_iff_not, decide_eq_false_iff_not]
      omega
  · refine ⟨_, _, _, h2, fun n hl hh => ?_, .inr ⟨rfl, ⟨rfl, rfl⟩, h1⟩⟩
    rw [decide_eq_false (by omega), isB, decide_eq_false (by decide), Bool.false_and]
set_option maxRecDepth 100000 in
set_option maxHeartbeats 2000000 in
theorem canL_c (N lo hi o f : Int) (w : World) (hT : TabD w) (HC0 : Hid (cargoB N lo hi = false)) :
    Calls Tryd.prog 12 #[.agg #[.int .i64 N, .int .i64 lo, .int .i64 hi], i2 o f] w fun e w' => e = .returned (.bool true) ∧ Below w.heap.size w w' := by
  have hB0 : Below w.heap.size w ((w.alloc (.cells #[.int .i64 N, .int .i64 lo, .int .i64 hi] 26)).alloc (.cells #[.int .i64 o, .int .i64 f] 34)) := ((Below.refl _ w).alloc (Nat.le_refl _) _).alloc (by simp) _
  have c0_0 : ((w.alloc (.cells #[.int .i64 N, .int .i64 lo, .int .i64 hi] 26)).alloc (.cells #[.int .i64 o, .int .i64 f] 34)).cell? ⟨w.heap.size, 0, none⟩ = some (.int .i64 N) := by simp [go_sem]
  have c0_1 : ((w.alloc (.cells #[.int .i64 N, .int .i64 lo, .int .i64 hi] 26)).alloc (.cells #[.int .i64 o, .int .i64 f] 34)).cell? ⟨w.heap.size, 1, none⟩ = some (.int .i64 lo) := by simp [go_sem]
  have c0_2 : ((w.alloc (.cells #[.int .i64 N, .int .i64 lo, .int .i64 hi] 26)).alloc (.cells #[.int .i64 o, .int .i64 f] 34)).cell? ⟨w.heap.size, 2, none⟩ = some (.int .i64 hi) := by simp [go_sem]
  have c1_0 : ((w.alloc (.cells #[.int .i64 N, .int .i64 lo, .int .i64 hi] 26)).alloc (.cells #[.int .i64 o, .int .i64 f] 34)).cell? ⟨w.heap.size + 1, 0, none⟩ = some (.int .i64 o) := by simp [go_sem]
  have c1_1 : ((w.alloc (.cells #[.int .i64 N, .int .i64 lo, .int .i64 hi] 26)).alloc (.cells #[.int .i64 o, .int .i64 f] 34)).cell? ⟨w.heap.size + 1, 1, none⟩ = some (.int .i64 f) := by simp [go_sem]
  have t0 := keepsB hB0 hT.1
  have t1 := keepsB hB0 hT.2.1
  have t2 := keepsB hB0 hT.2.2
  clear hT
  go_enter Tryd.func12, Tryd.ntmps12
  go_wp2_with fail
  refine (alive_any _ (tabD_mk t0 t1 t2)).mono ?_
  rintro e w1 ⟨rfl, hB1⟩
  have hBz : Below w.heap.size w w1 := hB0.trans (hB1.mono (by simp; omega))
  have hzz : w.heap.size ≤ w1.heap.size := hBz.size
  have hzn : w.heap.size + 2 ≤ w1.heap.size := by have := hB1.size; simp at this; omega
  have kc0_0 := keepsB hB1 c0_0
  have kc0_1 := keepsB hB1 c0_1
  have kc0_2 := keepsB hB1 c0_2
  have kc1_0 := keepsB hB1 c1_0
  have kc1_1 := keepsB hB1 c1_1
  have kt0 := keepsB hB1 t0
  have kt1 := keepsB hB1 t1
  have kt2 := keepsB hB1 t2
  clear hB0 hB1 t0 t1 t2 c0_0 c0_1 c0_2 c1_0 c1_1
  generalize hbb : w.heap.size = bb at *
  have HBB := Lib.hid hbb
  clear hbb
  have HB_w1 := Lib.hid (show Below bb w w1 from hBz)
  have hz_w1 : bb ≤ w1.heap.size := hzz
  have FA : ∀ W, Free.Bel w1 W → W.cell? ⟨0, 0, none⟩ = some (dblF 130) ∧ W.cell? ⟨0, 1, none⟩ = some (dblF 131) ∧ W.cell? ⟨0, 2, none⟩ = some (dblF 132) ∧ W.cell? ⟨bb, 0, none⟩ = some (.int .i64 N) ∧ W.cell? ⟨bb, 1, none⟩ = some (.int .i64 lo) ∧ W.cell? ⟨bb, 2, none⟩ = some (.int .i64 hi) ∧ W.cell? ⟨bb + 1, 0, none⟩ = some (.int .i64 o) ∧ W.cell? ⟨bb + 1, 1, none⟩ = some (.int .i64 f) ∧ bb + 2 ≤ W.heap.size ∧ bb ≤ W.heap.size := fun W hW => ⟨keepsB hW kt0, keepsB hW kt1, keepsB hW kt2, keepsB hW kc0_0, keepsB hW kc0_1, keepsB hW kc0_2, keepsB hW kc1_0, keepsB hW kc1_1, Nat.le_trans hzn hW.size, Nat.le_trans hz_w1 hW.size⟩
  have KR : Free.Bel w1 w1 := Free.Bel.refl _
  clear hBz hzz kt0 kt1 kt2 kc0_0 kc0_1 kc0_2 kc1_0 kc1_1 hzn
  go_wp2_with fail
  refine (cargoR_any N lo hi false _ HC0.out).mono ?_
  rintro e w2 ⟨rfl, hB⟩
  have HB_w2 := Lib.hid (HB_w1.out.trans ((hB).mono hz_w1))
  have hz_w2 : bb ≤ w2.heap.size := Nat.le_trans hz_w1 (hB).size
  have FN : ∀ W, Free.Bel w2 W → W.cell? ⟨0, 0, none⟩ = some (dblF 130) ∧ W.cell? ⟨0, 1, none⟩ = some (dblF 131) ∧ W.cell? ⟨0, 2, none⟩ = some (dblF 132) ∧ W.cell? ⟨bb, 0, none⟩ = some (.int .i64 N) ∧ W.cell? ⟨bb, 1, none⟩ = some (.int .i64 lo) ∧ W.cell? ⟨bb, 2, none⟩ = some (.int .i64 hi) ∧ W.cell? ⟨bb + 1, 0, none⟩ = some (.int .i64 o) ∧ W.cell? ⟨bb + 1, 1, none⟩ = some (.int .i64 f) ∧ bb + 2 ≤ W.heap.size ∧ bb ≤ W.heap.size := fun W hW => by
    obtain ⟨a0, a1, a2, a3, a4, a5, a6, a7, a8, a9⟩ := FA W (Free.Bel.trans _ _ _ (hB) hW)
    exact ⟨a0, a1, a2, a3, a4, a5, a6, a7, a8, a9⟩
  clear FA HB_w1 hz_w1 KR
  have FA := FN
  clear FN
  have KR : Free.Bel w2 w2 := Free.Bel.refl _
  clear hB
  go_wp2_with fail
  go_ret
  have hbb := HBB.out
  subst hbb
  exact ⟨rfl, HB_w2.out⟩
set_option maxRecDepth 100000 in
set_option maxHeartbeats 2000000 in
theorem canL_d (N lo hi o f : Int) (w : World) (hT : TabD w) (hc : 1 ≤ N ∧ N ≤ 36 ∧ 0 ≤ lo ∧ lo ≤ hi ∧ hi ≤ N) (HD0 : Hid (drawB N o f = false)) :
    Calls Tryd.prog 12 #[.agg #[.int .i64 N, .int .i64 lo, .int .i64 hi], i2 o f] w fun e w' => e = .returned (.bool true) ∧ Below w.heap.size w w' := by
  have hB0 : Below w.heap.size w ((w.alloc (.cells #[.int .i64 N, .int .i64 lo, .int .i64 hi] 26)).alloc (.cells #[.int .i64 o, .int .i64 f] 34)) := ((Below.refl _ w).alloc (Nat.le_refl _) _).alloc (by simp) _
  have c0_0 : ((w.alloc (.cells #[.int .i64 N, .int .i64 lo, .int .i64 hi] 26)).alloc (.cells #[.int .i64 o, .int .i64 f] 34)).cell? ⟨w.heap.size, 0, none⟩ = some (.int .i64 N) := by simp [go_sem]
  have c0_1 : ((w.alloc (.cells #[.int .i64 N, .int .i64 lo, .int .i64 hi] 26)).alloc (.cells #[.int .i64 o, .int .i64 f] 34)).cell? ⟨w.heap.size, 1, none⟩ = some (.int .i64 lo) := by simp [go_sem]
  have c0_2 : ((w.alloc (.cells #[.int .i64 N, .int .i64 lo, .int .i64 hi] 26)).alloc (.cells #[.int .i64 o, .int .i64 f] 34)).cell? ⟨w.heap.size, 2, none⟩ = some (.int .i64 hi) := by simp [go_sem]
  have c1_0 : ((w.alloc (.cells #[.int .i64 N, .int .i64 lo, .int .i64 hi] 26)).alloc (.cells #[.int .i64 o, .int .i64 f] 34)).cell? ⟨w.heap.size + 1, 0, none⟩ = some (.int .i64 o) := by simp [go_sem]
  have c1_1 : ((w.alloc (.cells #[.int .i64 N, .int .i64 lo, .int .i64 hi] 26)).alloc (.cells #[.int .i64 o, .int .i64 f] 34)).cell? ⟨w.heap.size + 1, 1, none⟩ = some (.int .i64 f) := by simp [go_sem]
  have t0 := keepsB hB0 hT.1
  have t1 := keepsB hB0 hT.2.1
  have t2 := keepsB hB0 hT.2.2
  clear hT
  go_enter Tryd.func12, Tryd.ntmps12
  go_wp2_with fail
  refine (alive_any _ (tabD_mk t0 t1 t2)).mono ?_
  rintro e w1 ⟨rfl, hB1⟩
  have hBz : Below w.heap.size w w1 := hB0.trans (hB1.mono (by simp; omega))
  have hzz : w.heap.size ≤ w1.heap.size := hBz.size
  have hzn : w.heap.size + 2 ≤ w1.heap.size := by have := hB1.size; simp at this; omega
  have kc0_0 := keepsB hB1 c0_0
  have kc0_1 := keepsB hB1 c0_1
  have kc0_2 := keepsB hB1 c0_2
  have kc1_0 := keepsB hB1 c1_0
  have kc1_1 := keepsB hB1 c1_1
  have kt0 := keepsB hB1 t0
  have kt1 := keepsB hB1 t1
  have kt2 := keepsB hB1 t2
  clear hB0 hB1 t0 t1 t2 c0_0 c0_1 c0_2 c1_0 c1_1
  generalize hbb : w.heap.size = bb at *
  have HBB := Lib.hid hbb
  clear hbb
  have HB_w1 := Lib.hid (show Below bb w w1 from hBz)
  have hz_w1 : bb ≤ w1.heap.size := hzz
  have FA : ∀ W, Free.Bel w1 W → W.cell? ⟨0, 0, none⟩ = some (dblF 130) ∧ W.cell? ⟨0, 1, none⟩ = some (dblF 131) ∧ W.cell? ⟨0, 2, none⟩ = some (dblF 132) ∧ W.cell? ⟨bb, 0, none⟩ = some (.int .i64 N) ∧ W.cell? ⟨bb, 1, none⟩ = some (.int .i64 lo) ∧ W.cell? ⟨bb, 2, none⟩ = some (.int .i64 hi) ∧ W.cell? ⟨bb + 1, 0, none⟩ = some (.int .i64 o) ∧ W.cell? ⟨bb + 1, 1, none⟩ = some (.int .i64 f) ∧ bb + 2 ≤ W.heap.size ∧ bb ≤ W.heap.size := fun W hW => ⟨keepsB hW kt0, keepsB hW kt1, keepsB hW kt2, keepsB hW kc0_0, keepsB hW kc0_1, keepsB hW kc0_2, keepsB hW kc1_0, keepsB hW kc1_1, Nat.le_trans hzn hW.size, Nat.le_trans hz_w1 hW.size⟩
  have KR : Free.Bel w1 w1 := Free.Bel.refl _
  clear hBz hzz kt0 kt1 kt2 kc0_0 kc0_1 kc0_2 kc1_0 kc1_1 hzn
  go_wp2_with fail
  refine (cargoR_any N lo hi true _ (cargoB_ok hc)).mono ?_
  rintro e w2 ⟨rfl, hB⟩
  have HB_w2 := Lib.hid (HB_w1.out.trans ((hB).mono hz_w1))
  have hz_w2 : bb ≤ w2.heap.size := Nat.le_trans hz_w1 (hB).size
  have FN : ∀ W, Free.Bel w2 W → W.cell? ⟨0, 0, none⟩ = some (dblF 130) ∧ W.cell? ⟨0, 1, none⟩ = some (dblF 131) ∧ W.cell? ⟨0, 2, none⟩ = some (dblF 132) ∧ W.cell? ⟨bb, 0, none⟩ = some (.int .i64 N) ∧ W.cell? ⟨bb, 1, none⟩ = some (.int .i64 lo) ∧ W.cell? ⟨bb, 2, none⟩ = some (.int .i64 hi) ∧ W.cell? ⟨bb + 1, 0, none⟩ = some (.int .i64 o) ∧ W.cell? ⟨bb + 1, 1, none⟩ = some (.int .i64 f) ∧ bb + 2 ≤ W.heap.size ∧ bb ≤ W.heap.size := fun W hW => by
    obtain ⟨a0, a1, a2, a3, a4, a5, a6, a7, a8, a9⟩ := FA W (Free.Bel.trans _ _ _ (hB) hW)
    exact ⟨a0, a1, a2, a3, a4, a5, a6, a7, a8, a9⟩
  clear FA HB_w1 hz_w1 KR
  have FA := FN
  clear FN
  have KR : Free.Bel w2 w2 := Free.Bel.refl _
  clear hB
  go_wp2_with fail
  refine (drawR_any N lo hi o f false _ HD0.out).mono ?_
  rintro e w3 ⟨rfl, hB⟩
  have HB_w3 := Lib.hid (HB_w2.out.trans ((hB).mono hz_w2))
  have hz_w3 : bb ≤ w3.heap.size := Nat.le_trans hz_w2 (hB).size
  have FN : ∀ W, Free.Bel w3 W → W.cell? ⟨0, 0, none⟩ = some (dblF 130) ∧ W.cell? ⟨0, 1, none⟩ = some (dblF 131) ∧ W.cell? ⟨0, 2, none⟩ = some (dblF 132) ∧ W.cell? ⟨bb, 0, none⟩ = some (.int .i64 N) ∧ W.cell? ⟨bb, 1, none⟩ = some (.int .i64 lo) ∧ W.cell? ⟨bb, 2, none⟩ = some (.int .i64 hi) ∧ W.cell? ⟨bb + 1, 0, none⟩ = some (.int .i64 o) ∧ W.cell? ⟨bb + 1, 1, none⟩ = some (.int .i64 f) ∧ bb + 2 ≤ W.heap.size ∧ bb ≤ W.heap.size := fun W hW => by
    obtain ⟨a0, a1, a2, a3, a4, a5, a6, a7, a8, a9⟩ := FA W (Free.Bel.trans _ _ _ (hB) hW)
    exact ⟨a0, a1, a2, a3, a4, a5, a6, a7, a8, a9⟩
  clear FA HB_w2 hz_w2 KR
  have FA := FN
  clear FN
  have KR : Free.Bel w3 w3 := Free.Bel.refl _
  clear hB
  go_wp2_with fail
  go_ret
  have hbb := HBB.out
  subst hbb
  exact ⟨rfl, HB_w3.out⟩
theorem canL_walk (N lo hi o f : Int) (w : World) (hT : TabD w) :
    Calls Tryd.prog 12 #[.agg #[.int .i64 N, .int .i64 lo, .int .i64 hi], i2 o f] w fun e w' => e = .returned (.bool true) ∧ Below w.heap.size w w' := by
  cases hc0 : cargoB N lo hi
  · exact canL_c N lo hi o f w hT (Lib.hid hc0)
  have hc := (cargoB_iff N lo hi).1 hc0
  cases hd0 : drawB N o f
  · exact canL_d N lo hi o f w hT hc (Lib.hid hd0)
  have hd := (drawB_iff N o f).1 hd0
  obtain ⟨sx, sy, e, hcan, his, hs⟩ := can_is N lo hi o f hc hd
  by_cases ho : o < N
  · obtain ⟨cx, cy, ec, hc1, hi1, _⟩ := can_is N lo hi (o + 1) f hc (by omega)
    obtain ⟨dx, dy, ed, hc2, hi2, _⟩ := can_is N lo hi (o + 1) (f + 1) hc (by omega)
    have key : ∀ n, lo ≤ n → n ≤ hi → ((f ≤ n ∧ o - f ≤ N - n) → isB sx sy e n = true ∧ (isB cx cy ec n = true ∨ (isB cx cy ec n = false ∧ isB dx dy ed n = true))) ∧ (¬ (f ≤ n ∧ o - f ≤ N - n) → isB sx sy e n = false ∧ isB cx cy ec n = false ∧ isB dx dy ed n = false) := by
      intro n h1 h2
      rw [his n h1 h2, hi1 n h1 h2, hi2 n h1 h2]
      refine ⟨fun h => ⟨decide_eq_true h, ?_⟩, fun h => ⟨decide_eq_false h, decide_eq_false (by omega), decide_eq_false (by omega)⟩⟩
      by_cases h3 : o + 1 - f ≤ N - n
      · exact .inl (decide_eq_true (by omega))
      · exact .inr ⟨decide_eq_false (by omega), decide_eq_true (by omega)⟩
    rcases hs with ⟨rfl, h1, h2, h3⟩ | ⟨rfl, hs, hno⟩
    · exact canL_pg N lo hi o f sx sy cx cy ec dx dy ed w hT hc hd ho (Lib.hid hc1) (Lib.hid hc2) (Lib.hid hcan) (by omega) (Lib.hid key)
    · exact canL_pb N lo hi o f sx sy cx cy ec dx dy ed w hT hc hd ho (Lib.hid hc1) (Lib.hid hc2) (Lib.hid hcan) hs hno (Lib.hid key)
  · have key : ∀ n, lo ≤ n → n ≤ hi → ((f ≤ n ∧ o - f ≤ N - n) → isB sx sy e n = true) ∧ (¬ (f ≤ n ∧ o - f ≤ N - n) → isB sx sy e n = false) := by
      intro n h1 h2
      rw [his n h1 h2]
      exact ⟨fun h => decide_eq_true h, fun h => decide_eq_false h⟩
    rcases hs with ⟨rfl, h1, h2, h3⟩ | ⟨rfl, hs, hno⟩
    · exact canL_fg N lo hi o f sx sy 0 0 0 0 0 0 w hT hc hd (by omega) (Lib.hid hcan) (by omega) (Lib.hid key)
    · exact canL_fb N lo hi o f sx sy 0 0 0 0 0 0 w hT hc hd (by omega) (Lib.hid hcan) hs hno (Lib.hid key)
end Go.Proofs.YtdiclofeggkjcaaDoor

/- For every input the law SampleCan returns true, and its arguments read behind the call as they read before; what a double rule is asked lies in the table as the program's text lays it (tied). Condition: that table. -/
namespace Go.Proofs.YtdiclofeggkjcaaDoor.lawSampleCan
open Go Go.ChangeShapes Go.WideShapes Go.ChangeAt Go.RowKit
set_option linter.unusedVariables false
set_option linter.unusedSimpArgs false

set_option maxRecDepth 100000 in
theorem contract (H : Type) (enc : TypeId × Value → H) (W : World) (base : Nat) (args : Array Value) (ds gs : List (DataW H)) (before : List MemPlace)
    (hval : ∀ (j : Nat) t v, Tryd.f12.params[j]? = some t → args[j]? = some v → Value.okWide Tryd.prog W .any base t v)
    (hW : DataW.Whole enc Tryd.prog Tryd.f12.params.toList Rows.sampleCanSpec.vars false W args.toList ds gs before) (hL : laidMetH Tryd.prog Rows.sampleCanRow.laid W) :
    Calls Tryd.prog 12 args W fun e W' => ∃ v, e = .returned v ∧ Rows.sampleCanSpec.post enc Tryd.prog Tryd.f12 false true false false W args v W' := by
  have hW' := hW
  obtain ⟨p, q, hA0, hV, rfl, hfz, hnd⟩ := hW
  have hA : DataW.TrodAll enc Tryd.prog W 0 (fun _ => true) true Tryd.f12.params.toList args.toList ds p := hA0
  have hAk := hA
  rw [Tryd.params12] at hA hval
  obtain ⟨v0, vs0, d0, ds0, p0, q0, hargs, rfl, rfl, h0, r0⟩ := trodAll_cons hA
  obtain ⟨v1, vs1, d1, ds1, p1, q1, rfl, rfl, rfl, h1, r1⟩ := trodAll_cons r0
  obtain ⟨rfl, rfl, rfl⟩ := trodAll_nil r1
  obtain rfl : args = #[v0, v1] := by cases args; simp_all
  obtain ⟨rfl, rfl⟩ := trodVars_none hV
  have hlt : ∀ x ∈ p0 ++ (p1 ++ ([])), x.block < W.heap.size := fun x hx => by
    have := hW'.lt x (by simpa using hx)
    simpa using this
  obtain ⟨N, lo, hi, rfl⟩ := Law.shape12 Tryd.underlying26 (by kernel_rfl) Tryd.underlying3 rfl (by kernel_rfl) rfl (by kernel_rfl) Tryd.underlying24 Tryd.underlying3 Tryd.underlying3 rfl rfl (by kernel_rfl) (by kernel_rfl) (hval 0 26 _ rfl rfl) h0
  obtain ⟨o, f, rfl⟩ := Law.shape2 Tryd.underlying34 (by kernel_rfl) (by kernel_rfl) Tryd.underlying3 Tryd.underlying3 (hval 1 34 _ rfl rfl) h1
  refine (canL_walk N lo hi o f W (Tab.of_laid hL)).mono fun e W' ⟨he, hg⟩ => ?_
  subst he
  refine ⟨_, rfl, _, _, _, [], p0 ++ (p1 ++ ([])), [], hW', ?_, ?_, ?_, hg.frame _, fun h => by cases h⟩
  · exact trodAll_cons_mk (shut_bool Tryd.underlying4 true) trodAll_mk0
  · exact Law.args_below Tab.laidOut (by kernel_rfl) hg hAk hlt
  · rfl

set_option maxRecDepth 100000 in
theorem lifted (os : Os) (started : os.Started) (H : Type) (enc : TypeId × Value → H) :
    ReturnsInHanded {} Tryd.checked os 12 .any (fun w args => (Rows.sampleCanSpec.pre enc Tryd.prog Tryd.f12 [] false w args ∧ laidMetH Tryd.prog Rows.sampleCanRow.laid w) ∧ sizedMet enc Tryd.prog Tryd.f12 (OpenSpec.ofChange Rows.sampleCanSpec) false w args) (Rows.sampleCanSpec.post enc Tryd.prog Tryd.f12 false true false false) := by
  refine returnsInHanded_of_change_and (C := Tryd.checked) (X := fun w _ => laidMetH Tryd.prog Rows.sampleCanRow.laid w) (fun _ _ _ hh h => h.of_heap hh) Tab.own started (by kernel_rfl) Tryd.func12
    (ChangeSpec.witness_shaped (enc := enc) (C := Tryd.checked) (os := os) (X := fun w _ => laidMetH Tryd.prog Rows.sampleCanRow.laid w) false (World.doorLaid Tryd.prog 17 os) #[.agg #[.int .i64 0, .int .i64 0, .int .i64 0], .agg #[.int .i64 0, .int .i64 0]] 8 rfl (World.shaped_of_RefB (by kernel_rfl) (by kernel_rfl)) (by kernel_rfl) (by kernel_rfl) (by kernel_rfl) (Tab.door_met os _)) ?_
  intro W base args ds gs before hval hW _ _ hL _
  exact contract H enc W base args ds gs before hval hW hL

theorem said : Rows.SampleCanSaid :=
  OpenClaim.holds_of_wide 12 Tryd.f12 rfl rfl rfl rfl rfl rfl rfl ⟨rfl, rfl, rfl, rfl, rfl⟩ rfl rfl rfl rfl rfl (by kernel_rfl) Tryd.func12 (by kernel_rfl)
    (of_decide_eq_true (by kernel_rfl)) (by unfold Func.isWrapper; first | (rw [if_pos (by decide +kernel)]; kernel_rfl) | (rw [if_neg (by decide +kernel)]; exact ⟨rfl, rfl⟩))
    (fun os started H enc _ => lifted os started H enc)

theorem plain (f : FuncId) (fn : Func) (hf : Tryd.pinned.checked.prog.funcNamed "oilcake/oilcakelaw01.SampleCan" = some f) (hfn : Tryd.pinned.checked.prog.funcs[f]? = some fn) :
    false = Tryd.pinned.checked.prog.looks [] ∧ ∀ (j : Nat) t, fn.params[j]? = some t → Tryd.pinned.checked.prog.wantsStandIn t = false := by
  obtain rfl : f = 12 := Option.some.inj ((show Tryd.prog.funcNamed "oilcake/oilcakelaw01.SampleCan" = some 12 by kernel_rfl).symm.trans hf) |>.symm
  obtain rfl : fn = Tryd.f12 := (Option.some.inj (Tryd.func12.symm.trans hfn)).symm
  refine ⟨by kernel_rfl, fun j t ht => ?_⟩
  rw [Tryd.params12] at ht
  have hm := Array.mem_of_getElem? ht
  have hall : (Tryd.f12.params.toList.all fun u => !Tryd.prog.wantsStandIn u) = true := by kernel_rfl
  rw [Tryd.params12] at hall
  exact (show Tryd.prog.wantsStandIn t = false by simpa using List.all_eq_true.1 hall t (by simpa using hm))

theorem card : Rows.SampleCanCardSaid :=
  Claim7.holds_tied_plain_at .later [] _ _ _ _ said (fun _ h => by cases h) (by kernel_rfl) (fun _ h => by cases h) sampleCan_row_tie rfl ⟨rfl, rfl⟩ (by kernel_rfl) rfl plain (by kernel_rfl)
#print axioms card
end Go.Proofs.YtdiclofeggkjcaaDoor.lawSampleCan

