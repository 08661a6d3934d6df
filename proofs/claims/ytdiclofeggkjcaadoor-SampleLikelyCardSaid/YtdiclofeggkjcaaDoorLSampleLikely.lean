/- For every input the law SampleLikely returns true, and its arguments read behind the call as they read before; what a double rule is asked lies in the table as the program's text lays it (tied). Condition: that table. -/
/- The law that no number has a greater chance than the likeliest ones: its walk. -/
import Derived.Test.YtdiclofeggkjcaaDoorB7
import Derived.OwnWalk
namespace Go.Proofs.YtdiclofeggkjcaaDoor
set_option linter.unusedSimpArgs false
set_option linter.unusedVariables false
open Go.RowKit Go.Proofs.YtdiclofeggkjcaaDoor.ML Go.Proofs.YtdiclofeggkjcaaDoor.Samp

theorem own_bel {w w' : World} {B n size : Nat} {e : TypeId} {v : Value} {xs : List Value} (h : w.ownsRow B e size v n xs) (hb : Below w.heap.size w w') : w'.ownsRow B e size v n xs := by
  refine ⟨h.1, ?_⟩
  rcases h.2 with hn | ⟨g, cap, cur, rfl, hg, hgg, rest⟩
  · exact .inl hn
  · exact .inr ⟨g, cap, cur, rfl, hg, by rw [hb.block g (Array.getElem?_eq_some_iff.1 hgg).1]; exact hgg, rest⟩
theorem below_grown2 {base n size : Nat} {e : TypeId} {v : Value} {xs : List Value} {w w' : World} (hown : w.ownsRow base e size v n xs) (h : w.grownBy w' v.ownBlock) (hb : base ≤ w.heap.size) : Below base w w' := by
  refine (Below.refl _ _).grown h hb fun k hk => ?_
  rcases hown.2 with ⟨rfl, _⟩ | ⟨g, cap, cur, rfl, hbg, _⟩
  · simp [Value.ownBlock] at hk
  · simp [Value.ownBlock] at hk; omega
theorem IL.of_own {w : World} {B : Nat} {e : TypeId} {v : Value} {L : List Int} (h : w.ownsRow B e 1 v L.length (L.map (Value.int .i64))) (hm : L.length ≤ maxLen) : IL L v w := by
  by_cases hL : L = []
  · subst hL
    rcases h.2 with ⟨rfl, _⟩ | ⟨g, cap, cur, rfl, _⟩
    · exact IL.nil w
    · exact ⟨_, cap, rfl, by simp [maxLen], fun h => absurd rfl h⟩
  · obtain ⟨g, cap, rfl, hb, hc, _⟩ := row_ints h hL
    exact ⟨_, cap, rfl, hm, fun _ => ⟨g, 0, rfl, fun k hk => by rw [hc k hk]; simp [hk]⟩⟩
/-- The most ways of the first numbers. -/
def mostW (N lo o f : Int) : Nat → Int
  | 0 => 0
  | k + 1 => if mostW N lo o f k < waysI N (lo + k) o f then waysI N (lo + k) o f else mostW N lo o f k
/-- The numbers that have them. -/
def bestL (N lo o f : Int) : Nat → List Int
  | 0 => []
  | k + 1 => if mostW N lo o f k < waysI N (lo + k) o f then [lo + k] else if waysI N (lo + k) o f = mostW N lo o f k ∧ 0 < waysI N (lo + k) o f then bestL N lo o f k ++ [lo + k] else bestL N lo o f k
theorem mostW_nonneg (N lo o f : Int) : ∀ k : Nat, 0 ≤ mostW N lo o f k
  | 0 => Int.le_refl _
  | k + 1 => by have := mostW_nonneg N lo o f k; rw [mostW]; split <;> omega
theorem bestL_length (N lo o f : Int) : ∀ k : Nat, (bestL N lo o f k).length ≤ k
  | 0 => Nat.le_refl _
  | k + 1 => by
    have := bestL_length N lo o f k
    rw [bestL]
    split
    · simp
    · split
      · simp; omega
      · omega
theorem able_most (N lo o f : Int) : ∀ (k : Nat) (x : Int), x ∈ ableK N lo o f k → waysI N x o f ≤ mostW N lo o f k
  | 0, _, h => by simp [ableK] at h
  | k + 1, x, h => by
    rw [ableK] at h
    rw [mostW]
    have h1 : x ∈ ableK N lo o f k ∨ x = lo + k := by
      split at h
      · simpa using h
      · exact .inl h
    rcases h1 with h1 | rfl
    · have := able_most N lo o f k x h1
      split <;> omega
    · split <;> omega
theorem best_eq (N lo o f : Int) : ∀ k : Nat, bestL N lo o f k = (ableK N lo o f k).filter fun x => decide (waysI N x o f = mostW N lo o f k)
  | 0 => rfl
  | k + 1 => by
    have ih := best_eq N lo o f k
    have hn := mostW_nonneg N lo o f k
    rw [bestL, ableK, mostW]
    by_cases h : mostW N lo o f k < waysI N (lo + k) o f
    · rw [if_pos h, if_pos h, if_pos (by omega), List.filter_append]
      have h0 : (ableK N lo o f k).filter (fun x => decide (waysI N x o f = waysI N (lo + k) o f)) = [] := by
        rw [List.filter_eq_nil_iff]
        intro x hx
        have := able_most N lo o f k x hx
        simp; omega
      rw [h0]; simp
    · rw [if_neg h, if_neg h]
      by_cases h2 : 0 < waysI N (lo + k) o f
      · rw [if_pos h2, List.filter_append, ← ih]
        by_cases h3 : waysI N (lo + k) o f = mostW N lo o f k
        · rw [if_pos ⟨h3, h2⟩]; simp [h3]
        · rw [if_neg (fun h => h3 h.1)]; simp [h3]
      · rw [if_neg h2, if_neg (fun h => h2 h.2), ih]
/-- The greatest is there. -/
theorem most_there (N lo o f : Int) : ∀ k : Nat, 0 < mostW N lo o f k → ∃ x ∈ ableK N lo o f k, waysI N x o f = mostW N lo o f k
  | 0, h => by simp [mostW] at h
  | k + 1, h => by
    rw [mostW] at h ⊢
    rw [ableK]
    by_cases h1 : mostW N lo o f k < waysI N (lo + k) o f
    · rw [if_pos h1]
      have := mostW_nonneg N lo o f k
      exact ⟨lo + k, by rw [if_pos (by omega)]; simp, rfl⟩
    · rw [if_neg h1] at h ⊢
      obtain ⟨x, hx, he⟩ := most_there N lo o f k h
      exact ⟨x, by split <;> simp [hx], he⟩
theorem like_best (N lo hi o f : Int) (hL : ableL N lo hi o f ≠ []) : likeL N lo hi o f = bestL N lo o f (hi - lo + 1).toNat := by
  rw [best_eq, likeL]
  refine List.filter_congr fun x hx => ?_
  rw [decide_eq_decide]
  have hx' : waysI N x o f ≤ mostW N lo o f (hi - lo + 1).toNat := able_most N lo o f _ x hx
  constructor
  · intro h
    by_cases hm : 0 < mostW N lo o f (hi - lo + 1).toNat
    · obtain ⟨y, hy, he⟩ := most_there N lo o f _ hm
      have := h y hy
      omega
    · have h0 : ∀ (k : Nat) (x : Int), x ∈ ableK N lo o f k → 0 < waysI N x o f := by
        intro k
        induction k with
        | zero => intro x h; simp [ableK] at h
        | succ k ih =>
          intro x h
          rw [ableK] at h
          split at h
          · rename_i hp
            rcases List.mem_append.1 h with h | h
            · exact ih x h
            · simp at h; rw [h]; exact hp
          · exact ih x h
      have := h0 _ x hx
      omega
  · intro h y hy
    have := able_most N lo o f _ y hy
    omega
theorem can_ok (N lo hi o f : Int) (hc : cargoB N lo hi = true) (hd : drawB N o f = true) : ∃ x y, canR N lo hi o f = .tuple #[i2 x y, .int .i64 (likeE N lo hi o f)] := by
  unfold canR likeE
  rw [hc, hd]
  simp only [Bool.true_eq_false, if_false]
  split
  · exact ⟨_, _, rfl⟩
  · exact ⟨_, _, rfl⟩

set_option maxRecDepth 100000 in
set_option maxHeartbeats 4000000 in
theorem likelyL_walk (N lo hi o f : Int) (w : World) (hT : TabD w) :
    Calls Tryd.prog 7 #[.agg #[.int .i64 N, .int .i64 lo, .int .i64 hi], i2 o f] w fun e w' => e = .returned (.bool true) ∧ Below w.heap.size w w' := by
  have hB0 : Below w.heap.size w ((w.alloc (.cells #[.int .i64 N, .int .i64 lo, .int .i64 hi] 26)).alloc (.cells #[.int .i64 o, .int .i64 f] 34)) := ((Below.refl _ w).alloc (Nat.le_refl _) _).alloc (by simp) _
  have c0_0 : ((w.alloc (.cells #[.int .i64 N, .int .i64 lo, .int .i64 hi] 26)).alloc (.cells #[.int .i64 o, .int .i64 f] 34)).cell? ⟨w.heap.size, 0, none⟩ = some (.int .i64 N) := by simp [go_sem]
  have c0_1 : ((w.alloc (.cells #[.int .i64 N, .int .i64 lo, .int .i64 hi] 26)).alloc (.cells #[.int .i64 o, .int .i64 f] 34)).cell? ⟨w.heap.size, 1, none⟩ = some (.int .i64 lo) := by simp [go_sem]
  have c0_2 : ((w.alloc (.cells #[.int .i64 N, .int .i64 lo, .int .i64 hi] 26)).alloc (.cells #[.int .i64 o, .int .i64 f] 34)).cell? ⟨w.heap.size, 2, none⟩ = some (.int .i64 hi) := by simp [go_sem]
  have c1_0 : ((w.alloc (.cells #[.int .i64 N, .int .i64 lo, .int .i64 hi] 26)).alloc (.cells #[.int .i64 o, .int .i64 f] 34)).cell? ⟨w.heap.size + 1, 0, none⟩ = some (.int .i64 o) := by simp [go_sem]
  have c1_1 : ((w.alloc (.cells #[.int .i64 N, .int .i64 lo, .int .i64 hi] 26)).alloc (.cells #[.int .i64 o, .int .i64 f] 34)).cell? ⟨w.heap.size + 1, 1, none⟩ = some (.int .i64 f) := by simp [go_sem]
  have t0 := keepsB hB0 hT.1
  have t1 := keepsB hB0 hT.2.1
  have t2 := keepsB hB0 hT.2.2
  clear hT
  go_enter Tryd.func7, Tryd.ntmps7
  go_wp2_with fail
  refine (alive_any _ (tabD_mk t0 t1 t2)).mono ?_
  rintro e w1 ⟨rfl, hB1⟩
  have hBz : Below w.heap.size w w1 := hB0.trans (hB1.mono (by simp; omega))
  have hzz : w.heap.size ≤ w1.heap.size := hBz.size
  have hzn : w.heap.size + 2 ≤ w1.heap.size := by have := hB1.size; simp at this; omega
  have kc0_0 := keepsB hB1 c0_0
  have kc0_1 := keepsB hB1 c0_1
  have kc0_2 := keepsB hB1 c0_2
  have kc1_0 := keepsB hB1 c1_0
  have kc1_1 := keepsB hB1 c1_1
  have kt0 := keepsB hB1 t0
  have kt1 := keepsB hB1 t1
  have kt2 := keepsB hB1 t2
  clear hB0 hB1 t0 t1 t2 c0_0 c0_1 c0_2 c1_0 c1_1
  generalize hbb : w.heap.size = bb at *
  have HBB := Lib.hid hbb
  clear hbb
  have HB_w1 := Lib.hid (show Below bb w w1 from hBz)
  have hz_w1 : bb ≤ w1.heap.size := hzz
  have FA : ∀ W, Free.Bel w1 W → W.cell? ⟨0, 0, none⟩ = some (dblF 130) ∧ W.cell? ⟨0, 1, none⟩ = some (dblF 131) ∧ W.cell? ⟨0, 2, none⟩ = some (dblF 132) ∧ W.cell? ⟨bb, 0, none⟩ = some (.int .i64 N) ∧ W.cell? ⟨bb, 1, none⟩ = some (.int .i64 lo) ∧ W.cell? ⟨bb, 2, none⟩ = some (.int .i64 hi) ∧ W.cell? ⟨bb + 1, 0, none⟩ = some (.int .i64 o) ∧ W.cell? ⟨bb + 1, 1, none⟩ = some (.int .i64 f) ∧ bb + 2 ≤ W.heap.size ∧ bb ≤ W.heap.size := fun W hW => ⟨keepsB hW kt0, keepsB hW kt1, keepsB hW kt2, keepsB hW kc0_0, keepsB hW kc0_1, keepsB hW kc0_2, keepsB hW kc1_0, keepsB hW kc1_1, Nat.le_trans hzn hW.size, Nat.le_trans hz_w1 hW.size⟩
  have KR : Free.Bel w1 w1 := Free.Bel.refl _
  clear hBz hzz kt0 kt1 kt2 kc0_0 kc0_1 kc0_2 kc1_0 kc1_1 hzn
  go_wp2_with fail
  cases hc0 : cargoB N lo hi
  · have HC0 := hc0
    refine (cargoR_any N lo hi false _ hc0).mono ?_
    rintro e w2 ⟨rfl, hB⟩
    have HB_w2 := Lib.hid (HB_w1.out.trans ((hB).mono hz_w1))
    have hz_w2 : bb ≤ w2.heap.size := Nat.le_trans hz_w1 (hB).size
    have FN : ∀ W, Free.Bel w2 W → W.cell? ⟨0, 0, none⟩ = some (dblF 130) ∧ W.cell? ⟨0, 1, none⟩ = some (dblF 131) ∧ W.cell? ⟨0, 2, none⟩ = some (dblF 132) ∧ W.cell? ⟨bb, 0, none⟩ = some (.int .i64 N) ∧ W.cell? ⟨bb, 1, none⟩ = some (.int .i64 lo) ∧ W.cell? ⟨bb, 2, none⟩ = some (.int .i64 hi) ∧ W.cell? ⟨bb + 1, 0, none⟩ = some (.int .i64 o) ∧ W.cell? ⟨bb + 1, 1, none⟩ = some (.int .i64 f) ∧ bb + 2 ≤ W.heap.size ∧ bb ≤ W.heap.size := fun W hW => by
      obtain ⟨a0, a1, a2, a3, a4, a5, a6, a7, a8, a9⟩ := FA W (Free.Bel.trans _ _ _ (hB) hW)
      exact ⟨a0, a1, a2, a3, a4, a5, a6, a7, a8, a9⟩
    clear FA HB_w1 hz_w1 KR
    have FA := FN
    clear FN
    have KR : Free.Bel w2 w2 := Free.Bel.refl _
    clear hB
    go_wp2_with fail
    go_ret
    have hbb := HBB.out
    subst hbb
    exact ⟨rfl, HB_w2.out⟩
  · have hc := (cargoB_iff N lo hi).1 hc0
    refine (cargoR_any N lo hi true _ hc0).mono ?_
    rintro e w3 ⟨rfl, hB⟩
    have HB_w3 := Lib.hid (HB_w1.out.trans ((hB).mono hz_w1))
    have hz_w3 : bb ≤ w3.heap.size := Nat.le_trans hz_w1 (hB).size
    have FN : ∀ W, Free.Bel w3 W → W.cell? ⟨0, 0, none⟩ = some (dblF 130) ∧ W.cell? ⟨0, 1, none⟩ = some (dblF 131) ∧ W.cell? ⟨0, 2, none⟩ = some (dblF 132) ∧ W.cell? ⟨bb, 0, none⟩ = some (.int .i64 N) ∧ W.cell? ⟨bb, 1, none⟩ = some (.int .i64 lo) ∧ W.cell? ⟨bb, 2, none⟩ = some (.int .i64 hi) ∧ W.cell? ⟨bb + 1, 0, none⟩ = some (.int .i64 o) ∧ W.cell? ⟨bb + 1, 1, none⟩ = some (.int .i64 f) ∧ bb + 2 ≤ W.heap.size ∧ bb ≤ W.heap.size := fun W hW => by
      obtain ⟨a0, a1, a2, a3, a4, a5, a6, a7, a8, a9⟩ := FA W (Free.Bel.trans _ _ _ (hB) hW)
      exact ⟨a0, a1, a2, a3, a4, a5, a6, a7, a8, a9⟩
    clear FA HB_w1 hz_w1 KR
    have FA := FN
    clear FN
    have KR : Free.Bel w3 w3 := Free.Bel.refl _
    clear hB
    have HC := Lib.hid hc0
    clear hc0
    go_wp2_with fail
    cases hd0 : drawB N o f
    · have HD0 := hd0
      refine (drawR_any N lo hi o f false _ hd0).mono ?_
      rintro e w4 ⟨rfl, hB⟩
      have HB_w4 := Lib.hid (HB_w3.out.trans ((hB).mono hz_w3))
      have hz_w4 : bb ≤ w4.heap.size := Nat.le_trans hz_w3 (hB).size
      have FN : ∀ W, Free.Bel w4 W → W.cell? ⟨0, 0, none⟩ = some (dblF 130) ∧ W.cell? ⟨0, 1, none⟩ = some (dblF 131) ∧ W.cell? ⟨0, 2, none⟩ = some (dblF 132) ∧ W.cell? ⟨bb, 0, none⟩ = some (.int .i64 N) ∧ W.cell? ⟨bb, 1, none⟩ = some (.int .i64 lo) ∧ W.cell? ⟨bb, 2, none⟩ = some (.int .i64 hi) ∧ W.cell? ⟨bb + 1, 0, none⟩ = some (.int .i64 o) ∧ W.cell? ⟨bb + 1, 1, none⟩ = some (.int .i64 f) ∧ bb + 2 ≤ W.heap.size ∧ bb ≤ W.heap.size := fun W hW => by
        obtain ⟨a0, a1, a2, a3, a4, a5, a6, a7, a8, a9⟩ := FA W (Free.Bel.trans _ _ _ (hB) hW)
        exact ⟨a0, a1, a2, a3, a4, a5, a6, a7, a8, a9⟩
      clear FA HB_w3 hz_w3 KR
      have FA := FN
      clear FN
      have KR : Free.Bel w4 w4 := Free.Bel.refl _
      clear hB
      go_wp2_with fail
      go_ret
      have hbb := HBB.out
      subst hbb
      exact ⟨rfl, HB_w4.out⟩
    · have hd := (drawB_iff N o f).1 hd0
      refine (drawR_any N lo hi o f true _ hd0).mono ?_
      rintro e w5 ⟨rfl, hB⟩
      have HB_w5 := Lib.hid (HB_w3.out.trans ((hB).mono hz_w3))
      have hz_w5 : bb ≤ w5.heap.size := Nat.le_trans hz_w3 (hB).size
      have FN : ∀ W, Free.Bel w5 W → W.cell? ⟨0, 0, none⟩ = some (dblF 130) ∧ W.cell? ⟨0, 1, none⟩ = some (dblF 131) ∧ W.cell? ⟨0, 2, none⟩ = some (dblF 132) ∧ W.cell? ⟨bb, 0, none⟩ = some (.int .i64 N) ∧ W.cell? ⟨bb, 1, none⟩ = some (.int .i64 lo) ∧ W.cell? ⟨bb, 2, none⟩ = some (.int .i64 hi) ∧ W.cell? ⟨bb + 1, 0, none⟩ = some (.int .i64 o) ∧ W.cell? ⟨bb + 1, 1, none⟩ = some (.int .i64 f) ∧ bb + 2 ≤ W.heap.size ∧ bb ≤ W.heap.size := fun W hW => by
        obtain ⟨a0, a1, a2, a3, a4, a5, a6, a7, a8, a9⟩ := FA W (Free.Bel.trans _ _ _ (hB) hW)
        exact ⟨a0, a1, a2, a3, a4, a5, a6, a7, a8, a9⟩
      clear FA HB_w3 hz_w3 KR
      have FA := FN
      clear FN
      have KR : Free.Bel w5 w5 := Free.Bel.refl _
      clear hB
      have HD := Lib.hid hd0
      clear hd0
      go_wp2_with fail
      obtain ⟨cx, cy, hcan⟩ := can_ok N lo hi o f HC.out HD.out
      obtain ⟨E, hE⟩ : ∃ E, likeE N lo hi o f = E := ⟨_, rfl⟩
      obtain ⟨LA, hLA⟩ : ∃ L, likeA N lo hi o f = L := ⟨_, rfl⟩
      have KL : Hid (∀ W, Calls Tryd.prog 31 #[.agg #[.int .i64 N, .int .i64 lo, .int .i64 hi], i2 o f] W fun e w' => (∃ v, e = .returned (.tuple #[v, .int .i64 E]) ∧ IL LA v w') ∧ Below W.heap.size W w') := fun W => by
        have := likely_any N lo hi o f W
        rw [hE, hLA] at this
        exact this
      have KC : Hid (∀ W, Calls Tryd.prog 23 #[.agg #[.int .i64 N, .int .i64 lo, .int .i64 hi], i2 o f] W fun e w' => e = .returned (.tuple #[i2 cx cy, .int .i64 E]) ∧ Below W.heap.size W w') := fun W => by
        have := can_any N lo hi o f W
        rw [hcan, hE] at this
        exact this
      have hE2 : E = if ableL N lo hi o f = [] then 8 else 0 := by rw [← hE, likeE, HC.out, HD.out]; simp
      have hL2 : LA = if ableL N lo hi o f = [] then [] else bestL N lo o f (hi - lo + 1).toNat := by
        rw [← hLA, likeA, hE, hE2]
        by_cases hL : ableL N lo hi o f = []
        · rw [if_pos hL, if_pos hL, if_neg (by decide)]
        · rw [if_neg hL, if_neg hL, if_pos rfl, like_best N lo hi o f hL]
      clear hcan hE hLA
      by_cases hL : ableL N lo hi o f = []
      · rw [if_pos hL] at hE2 hL2
        subst hE2
        subst hL2
        clear hL
        refine (KL.out _).mono ?_
        rintro e w6 ⟨⟨vl, rfl, hil⟩, hB⟩
        have HB_w6 := Lib.hid (HB_w5.out.trans ((hB).mono hz_w5))
        have hz_w6 : bb ≤ w6.heap.size := Nat.le_trans hz_w5 (hB).size
        have FN : ∀ W, Free.Bel w6 W → W.cell? ⟨0, 0, none⟩ = some (dblF 130) ∧ W.cell? ⟨0, 1, none⟩ = some (dblF 131) ∧ W.cell? ⟨0, 2, none⟩ = some (dblF 132) ∧ W.cell? ⟨bb, 0, none⟩ = some (.int .i64 N) ∧ W.cell? ⟨bb, 1, none⟩ = some (.int .i64 lo) ∧ W.cell? ⟨bb, 2, none⟩ = some (.int .i64 hi) ∧ W.cell? ⟨bb + 1, 0, none⟩ = some (.int .i64 o) ∧ W.cell? ⟨bb + 1, 1, none⟩ = some (.int .i64 f) ∧ bb + 2 ≤ W.heap.size ∧ bb ≤ W.heap.size := fun W hW => by
          obtain ⟨a0, a1, a2, a3, a4, a5, a6, a7, a8, a9⟩ := FA W (Free.Bel.trans _ _ _ (hB) hW)
          exact ⟨a0, a1, a2, a3, a4, a5, a6, a7, a8, a9⟩
        clear FA HB_w5 hz_w5 KR
        have FA := FN
        clear FN
        have KR : Free.Bel w6 w6 := Free.Bel.refl _
        clear hB
        obtain ⟨lp, lcap, rfl, hlm, _⟩ := hil
        go_wp2_with fail
        refine (KC.out _).mono ?_
        rintro e w7 ⟨rfl, hB⟩
        have HB_w7 := Lib.hid (HB_w6.out.trans ((hB).mono hz_w6))
        have hz_w7 : bb ≤ w7.heap.size := Nat.le_trans hz_w6 (hB).size
        have FN : ∀ W, Free.Bel w7 W → W.cell? ⟨0, 0, none⟩ = some (dblF 130) ∧ W.cell? ⟨0, 1, none⟩ = some (dblF 131) ∧ W.cell? ⟨0, 2, none⟩ = some (dblF 132) ∧ W.cell? ⟨bb, 0, none⟩ = some (.int .i64 N) ∧ W.cell? ⟨bb, 1, none⟩ = some (.int .i64 lo) ∧ W.cell? ⟨bb, 2, none⟩ = some (.int .i64 hi) ∧ W.cell? ⟨bb + 1, 0, none⟩ = some (.int .i64 o) ∧ W.cell? ⟨bb + 1, 1, none⟩ = some (.int .i64 f) ∧ bb + 2 ≤ W.heap.size ∧ bb ≤ W.heap.size := fun W hW => by
          obtain ⟨a0, a1, a2, a3, a4, a5, a6, a7, a8, a9⟩ := FA W (Free.Bel.trans _ _ _ (hB) hW)
          exact ⟨a0, a1, a2, a3, a4, a5, a6, a7, a8, a9⟩
        clear FA HB_w6 hz_w6 KR
        have FA := FN
        clear FN
        have KR : Free.Bel w7 w7 := Free.Bel.refl _
        clear hB
        have KA0 : Free.Bel w7 (w7.alloc (.cells #[.int .i64 cx, .int .i64 cy] 24)) := Bel.allocT (Free.Bel.refl _) _
        go_wp2_with fail
        go_ret
        have hbb := HBB.out
        subst hbb
        exact ⟨rfl, HB_w7.out.trans (KA0.mono hz_w7)⟩
      · rw [if_neg hL] at hE2 hL2
        subst hE2
        have HL := Lib.hid hL2
        clear hL hL2
        refine (KL.out _).mono ?_
        rintro e w8 ⟨⟨vl, rfl, hil⟩, hB⟩
        have HB_w8 := Lib.hid (HB_w5.out.trans ((hB).mono hz_w5))
        have hz_w8 : bb ≤ w8.heap.size := Nat.le_trans hz_w5 (hB).size
        have FN : ∀ W, Free.Bel w8 W → W.cell? ⟨0, 0, none⟩ = some (dblF 130) ∧ W.cell? ⟨0, 1, none⟩ = some (dblF 131) ∧ W.cell? ⟨0, 2, none⟩ = some (dblF 132) ∧ W.cell? ⟨bb, 0, none⟩ = some (.int .i64 N) ∧ W.cell? ⟨bb, 1, none⟩ = some (.int .i64 lo) ∧ W.cell? ⟨bb, 2, none⟩ = some (.int .i64 hi) ∧ W.cell? ⟨bb + 1, 0, none⟩ = some (.int .i64 o) ∧ W.cell? ⟨bb + 1, 1, none⟩ = some (.int .i64 f) ∧ bb + 2 ≤ W.heap.size ∧ bb ≤ W.heap.size ∧ IL LA vl W := fun W hW => by
          obtain ⟨a0, a1, a2, a3, a4, a5, a6, a7, a8, a9⟩ := FA W (Free.Bel.trans _ _ _ (hB) hW)
          exact ⟨a0, a1, a2, a3, a4, a5, a6, a7, a8, a9, hil.keeps hW⟩
        clear FA HB_w5 hz_w5 KR
        have FA := FN
        clear FN
        have KR : Free.Bel w8 w8 := Free.Bel.refl _
        clear hB
        obtain ⟨lp, lcap, rfl, hlm, _⟩ := hil
        go_wp2_with fail
        refine (KC.out _).mono ?_
        rintro e w9 ⟨rfl, hB⟩
        have HB_w9 := Lib.hid (HB_w8.out.trans ((hB).mono hz_w8))
        have hz_w9 : bb ≤ w9.heap.size := Nat.le_trans hz_w8 (hB).size
        have FN : ∀ W, Free.Bel w9 W → W.cell? ⟨0, 0, none⟩ = some (dblF 130) ∧ W.cell? ⟨0, 1, none⟩ = some (dblF 131) ∧ W.cell? ⟨0, 2, none⟩ = some (dblF 132) ∧ W.cell? ⟨bb, 0, none⟩ = some (.int .i64 N) ∧ W.cell? ⟨bb, 1, none⟩ = some (.int .i64 lo) ∧ W.cell? ⟨bb, 2, none⟩ = some (.int .i64 hi) ∧ W.cell? ⟨bb + 1, 0, none⟩ = some (.int .i64 o) ∧ W.cell? ⟨bb + 1, 1, none⟩ = some (.int .i64 f) ∧ bb + 2 ≤ W.heap.size ∧ bb ≤ W.heap.size ∧ IL LA (.slice lp LA.length lcap) W := fun W hW => by
          obtain ⟨a0, a1, a2, a3, a4, a5, a6, a7, a8, a9, a10⟩ := FA W (Free.Bel.trans _ _ _ (hB) hW)
          exact ⟨a0, a1, a2, a3, a4, a5, a6, a7, a8, a9, a10⟩
        clear FA HB_w8 hz_w8 KR
        have FA := FN
        clear FN
        have KR : Free.Bel w9 w9 := Free.Bel.refl _
        clear hB
        have KA0 : Free.Bel w9 (w9.alloc (.cells #[.int .i64 cx, .int .i64 cy] 24)) := Bel.allocT (Free.Bel.refl _) _
        go_wp2_with fail
        clear KA0
        have hN : Free.Bel w9 (w9.alloc (.cells #[.int .i64 cx, .int .i64 cy] 24)) := (Bel.allocT (Free.Bel.refl w9) _)
        have n_g90_0 : (w9.alloc (.cells #[.int .i64 cx, .int .i64 cy] 24)).cell? ⟨w9.heap.size, 0, none⟩ = some (.int .i64 cx) := by simp [go_sem]
        have n_g90_1 : (w9.alloc (.cells #[.int .i64 cx, .int .i64 cy] 24)).cell? ⟨w9.heap.size, 1, none⟩ = some (.int .i64 cy) := by simp [go_sem]
        generalize (w9.alloc (.cells #[.int .i64 cx, .int .i64 cy] 24)) = w10 at *
        obtain ⟨g90, hgz⟩ : ∃ x, x = w9.heap.size := ⟨_, rfl⟩
        rw [← hgz] at n_g90_0 n_g90_1 ⊢
        clear hgz
        have HB_w10 := Lib.hid (HB_w9.out.trans ((hN).mono hz_w9))
        have hz_w10 : bb ≤ w10.heap.size := Nat.le_trans hz_w9 (hN).size
        have FN : ∀ W, Free.Bel w10 W → W.cell? ⟨0, 0, none⟩ = some (dblF 130) ∧ W.cell? ⟨0, 1, none⟩ = some (dblF 131) ∧ W.cell? ⟨0, 2, none⟩ = some (dblF 132) ∧ W.cell? ⟨bb, 0, none⟩ = some (.int .i64 N) ∧ W.cell? ⟨bb, 1, none⟩ = some (.int .i64 lo) ∧ W.cell? ⟨bb, 2, none⟩ = some (.int .i64 hi) ∧ W.cell? ⟨bb + 1, 0, none⟩ = some (.int .i64 o) ∧ W.cell? ⟨bb + 1, 1, none⟩ = some (.int .i64 f) ∧ bb + 2 ≤ W.heap.size ∧ bb ≤ W.heap.size ∧ IL LA (.slice lp LA.length lcap) W ∧ W.cell? ⟨g90, 0, none⟩ = some (.int .i64 cx) ∧ W.cell? ⟨g90, 1, none⟩ = some (.int .i64 cy) := fun W hW => by
          obtain ⟨a0, a1, a2, a3, a4, a5, a6, a7, a8, a9, a10⟩ := FA W (Free.Bel.trans _ _ _ (hN) hW)
          exact ⟨a0, a1, a2, a3, a4, a5, a6, a7, a8, a9, a10, keepsB hW n_g90_0, keepsB hW n_g90_1⟩
        clear FA HB_w9 hz_w9 KR
        have FA := FN
        clear FN
        have KR : Free.Bel w10 w10 := Free.Bel.refl _
        clear hN n_g90_0 n_g90_1
        refine (choose_any N o _ (by omega) (by omega) (by omega)).mono ?_
        rintro e _ ⟨rfl, rfl⟩
        have hcp := chI_pos N o (by omega) (by omega) (by omega) (by omega)
        obtain ⟨al, hal⟩ : ∃ al, chI N o = al := ⟨_, rfl⟩
        rw [hal] at hcp ⊢
        have HAL := Lib.hid hal
        clear hal
        obtain ⟨i0, hi0, hz0, hz1, hz2⟩ := info_parts T.infoInt
        have HZ := Lib.hid (And.intro hi0 (And.intro hz0 (And.intro hz1 hz2)))
        clear hi0 hz0 hz1 hz2
        go_wp2_with fail
        go_loopw [13, 11, 12] (fun i s b wr => ∃ j : Nat, j ≤ (hi - lo + 1).toNat ∧ i = .int .i64 (lo + j) ∧ s = .int .i64 (mostW N lo o f j) ∧ wr.ownsRow w10.heap.size 3 1 b (bestL N lo o f j).length ((bestL N lo o f j).map (Value.int .i64)) ∧ Free.Bel w10 wr) (fun i _ _ _ => (hi - lo + 1).toNat - (intOf i - lo).toNat)
        case atStart => exact ⟨0, by omega, by simp, rfl, World.ownsRow_nil _ _ _ _, Free.Bel.refl _⟩
        case round =>
          obtain ⟨j, hj, rfl, rfl, hown, HKr⟩ := hrel
          have HOW := Lib.hid hown
          clear hown
          have hsb : w10.heap.size ≤ wr.heap.size := HKr.size
          obtain ⟨S0, hS0⟩ : ∃ x, w10.heap.size = x := ⟨_, rfl⟩
          rw [hS0] at HOW hsb
          have HS0 := Lib.hid hS0
          clear hS0
          have HB_wr := Lib.hid (HB_w10.out.trans ((HKr).mono hz_w10))
          have hz_wr : bb ≤ wr.heap.size := Nat.le_trans hz_w10 (HKr).size
          have FN : ∀ W, Free.Bel wr W → W.cell? ⟨0, 0, none⟩ = some (dblF 130) ∧ W.cell? ⟨0, 1, none⟩ = some (dblF 131) ∧ W.cell? ⟨0, 2, none⟩ = some (dblF 132) ∧ W.cell? ⟨bb, 0, none⟩ = some (.int .i64 N) ∧ W.cell? ⟨bb, 1, none⟩ = some (.int .i64 lo) ∧ W.cell? ⟨bb, 2, none⟩ = some (.int .i64 hi) ∧ W.cell? ⟨bb + 1, 0, none⟩ = some (.int .i64 o) ∧ W.cell? ⟨bb + 1, 1, none⟩ = some (.int .i64 f) ∧ bb + 2 ≤ W.heap.size ∧ bb ≤ W.heap.size ∧ IL LA (.slice lp LA.length lcap) W ∧ W.cell? ⟨g90, 0, none⟩ = some (.int .i64 cx) ∧ W.cell? ⟨g90, 1, none⟩ = some (.int .i64 cy) := fun W hW => by
            obtain ⟨a0, a1, a2, a3, a4, a5, a6, a7, a8, a9, a10, a11, a12⟩ := FA W (Free.Bel.trans _ _ _ (HKr) hW)
            exact ⟨a0, a1, a2, a3, a4, a5, a6, a7, a8, a9, a10, a11, a12⟩
          clear FA HB_w10 hz_w10 KR
          have FA := FN
          clear FN
          have KR : Free.Bel wr wr := Free.Bel.refl _
          have HWR : Free.Bel wr wr := Free.Bel.refl _
          have HL_wr : Free.Bel w10 wr := HKr
          clear HKr
          by_cases hlt : j < (hi - lo + 1).toNat
          · have hjm : lo + (j : Int) ≤ hi := by omega
            obtain ⟨n, hn⟩ : ∃ n, lo + (j : Int) = n := ⟨_, rfl⟩
            have hnb : lo ≤ n ∧ n ≤ hi := by omega
            have hm1 : mostW N lo o f (j + 1) = if mostW N lo o f j < waysI N n o f then waysI N n o f else mostW N lo o f j := by rw [mostW, hn]
            have hb1 : bestL N lo o f (j + 1) = if mostW N lo o f j < waysI N n o f then [n] else if waysI N n o f = mostW N lo o f j ∧ 0 < waysI N n o f then bestL N lo o f j ++ [n] else bestL N lo o f j := by rw [bestL, hn]
            have hmn := mostW_nonneg N lo o f j
            have hll := bestL_length N lo o f j
            obtain ⟨p, q, hpq⟩ : ∃ p q, partV (waysI N n o f).toNat (chI N o).toNat = i2 p q := ⟨_, _, rfl⟩
            have HP := Lib.hid hpq
            have HO := Lib.hid (show partV (waysI N n o f).toNat al.toNat = .agg #[.int .i64 p, .int .i64 q] by rw [← HAL.out]; exact hpq)
            have hw := waysI_le N n o f (by omega) (by omega) (by omega) (by omega)
            rw [HAL.out] at hw
            obtain ⟨wy, hwy⟩ : ∃ x, waysI N n o f = x := ⟨_, rfl⟩
            obtain ⟨M0, hM0⟩ : ∃ x, mostW N lo o f j = x := ⟨_, rfl⟩
            obtain ⟨bl, hbl⟩ : ∃ x, bestL N lo o f j = x := ⟨_, rfl⟩
            rw [hwy] at hw HO hm1 hb1
            rw [hM0] at hm1 hb1 hmn
            rw [hbl] at hb1 hll HOW
            rw [hM0, hn]
            have HM1 := Lib.hid hm1
            have HB1 := Lib.hid hb1
            have hn2 : IntKind.i64.wrap (n + 1) = lo + ((j + 1 : Nat) : Int) := by rw [IntWalk.i64_in _ (by omega)]; omega
            have HHN := Lib.hid hn
            clear hwy hM0 hbl hm1 hb1 hpq hn
            go_wp2_with fail
            refine (chance_ok N lo hi n o f p q _ hc hd hnb HP).mono ?_
            rintro e w11 ⟨rfl, hB⟩
            have HB_w11 := Lib.hid (HB_wr.out.trans ((hB).mono hz_wr))
            have hz_w11 : bb ≤ w11.heap.size := Nat.le_trans hz_wr (hB).size
            have HL_w11 : Free.Bel w10 w11 := Free.Bel.trans _ _ _ HL_wr (hB)
            clear HL_wr
            have HWR : Free.Bel wr w11 := Free.Bel.trans _ _ _ HWR (hB)
            have FN : ∀ W, Free.Bel w11 W → W.cell? ⟨0, 0, none⟩ = some (dblF 130) ∧ W.cell? ⟨0, 1, none⟩ = some (dblF 131) ∧ W.cell? ⟨0, 2, none⟩ = some (dblF 132) ∧ W.cell? ⟨bb, 0, none⟩ = some (.int .i64 N) ∧ W.cell? ⟨bb, 1, none⟩ = some (.int .i64 lo) ∧ W.cell? ⟨bb, 2, none⟩ = some (.int .i64 hi) ∧ W.cell? ⟨bb + 1, 0, none⟩ = some (.int .i64 o) ∧ W.cell? ⟨bb + 1, 1, none⟩ = some (.int .i64 f) ∧ bb + 2 ≤ W.heap.size ∧ bb ≤ W.heap.size ∧ IL LA (.slice lp LA.length lcap) W ∧ W.cell? ⟨g90, 0, none⟩ = some (.int .i64 cx) ∧ W.cell? ⟨g90, 1, none⟩ = some (.int .i64 cy) := fun W hW => by
              obtain ⟨a0, a1, a2, a3, a4, a5, a6, a7, a8, a9, a10, a11, a12⟩ := FA W (Free.Bel.trans _ _ _ (hB) hW)
              exact ⟨a0, a1, a2, a3, a4, a5, a6, a7, a8, a9, a10, a11, a12⟩
            clear FA HB_wr hz_wr KR
            have FA := FN
            clear FN
            have KR : Free.Bel w11 w11 := Free.Bel.refl _
            clear hB
            have KA0 : Free.Bel w11 (w11.alloc (.cells #[.int .i64 p, .int .i64 q] 29)) := Bel.allocT (Free.Bel.refl _) _
            go_wp2_with fail
            clear KA0
            have hN : Free.Bel w11 (w11.alloc (.cells #[.int .i64 p, .int .i64 q] 29)) := (Bel.allocT (Free.Bel.refl w11) _)
            have n_g110_0 : (w11.alloc (.cells #[.int .i64 p, .int .i64 q] 29)).cell? ⟨w11.heap.size, 0, none⟩ = some (.int .i64 p) := by simp [go_sem]
            have n_g110_1 : (w11.alloc (.cells #[.int .i64 p, .int .i64 q] 29)).cell? ⟨w11.heap.size, 1, none⟩ = some (.int .i64 q) := by simp [go_sem]
            generalize (w11.alloc (.cells #[.int .i64 p, .int .i64 q] 29)) = w12 at *
            obtain ⟨g110, hgz⟩ : ∃ x, x = w11.heap.size := ⟨_, rfl⟩
            rw [← hgz] at n_g110_0 n_g110_1 ⊢
            clear hgz
            have HB_w12 := Lib.hid (HB_w11.out.trans ((hN).mono hz_w11))
            have hz_w12 : bb ≤ w12.heap.size := Nat.le_trans hz_w11 (hN).size
            have HL_w12 : Free.Bel w10 w12 := Free.Bel.trans _ _ _ HL_w11 (hN)
            clear HL_w11
            have HWR : Free.Bel wr w12 := Free.Bel.trans _ _ _ HWR (hN)
            have FN : ∀ W, Free.Bel w12 W → W.cell? ⟨0, 0, none⟩ = some (dblF 130) ∧ W.cell? ⟨0, 1, none⟩ = some (dblF 131) ∧ W.cell? ⟨0, 2, none⟩ = some (dblF 132) ∧ W.cell? ⟨bb, 0, none⟩ = some (.int .i64 N) ∧ W.cell? ⟨bb, 1, none⟩ = some (.int .i64 lo) ∧ W.cell? ⟨bb, 2, none⟩ = some (.int .i64 hi) ∧ W.cell? ⟨bb + 1, 0, none⟩ = some (.int .i64 o) ∧ W.cell? ⟨bb + 1, 1, none⟩ = some (.int .i64 f) ∧ bb + 2 ≤ W.heap.size ∧ bb ≤ W.heap.size ∧ IL LA (.slice lp LA.length lcap) W ∧ W.cell? ⟨g90, 0, none⟩ = some (.int .i64 cx) ∧ W.cell? ⟨g90, 1, none⟩ = some (.int .i64 cy) ∧ W.cell? ⟨g110, 0, none⟩ = some (.int .i64 p) ∧ W.cell? ⟨g110, 1, none⟩ = some (.int .i64 q) := fun W hW => by
              obtain ⟨a0, a1, a2, a3, a4, a5, a6, a7, a8, a9, a10, a11, a12⟩ := FA W (Free.Bel.trans _ _ _ (hN) hW)
              exact ⟨a0, a1, a2, a3, a4, a5, a6, a7, a8, a9, a10, a11, a12, keepsB hW n_g110_0, keepsB hW n_g110_1⟩
            clear FA HB_w11 hz_w11 KR
            have FA := FN
            clear FN
            have KR : Free.Bel w12 w12 := Free.Bel.refl _
            clear hN n_g110_0 n_g110_1
            refine (over_any wy al p q _ (by omega) (by omega) (by omega) (by omega) HO).mono ?_
            rintro e w13 ⟨rfl, hB⟩
            have HB_w13 := Lib.hid (HB_w12.out.trans ((hB).mono hz_w12))
            have hz_w13 : bb ≤ w13.heap.size := Nat.le_trans hz_w12 (hB).size
            have HL_w13 : Free.Bel w10 w13 := Free.Bel.trans _ _ _ HL_w12 (hB)
            clear HL_w12
            have HWR : Free.Bel wr w13 := Free.Bel.trans _ _ _ HWR (hB)
            have FN : ∀ W, Free.Bel w13 W → W.cell? ⟨0, 0, none⟩ = some (dblF 130) ∧ W.cell? ⟨0, 1, none⟩ = some (dblF 131) ∧ W.cell? ⟨0, 2, none⟩ = some (dblF 132) ∧ W.cell? ⟨bb, 0, none⟩ = some (.int .i64 N) ∧ W.cell? ⟨bb, 1, none⟩ = some (.int .i64 lo) ∧ W.cell? ⟨bb, 2, none⟩ = some (.int .i64 hi) ∧ W.cell? ⟨bb + 1, 0, none⟩ = some (.int .i64 o) ∧ W.cell? ⟨bb + 1, 1, none⟩ = some (.int .i64 f) ∧ bb + 2 ≤ W.heap.size ∧ bb ≤ W.heap.size ∧ IL LA (.slice lp LA.length lcap) W ∧ W.cell? ⟨g90, 0, none⟩ = some (.int .i64 cx) ∧ W.cell? ⟨g90, 1, none⟩ = some (.int .i64 cy) ∧ W.cell? ⟨g110, 0, none⟩ = some (.int .i64 p) ∧ W.cell? ⟨g110, 1, none⟩ = some (.int .i64 q) := fun W hW => by
              obtain ⟨a0, a1, a2, a3, a4, a5, a6, a7, a8, a9, a10, a11, a12, a13, a14⟩ := FA W (Free.Bel.trans _ _ _ (hB) hW)
              exact ⟨a0, a1, a2, a3, a4, a5, a6, a7, a8, a9, a10, a11, a12, a13, a14⟩
            clear FA HB_w12 hz_w12 KR
            have FA := FN
            clear FN
            have KR : Free.Bel w13 w13 := Free.Bel.refl _
            clear hB
            have how : w13.ownsRow S0 3 1 _ bl.length (bl.map (Value.int .i64)) := own_bel HOW.out HWR
            have hS9 : S0 ≤ w13.heap.size := Nat.le_trans hsb HWR.size
            have hAL : Below S0 w13 (w13.alloc (.cells #[.int .i64 n] 3)) := (Below.refl _ _).alloc hS9 _
            have HL0 := Lib.hid (show Below S0 w10 w13 from HS0.out ▸ HL_w13)
            by_cases h1 : M0 < wy
            · have hnil := World.ownsRow_nil w13 S0 3 1
              have k1 : (wy == wy) = true := by simp
              have k2 : decide (0 < wy) = true := decide_eq_true (by omega)
              have k0 : decide (M0 < wy) = true := decide_eq_true h1
              go_wp2_with (first | (at_builtin; go_loud (refine wpList_append_own _ rfl _ _ 56 rfl S0 3 i0 (.int .i64 0) 1 8 Tryd.underlying56 HZ.out.1 HZ.out.2.1 HZ.out.2.2.1 HZ.out.2.2.2 rfl (by decide) _ _ _ rfl (hnil.alloc _) ⟨w13.heap.size, 0, none⟩ 1 1 [.int .i64 n] rfl rfl (cell_one_new _ _ _) (fun x hx => by simp at hx; subst hx; rfl) (by unfold maxLen; first | omega | (simp; done) | (simp; omega)) (by first | omega | (simp; done) | (simp; omega)) (by first | (simp; done) | (simp; omega) | omega) ?_); intro v9 w9 hown9 hgrow9 hnil9) | fail)
              go_roundw
              case rel => exact ⟨j + 1, by omega, by simp, by rw [HM1.out, if_pos h1], by rw [HB1.out, if_pos h1, HS0.out]; simpa using hown9, by
                have hg : Below S0 (w13.alloc (.cells #[.int .i64 n] 3)) w9 := below_grown2 (hnil.alloc _) hgrow9 (by simp; omega)
                show Below w10.heap.size w10 w9
                rw [HS0.out]
                exact (HL0.out.trans hAL).trans hg⟩
              case measure => have := HHN.out; simp [intOf]; omega
            · have k0 : decide (M0 < wy) = false := decide_eq_false h1
              by_cases h2 : wy = M0
              · have k1 : (wy == M0) = true := by simp [h2]
                by_cases h3 : 0 < wy
                · have k2 : decide (0 < wy) = true := decide_eq_true h3
                  go_wp2_with (first | (at_builtin; go_loud (refine wpList_append_own _ rfl _ _ 56 rfl S0 3 i0 (.int .i64 0) 1 8 Tryd.underlying56 HZ.out.1 HZ.out.2.1 HZ.out.2.2.1 HZ.out.2.2.2 rfl (by decide) _ _ _ rfl (how.alloc _) ⟨w13.heap.size, 0, none⟩ 1 1 [.int .i64 n] rfl rfl (cell_one_new _ _ _) (fun x hx => by simp at hx; subst hx; rfl) (by unfold maxLen; first | omega | (simp; done) | (simp; omega)) (by first | omega | (simp; done) | (simp; omega)) (by first | (simp; done) | (simp; omega) | omega) ?_); intro v9 w9 hown9 hgrow9 hnil9) | fail)
                  go_roundw
                  case rel => exact ⟨j + 1, by omega, by simp, by rw [HM1.out, if_neg (by omega)], by rw [HB1.out, if_neg (by omega), if_pos (by omega), HS0.out]; simpa using hown9, by
                    have hg : Below S0 (w13.alloc (.cells #[.int .i64 n] 3)) w9 := below_grown2 (how.alloc _) hgrow9 (by simp; omega)
                    show Below w10.heap.size w10 w9
                    rw [HS0.out]
                    exact (HL0.out.trans hAL).trans hg⟩
                  case measure => have := HHN.out; simp [intOf]; omega
                · have k2 : decide (0 < wy) = false := decide_eq_false h3
                  go_wp2_with fail
                  go_roundw
                  case rel => exact ⟨j + 1, by omega, by simp, by rw [HM1.out, if_neg (by omega)], by rw [HB1.out, if_neg (by omega), if_neg (by omega), HS0.out]; exact how, HL_w13⟩
                  case measure => have := HHN.out; simp [intOf]; omega
              · have k1 : (wy == M0) = false := by simp [h2]
                go_wp2_with fail
                go_roundw
                case rel => exact ⟨j + 1, by omega, by simp, by rw [HM1.out, if_neg (by omega)], by rw [HB1.out, if_neg (by omega), if_neg (by omega), HS0.out]; exact how, HL_w13⟩
                case measure => have := HHN.out; simp [intOf]; omega
          · obtain rfl : j = (hi - lo + 1).toNat := by omega
            have hjm : ¬ (lo + (((hi - lo + 1).toNat : Nat) : Int) ≤ hi) := by omega
            have k0 : decide (lo + (((hi - lo + 1).toNat : Nat) : Int) ≤ hi) = false := decide_eq_false hjm
            have how : wr.ownsRow S0 3 1 _ _ _ := HOW.out
            have hlen := bestL_length N lo o f (hi - lo + 1).toNat
            have hil2 := IL.of_own how (by unfold maxLen; omega)
            rw [← HL.out] at hil2
            have hil1 := (FA wr (Free.Bel.refl _)).2.2.2.2.2.2.2.2.2.2.1
            have HI := Lib.hid (And.intro hil1 hil2)
            clear hil1 hil2 how
            go_wp2_with fail
            refine (sameI_any LA _ _ _ HI.out.1 HI.out.2).mono ?_
            rintro e w14 ⟨rfl, hB⟩
            have HB_w14 := Lib.hid (HB_wr.out.trans ((hB).mono hz_wr))
            have hz_w14 : bb ≤ w14.heap.size := Nat.le_trans hz_wr (hB).size
            have HL_w14 : Free.Bel w10 w14 := Free.Bel.trans _ _ _ HL_wr (hB)
            clear HL_wr
            have HWR : Free.Bel wr w14 := Free.Bel.trans _ _ _ HWR (hB)
            have FN : ∀ W, Free.Bel w14 W → W.cell? ⟨0, 0, none⟩ = some (dblF 130) ∧ W.cell? ⟨0, 1, none⟩ = some (dblF 131) ∧ W.cell? ⟨0, 2, none⟩ = some (dblF 132) ∧ W.cell? ⟨bb, 0, none⟩ = some (.int .i64 N) ∧ W.cell? ⟨bb, 1, none⟩ = some (.int .i64 lo) ∧ W.cell? ⟨bb, 2, none⟩ = some (.int .i64 hi) ∧ W.cell? ⟨bb + 1, 0, none⟩ = some (.int .i64 o) ∧ W.cell? ⟨bb + 1, 1, none⟩ = some (.int .i64 f) ∧ bb + 2 ≤ W.heap.size ∧ bb ≤ W.heap.size ∧ IL LA (.slice lp LA.length lcap) W ∧ W.cell? ⟨g90, 0, none⟩ = some (.int .i64 cx) ∧ W.cell? ⟨g90, 1, none⟩ = some (.int .i64 cy) := fun W hW => by
              obtain ⟨a0, a1, a2, a3, a4, a5, a6, a7, a8, a9, a10, a11, a12⟩ := FA W (Free.Bel.trans _ _ _ (hB) hW)
              exact ⟨a0, a1, a2, a3, a4, a5, a6, a7, a8, a9, a10, a11, a12⟩
            clear FA HB_wr hz_wr KR
            have FA := FN
            clear FN
            have KR : Free.Bel w14 w14 := Free.Bel.refl _
            clear hB
            go_wp2_with fail
            go_ret
            have hbb := HBB.out
            subst hbb
            exact ⟨rfl, HB_w14.out⟩
end Go.Proofs.YtdiclofeggkjcaaDoor

/- For every input the law SampleLikely returns true, and its arguments read behind the call as they read before; what a double rule is asked lies in the table as the program's text lays it (tied). Condition: that table. -/
namespace Go.Proofs.YtdiclofeggkjcaaDoor.lawSampleLikely
open Go Go.ChangeShapes Go.WideShapes Go.ChangeAt Go.RowKit
set_option linter.unusedVariables false
set_option linter.unusedSimpArgs false

set_option maxRecDepth 100000 in
theorem contract (H : Type) (enc : TypeId × Value → H) (W : World) (base : Nat) (args : Array Value) (ds gs : List (DataW H)) (before : List MemPlace)
    (hval : ∀ (j : Nat) t v, Tryd.f7.params[j]? = some t → args[j]? = some v → Value.okWide Tryd.prog W .any base t v)
    (hW : DataW.Whole enc Tryd.prog Tryd.f7.params.toList Rows.sampleLikelySpec.vars false W args.toList ds gs before) (hL : laidMetH Tryd.prog Rows.sampleLikelyRow.laid W) :
    Calls Tryd.prog 7 args W fun e W' => ∃ v, e = .returned v ∧ Rows.sampleLikelySpec.post enc Tryd.prog Tryd.f7 false true false false W args v W' := by
  have hW' := hW
  obtain ⟨p, q, hA0, hV, rfl, hfz, hnd⟩ := hW
  have hA : DataW.TrodAll enc Tryd.prog W 0 (fun _ => true) true Tryd.f7.params.toList args.toList ds p := hA0
  have hAk := hA
  rw [Tryd.params7] at hA hval
  obtain ⟨v0, vs0, d0, ds0, p0, q0, hargs, rfl, rfl, h0, r0⟩ := trodAll_cons hA
  obtain ⟨v1, vs1, d1, ds1, p1, q1, rfl, rfl, rfl, h1, r1⟩ := trodAll_cons r0
  obtain ⟨rfl, rfl, rfl⟩ := trodAll_nil r1
  obtain rfl : args = #[v0, v1] := by cases args; simp_all
  obtain ⟨rfl, rfl⟩ := trodVars_none hV
  have hlt : ∀ x ∈ p0 ++ (p1 ++ ([])), x.block < W.heap.size := fun x hx => by
    have := hW'.lt x (by simpa using hx)
    simpa using this
  obtain ⟨N, lo, hi, rfl⟩ := Law.shape12 Tryd.underlying26 (by kernel_rfl) Tryd.underlying3 rfl (by kernel_rfl) rfl (by kernel_rfl) Tryd.underlying24 Tryd.underlying3 Tryd.underlying3 rfl rfl (by kernel_rfl) (by kernel_rfl) (hval 0 26 _ rfl rfl) h0
  obtain ⟨o, f, rfl⟩ := Law.shape2 Tryd.underlying34 (by kernel_rfl) (by kernel_rfl) Tryd.underlying3 Tryd.underlying3 (hval 1 34 _ rfl rfl) h1
  refine (likelyL_walk N lo hi o f W (Tab.of_laid hL)).mono fun e W' ⟨he, hg⟩ => ?_
  subst he
  refine ⟨_, rfl, _, _, _, [], p0 ++ (p1 ++ ([])), [], hW', ?_, ?_, ?_, hg.frame _, fun h => by cases h⟩
  · exact trodAll_cons_mk (shut_bool Tryd.underlying4 true) trodAll_mk0
  · exact Law.args_below Tab.laidOut (by kernel_rfl) hg hAk hlt
  · rfl

set_option maxRecDepth 100000 in
theorem lifted (os : Os) (started : os.Started) (H : Type) (enc : TypeId × Value → H) :
    ReturnsInHanded {} Tryd.checked os 7 .any (fun w args => (Rows.sampleLikelySpec.pre enc Tryd.prog Tryd.f7 [] false w args ∧ laidMetH Tryd.prog Rows.sampleLikelyRow.laid w) ∧ sizedMet enc Tryd.prog Tryd.f7 (OpenSpec.ofChange Rows.sampleLikelySpec) false w args) (Rows.sampleLikelySpec.post enc Tryd.prog Tryd.f7 false true false false) := by
  refine returnsInHanded_of_change_and (C := Tryd.checked) (X := fun w _ => laidMetH Tryd.prog Rows.sampleLikelyRow.laid w) (fun _ _ _ hh h => h.of_heap hh) Tab.own started (by kernel_rfl) Tryd.func7
    (ChangeSpec.witness_shaped (enc := enc) (C := Tryd.checked) (os := os) (X := fun w _ => laidMetH Tryd.prog Rows.sampleLikelyRow.laid w) false (World.doorLaid Tryd.prog 17 os) #[.agg #[.int .i64 0, .int .i64 0, .int .i64 0], .agg #[.int .i64 0, .int .i64 0]] 8 rfl (World.shaped_of_RefB (by kernel_rfl) (by kernel_rfl)) (by kernel_rfl) (by kernel_rfl) (by kernel_rfl) (Tab.door_met os _)) ?_
  intro W base args ds gs before hval hW _ _ hL _
  exact contract H enc W base args ds gs before hval hW hL

theorem said : Rows.SampleLikelySaid :=
  OpenClaim.holds_of_wide 7 Tryd.f7 rfl rfl rfl rfl rfl rfl rfl ⟨rfl, rfl, rfl, rfl, rfl⟩ rfl rfl rfl rfl rfl (by kernel_rfl) Tryd.func7 (by kernel_rfl)
    (of_decide_eq_true (by kernel_rfl)) (by unfold Func.isWrapper; first | (rw [if_pos (by decide +kernel)]; kernel_rfl) | (rw [if_neg (by decide +kernel)]; exact ⟨rfl, rfl⟩))
    (fun os started H enc _ => lifted os started H enc)

theorem plain (f : FuncId) (fn : Func) (hf : Tryd.pinned.checked.prog.funcNamed "oilcake/oilcakelaw01.SampleLikely" = some f) (hfn : Tryd.pinned.checked.prog.funcs[f]? = some fn) :
    false = Tryd.pinned.checked.prog.looks [] ∧ ∀ (j : Nat) t, fn.params[j]? = some t → Tryd.pinned.checked.prog.wantsStandIn t = false := by
  obtain rfl : f = 7 := Option.some.inj ((show Tryd.prog.funcNamed "oilcake/oilcakelaw01.SampleLikely" = some 7 by kernel_rfl).symm.trans hf) |>.symm
  obtain rfl : fn = Tryd.f7 := (Option.some.inj (Tryd.func7.symm.trans hfn)).symm
  refine ⟨by kernel_rfl, fun j t ht => ?_⟩
  rw [Tryd.params7] at ht
  have hm := Array.mem_of_getElem? ht
  have hall : (Tryd.f7.params.toList.all fun u => !Tryd.prog.wantsStandIn u) = true := by kernel_rfl
  rw [Tryd.params7] at hall
  exact (show Tryd.prog.wantsStandIn t = false by simpa using List.all_eq_true.1 hall t (by simpa using hm))

theorem card : Rows.SampleLikelyCardSaid :=
  Claim7.holds_tied_plain_at .later [] _ _ _ _ said (fun _ h => by cases h) (by kernel_rfl) (fun _ h => by cases h) sampleLikely_row_tie rfl ⟨rfl, rfl⟩ (by kernel_rfl) rfl plain (by kernel_rfl)
#print axioms card
end Go.Proofs.YtdiclofeggkjcaaDoor.lawSampleLikely

