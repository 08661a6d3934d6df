/- Rules: the reference's Smallest. -/
import Derived.Test.YthhallnkpbgomaaDoorSampGoodR
namespace Go.Proofs.YthhallnkpbgomaaDoor
set_option linter.unusedSimpArgs false
set_option linter.unusedVariables false
open Go.RowKit Go.Proofs.YthhallnkpbgomaaDoor.ML Go.Proofs.YthhallnkpbgomaaDoor.Samp

/-- The first pair o, a (a up to o, o up to N) that is P; none. -/
def LeastIs (P : Int → Int → Bool) (N o a e : Int) : Prop :=
  (e = 0 ∧ 0 ≤ a ∧ a ≤ o ∧ o ≤ N ∧ P o a = true ∧ (∀ o' a', 0 ≤ a' → a' ≤ o' → o' < o → P o' a' = false) ∧ ∀ a', 0 ≤ a' → a' < a → P o a' = false) ∨
  (e = 6 ∧ o = 0 ∧ a = 0 ∧ ∀ o' a', 0 ≤ a' → a' ≤ o' → o' ≤ N → P o' a' = false)
theorem LeastIs.unique {P : Int → Int → Bool} {N o a e o' a' e' : Int} (h : LeastIs P N o a e) (k : LeastIs P N o' a' e') : o = o' ∧ a = a' ∧ e = e' := by
  rcases h with ⟨rfl, h1, h2, h3, h4, h5, h6⟩ | ⟨rfl, rfl, rfl, h1⟩
  · rcases k with ⟨rfl, k1, k2, k3, k4, k5, k6⟩ | ⟨rfl, rfl, rfl, k1⟩
    · have ho : o = o' := by
        rcases Int.lt_trichotomy o o' with h | h | h
        · have := k5 o a h1 h2 h; rw [h4] at this; cases this
        · exact h
        · have := h5 o' a' k1 k2 h; rw [k4] at this; cases this
      subst ho
      refine ⟨rfl, ?_, rfl⟩
      rcases Int.lt_trichotomy a a' with h | h | h
      · have := k6 a h1 h; rw [h4] at this; cases this
      · exact h
      · have := h6 a' k1 h; rw [k4] at this; cases this
    · have := k1 o a h1 h2 h3; rw [h4] at this; cases this
  · rcases k with ⟨rfl, k1, k2, k3, k4, k5, k6⟩ | ⟨rfl, rfl, rfl, k1⟩
    · have := h1 o' a' k1 k2 k3; rw [k4] at this; cases this
    · exact ⟨rfl, rfl, rfl⟩

set_option maxRecDepth 100000 in
set_option maxHeartbeats 2000000 in
theorem smallR_a (N lo hi g b sn sd bn bd : Int) (w : World) (hc : Hid (cargoB N lo hi = false)) :
    Calls Tryd.prog 23 #[.agg #[.int .i64 N, .int .i64 lo, .int .i64 hi], .int .i64 g, .int .i64 b, .agg #[.int .i64 sn, .int .i64 sd], .agg #[.int .i64 bn, .int .i64 bd]] w fun e w' => e = .returned (.tuple #[.agg #[.int .i64 0, .int .i64 0], .int .i64 10]) ∧ Below w.heap.size w w' := by
  have hB0 : Below w.heap.size w ((((w.alloc (.cells #[.int .i64 N, .int .i64 lo, .int .i64 hi] 25)).alloc (.cells #[.int .i64 sn, .int .i64 sd] 31)).alloc (.cells #[.int .i64 bn, .int .i64 bd] 31)).alloc (.cells #[.int .i64 0, .int .i64 0] 27)) := ((((Below.refl _ w).alloc (Nat.le_refl _) _).alloc (by simp) _).alloc (by simp; omega) _).alloc (by simp; omega) _
  have c0 : ((((w.alloc (.cells #[.int .i64 N, .int .i64 lo, .int .i64 hi] 25)).alloc (.cells #[.int .i64 sn, .int .i64 sd] 31)).alloc (.cells #[.int .i64 bn, .int .i64 bd] 31)).alloc (.cells #[.int .i64 0, .int .i64 0] 27)).cell? ⟨w.heap.size, 0, none⟩ = some (.int .i64 N) := by simp [go_sem]
  have c1 : ((((w.alloc (.cells #[.int .i64 N, .int .i64 lo, .int .i64 hi] 25)).alloc (.cells #[.int .i64 sn, .int .i64 sd] 31)).alloc (.cells #[.int .i64 bn, .int .i64 bd] 31)).alloc (.cells #[.int .i64 0, .int .i64 0] 27)).cell? ⟨w.heap.size, 1, none⟩ = some (.int .i64 lo) := by simp [go_sem]
  have c2 : ((((w.alloc (.cells #[.int .i64 N, .int .i64 lo, .int .i64 hi] 25)).alloc (.cells #[.int .i64 sn, .int .i64 sd] 31)).alloc (.cells #[.int .i64 bn, .int .i64 bd] 31)).alloc (.cells #[.int .i64 0, .int .i64 0] 27)).cell? ⟨w.heap.size, 2, none⟩ = some (.int .i64 hi) := by simp [go_sem]
  have c3 : ((((w.alloc (.cells #[.int .i64 N, .int .i64 lo, .int .i64 hi] 25)).alloc (.cells #[.int .i64 sn, .int .i64 sd] 31)).alloc (.cells #[.int .i64 bn, .int .i64 bd] 31)).alloc (.cells #[.int .i64 0, .int .i64 0] 27)).cell? ⟨w.heap.size + 1, 0, none⟩ = some (.int .i64 sn) := by simp [go_sem]
  have c4 : ((((w.alloc (.cells #[.int .i64 N, .int .i64 lo, .int .i64 hi] 25)).alloc (.cells #[.int .i64 sn, .int .i64 sd] 31)).alloc (.cells #[.int .i64 bn, .int .i64 bd] 31)).alloc (.cells #[.int .i64 0, .int .i64 0] 27)).cell? ⟨w.heap.size + 1, 1, none⟩ = some (.int .i64 sd) := by simp [go_sem]
  have c5 : ((((w.alloc (.cells #[.int .i64 N, .int .i64 lo, .int .i64 hi] 25)).alloc (.cells #[.int .i64 sn, .int .i64 sd] 31)).alloc (.cells #[.int .i64 bn, .int .i64 bd] 31)).alloc (.cells #[.int .i64 0, .int .i64 0] 27)).cell? ⟨w.heap.size + 1 + 1, 0, none⟩ = some (.int .i64 bn) := by simp [go_sem]
  have c6 : ((((w.alloc (.cells #[.int .i64 N, .int .i64 lo, .int .i64 hi] 25)).alloc (.cells #[.int .i64 sn, .int .i64 sd] 31)).alloc (.cells #[.int .i64 bn, .int .i64 bd] 31)).alloc (.cells #[.int .i64 0, .int .i64 0] 27)).cell? ⟨w.heap.size + 1 + 1, 1, none⟩ = some (.int .i64 bd) := by simp [go_sem]
  have s1 := Lib.hid (fun (W : World) (h : Below ((((w.alloc (.cells #[.int .i64 N, .int .i64 lo, .int .i64 hi] 25)).alloc (.cells #[.int .i64 sn, .int .i64 sd] 31)).alloc (.cells #[.int .i64 bn, .int .i64 bd] 31)).alloc (.cells #[.int .i64 0, .int .i64 0] 27)).heap.size ((((w.alloc (.cells #[.int .i64 N, .int .i64 lo, .int .i64 hi] 25)).alloc (.cells #[.int .i64 sn, .int .i64 sd] 31)).alloc (.cells #[.int .i64 bn, .int .i64 bd] 31)).alloc (.cells #[.int .i64 0, .int .i64 0] 27)) W) => And.intro (keepsB h c0) ( And.intro (keepsB h c1) ( And.intro (keepsB h c2) ( And.intro (keepsB h c3) ( And.intro (keepsB h c4) ( And.intro (keepsB h c5) (keepsB h c6)))))))
  have HB0 := Lib.hid hB0
  clear hB0 c0 c1 c2 c3 c4 c5 c6
  have hT : Two (w.heap.size + 1 + 1 + 1) (.int .i64 0) (.int .i64 0) ((((w.alloc (.cells #[.int .i64 N, .int .i64 lo, .int .i64 hi] 25)).alloc (.cells #[.int .i64 sn, .int .i64 sd] 31)).alloc (.cells #[.int .i64 bn, .int .i64 bd] 31)).alloc (.cells #[.int .i64 0, .int .i64 0] 27)) := ⟨by simp [go_sem], by simp [go_sem], by simp [go_sem], by simp [go_sem]⟩
  have HT := Lib.hid (fun (W : World) (h : Below ((((w.alloc (.cells #[.int .i64 N, .int .i64 lo, .int .i64 hi] 25)).alloc (.cells #[.int .i64 sn, .int .i64 sd] 31)).alloc (.cells #[.int .i64 bn, .int .i64 bd] 31)).alloc (.cells #[.int .i64 0, .int .i64 0] 27)).heap.size ((((w.alloc (.cells #[.int .i64 N, .int .i64 lo, .int .i64 hi] 25)).alloc (.cells #[.int .i64 sn, .int .i64 sd] 31)).alloc (.cells #[.int .i64 bn, .int .i64 bd] 31)).alloc (.cells #[.int .i64 0, .int .i64 0] 27)) W) => hT.keeps h)
  clear hT
  go_enter Tryd.func23, Tryd.ntmps23
  go_wp2_with fail
  generalize ((((w.alloc (.cells #[.int .i64 N, .int .i64 lo, .int .i64 hi] 25)).alloc (.cells #[.int .i64 sn, .int .i64 sd] 31)).alloc (.cells #[.int .i64 bn, .int .i64 bd] 31)).alloc (.cells #[.int .i64 0, .int .i64 0] 27)) = W0 at *
  generalize hbb : w.heap.size = bb at *
  have HBB := Lib.hid hbb
  clear hbb
  have hs0 : bb ≤ W0.heap.size := by have h1 := HB0.out.size; have h2 := HBB.out; omega
  refine (cargoR_any N lo hi false _ hc.out).mono ?_
  rintro e w1 ⟨rfl, hB1⟩
  have HB1 := Lib.hid hB1
  clear hB1
  obtain ⟨dw1_0, dw1_1, dw1_2, dw1_3, dw1_4, dw1_5, dw1_6⟩ := s1.out w1 HB1.out
  have Tw1 := HT.out w1 HB1.out
  have tw1_c0 := Tw1.c0
  have tw1_c1 := Tw1.c1
  have tw1_f0 := Tw1.f0
  have tw1_f1 := Tw1.f1
  obtain ⟨z1, z2⟩ := two_stores (w := w1) (b := bb + 1 + 1 + 1) (.int .i64 (0)) (.int .i64 (0)) tw1_c0 tw1_c1
  have hB9 := Lib.hid (((HB0.out.trans (HB1.out.mono hs0)).setCell (p := ⟨bb + 1 + 1 + 1, 0, none⟩) (by show bb ≤ bb + 1 + 1 + 1; omega) (.int .i64 (0))).setCell (p := ⟨bb + 1 + 1 + 1, 1, none⟩) (by show bb ≤ bb + 1 + 1 + 1; omega) (.int .i64 (0)))
  go_wp2_with fail
  have hbb := HBB.out
  subst hbb
  refine bodyPost_ret (v := .tuple #[.agg #[.int .i64 (0), .int .i64 (0)], .int .i64 (10)]) ?_ rfl ⟨rfl, hB9.out⟩
  simp [results, Tryd.results23, go_sem, z1, z2]

set_option maxRecDepth 100000 in
set_option maxHeartbeats 2000000 in
theorem smallR_b (N lo hi g b sn sd bn bd : Int) (w : World) (hc : Hid (cargoB N lo hi = true)) (z : Int) (hy : Hid (riskedE lo hi g b sn sd bn bd = z)) (hz0 : (z != 0) = true) :
    Calls Tryd.prog 23 #[.agg #[.int .i64 N, .int .i64 lo, .int .i64 hi], .int .i64 g, .int .i64 b, .agg #[.int .i64 sn, .int .i64 sd], .agg #[.int .i64 bn, .int .i64 bd]] w fun e w' => e = .returned (.tuple #[.agg #[.int .i64 0, .int .i64 0], .int .i64 z]) ∧ Below w.heap.size w w' := by
  have hB0 : Below w.heap.size w ((((w.alloc (.cells #[.int .i64 N, .int .i64 lo, .int .i64 hi] 25)).alloc (.cells #[.int .i64 sn, .int .i64 sd] 31)).alloc (.cells #[.int .i64 bn, .int .i64 bd] 31)).alloc (.cells #[.int .i64 0, .int .i64 0] 27)) := ((((Below.refl _ w).alloc (Nat.le_refl _) _).alloc (by simp) _).alloc (by simp; omega) _).alloc (by simp; omega) _
  have c0 : ((((w.alloc (.cells #[.int .i64 N, .int .i64 lo, .int .i64 hi] 25)).alloc (.cells #[.int .i64 sn, .int .i64 sd] 31)).alloc (.cells #[.int .i64 bn, .int .i64 bd] 31)).alloc (.cells #[.int .i64 0, .int .i64 0] 27)).cell? ⟨w.heap.size, 0, none⟩ = some (.int .i64 N) := by simp [go_sem]
  have c1 : ((((w.alloc (.cells #[.int .i64 N, .int .i64 lo, .int .i64 hi] 25)).alloc (.cells #[.int .i64 sn, .int .i64 sd] 31)).alloc (.cells #[.int .i64 bn, .int .i64 bd] 31)).alloc (.cells #[.int .i64 0, .int .i64 0] 27)).cell? ⟨w.heap.size, 1, none⟩ = some (.int .i64 lo) := by simp [go_sem]
  have c2 : ((((w.alloc (.cells #[.int .i64 N, .int .i64 lo, .int .i64 hi] 25)).alloc (.cells #[.int .i64 sn, .int .i64 sd] 31)).alloc (.cells #[.int .i64 bn, .int .i64 bd] 31)).alloc (.cells #[.int .i64 0, .int .i64 0] 27)).cell? ⟨w.heap.size, 2, none⟩ = some (.int .i64 hi) := by simp [go_sem]
  have c3 : ((((w.alloc (.cells #[.int .i64 N, .int .i64 lo, .int .i64 hi] 25)).alloc (.cells #[.int .i64 sn, .int .i64 sd] 31)).alloc (.cells #[.int .i64 bn, .int .i64 bd] 31)).alloc (.cells #[.int .i64 0, .int .i64 0] 27)).cell? ⟨w.heap.size + 1, 0, none⟩ = some (.int .i64 sn) := by simp [go_sem]
  have c4 : ((((w.alloc (.cells #[.int .i64 N, .int .i64 lo, .int .i64 hi] 25)).alloc (.cells #[.int .i64 sn, .int .i64 sd] 31)).alloc (.cells #[.int .i64 bn, .int .i64 bd] 31)).alloc (.cells #[.int .i64 0, .int .i64 0] 27)).cell? ⟨w.heap.size + 1, 1, none⟩ = some (.int .i64 sd) := by simp [go_sem]
  have c5 : ((((w.alloc (.cells #[.int .i64 N, .int .i64 lo, .int .i64 hi] 25)).alloc (.cells #[.int .i64 sn, .int .i64 sd] 31)).alloc (.cells #[.int .i64 bn, .int .i64 bd] 31)).alloc (.cells #[.int .i64 0, .int .i64 0] 27)).cell? ⟨w.heap.size + 1 + 1, 0, none⟩ = some (.int .i64 bn) := by simp [go_sem]
  have c6 : ((((w.alloc (.cells #[.int .i64 N, .int .i64 lo, .int .i64 hi] 25)).alloc (.cells #[.int .i64 sn, .int .i64 sd] 31)).alloc (.cells #[.int .i64 bn, .int .i64 bd] 31)).alloc (.cells #[.int .i64 0, .int .i64 0] 27)).cell? ⟨w.heap.size + 1 + 1, 1, none⟩ = some (.int .i64 bd) := by simp [go_sem]
  have s1 := Lib.hid (fun (W : World) (h : Below ((((w.alloc (.cells #[.int .i64 N, .int .i64 lo, .int .i64 hi] 25)).alloc (.cells #[.int .i64 sn, .int .i64 sd] 31)).alloc (.cells #[.int .i64 bn, .int .i64 bd] 31)).alloc (.cells #[.int .i64 0, .int .i64 0] 27)).heap.size ((((w.alloc (.cells #[.int .i64 N, .int .i64 lo, .int .i64 hi] 25)).alloc (.cells #[.int .i64 sn, .int .i64 sd] 31)).alloc (.cells #[.int .i64 bn, .int .i64 bd] 31)).alloc (.cells #[.int .i64 0, .int .i64 0] 27)) W) => And.intro (keepsB h c0) ( And.intro (keepsB h c1) ( And.intro (keepsB h c2) ( And.intro (keepsB h c3) ( And.intro (keepsB h c4) ( And.intro (keepsB h c5) (keepsB h c6)))))))
  have HB0 := Lib.hid hB0
  clear hB0 c0 c1 c2 c3 c4 c5 c6
  have hT : Two (w.heap.size + 1 + 1 + 1) (.int .i64 0) (.int .i64 0) ((((w.alloc (.cells #[.int .i64 N, .int .i64 lo, .int .i64 hi] 25)).alloc (.cells #[.int .i64 sn, .int .i64 sd] 31)).alloc (.cells #[.int .i64 bn, .int .i64 bd] 31)).alloc (.cells #[.int .i64 0, .int .i64 0] 27)) := ⟨by simp [go_sem], by simp [go_sem], by simp [go_sem], by simp [go_sem]⟩
  have HT := Lib.hid (fun (W : World) (h : Below ((((w.alloc (.cells #[.int .i64 N, .int .i64 lo, .int .i64 hi] 25)).alloc (.cells #[.int .i64 sn, .int .i64 sd] 31)).alloc (.cells #[.int .i64 bn, .int .i64 bd] 31)).alloc (.cells #[.int .i64 0, .int .i64 0] 27)).heap.size ((((w.alloc (.cells #[.int .i64 N, .int .i64 lo, .int .i64 hi] 25)).alloc (.cells #[.int .i64 sn, .int .i64 sd] 31)).alloc (.cells #[.int .i64 bn, .int .i64 bd] 31)).alloc (.cells #[.int .i64 0, .int .i64 0] 27)) W) => hT.keeps h)
  clear hT
  go_enter Tryd.func23, Tryd.ntmps23
  go_wp2_with fail
  generalize ((((w.alloc (.cells #[.int .i64 N, .int .i64 lo, .int .i64 hi] 25)).alloc (.cells #[.int .i64 sn, .int .i64 sd] 31)).alloc (.cells #[.int .i64 bn, .int .i64 bd] 31)).alloc (.cells #[.int .i64 0, .int .i64 0] 27)) = W0 at *
  generalize hbb : w.heap.size = bb at *
  have HBB := Lib.hid hbb
  clear hbb
  have hs0 : bb ≤ W0.heap.size := by have h1 := HB0.out.size; have h2 := HBB.out; omega
  refine (cargoR_any N lo hi true _ hc.out).mono ?_
  rintro e w1 ⟨rfl, hB1⟩
  have HB1 := Lib.hid hB1
  clear hB1
  obtain ⟨dw1_0, dw1_1, dw1_2, dw1_3, dw1_4, dw1_5, dw1_6⟩ := s1.out w1 HB1.out
  have Tw1 := HT.out w1 HB1.out
  have hs1 := HB1.out.size
  go_wp2_with fail
  refine (riskedR_any N lo hi g b sn sd bn bd z _ hy.out).mono ?_
  rintro e w2 ⟨rfl, hB2⟩
  have HB2 := Lib.hid (HB1.out.trans (hB2.mono hs1))
  clear hB2
  obtain ⟨dw2_0, dw2_1, dw2_2, dw2_3, dw2_4, dw2_5, dw2_6⟩ := s1.out w2 HB2.out
  have Tw2 := HT.out w2 HB2.out
  have tw2_c0 := Tw2.c0
  have tw2_c1 := Tw2.c1
  have tw2_f0 := Tw2.f0
  have tw2_f1 := Tw2.f1
  obtain ⟨z1, z2⟩ := two_stores (w := w2) (b := bb + 1 + 1 + 1) (.int .i64 (0)) (.int .i64 (0)) tw2_c0 tw2_c1
  have hB9 := Lib.hid (((HB0.out.trans (HB2.out.mono hs0)).setCell (p := ⟨bb + 1 + 1 + 1, 0, none⟩) (by show bb ≤ bb + 1 + 1 + 1; omega) (.int .i64 (0))).setCell (p := ⟨bb + 1 + 1 + 1, 1, none⟩) (by show bb ≤ bb + 1 + 1 + 1; omega) (.int .i64 (0)))
  go_wp2_with fail
  have hbb := HBB.out
  subst hbb
  refine bodyPost_ret (v := .tuple #[.agg #[.int .i64 (0), .int .i64 (0)], .int .i64 (z)]) ?_ rfl ⟨rfl, hB9.out⟩
  simp [results, Tryd.results23, go_sem, z1, z2]

set_option maxRecDepth 100000 in
set_option maxHeartbeats 2000000 in
theorem smallR_c (N lo hi g b sn sd bn bd : Int) (w : World) (hc : Hid (cargoB N lo hi = true)) (hy : Hid (riskedE lo hi g b sn sd bn bd = 0)) (P : Int → Int → Bool) (hP : Hid (∀ o a, 0 ≤ a → a ≤ o → o ≤ N → fineB N g b o a sn sd bn bd = P o a)) :
    Calls Tryd.prog 23 #[.agg #[.int .i64 N, .int .i64 lo, .int .i64 hi], .int .i64 g, .int .i64 b, .agg #[.int .i64 sn, .int .i64 sd], .agg #[.int .i64 bn, .int .i64 bd]] w fun e w' => (∃ o a q, e = .returned (.tuple #[.agg #[.int .i64 o, .int .i64 a], .int .i64 q]) ∧ LeastIs P N o a q) ∧ Below w.heap.size w w' := by
  have hN := (cargoB_iff N lo hi).1 hc.out
  have hM := riskedE_zero hy.out
  have hfine := Lib.hid (fun (o a : Int) (W : World) (h1 : 0 ≤ a) (h2 : a ≤ o) (h3 : o ≤ N) => fineR_any N lo hi g b o a sn sd bn bd (P o a) W (by omega) (by omega) (by omega) (by omega) (by omega) hM.2.2.2.1 hM.2.2.2.2 (hP.out o a h1 h2 h3))
  have hN36 : 1 ≤ N ∧ N ≤ 36 := ⟨hN.1, hN.2.1⟩
  clear hN hM
  have hB0 : Below w.heap.size w ((((w.alloc (.cells #[.int .i64 N, .int .i64 lo, .int .i64 hi] 25)).alloc (.cells #[.int .i64 sn, .int .i64 sd] 31)).alloc (.cells #[.int .i64 bn, .int .i64 bd] 31)).alloc (.cells #[.int .i64 0, .int .i64 0] 27)) := ((((Below.refl _ w).alloc (Nat.le_refl _) _).alloc (by simp) _).alloc (by simp; omega) _).alloc (by simp; omega) _
  have c0 : ((((w.alloc (.cells #[.int .i64 N, .int .i64 lo, .int .i64 hi] 25)).alloc (.cells #[.int .i64 sn, .int .i64 sd] 31)).alloc (.cells #[.int .i64 bn, .int .i64 bd] 31)).alloc (.cells #[.int .i64 0, .int .i64 0] 27)).cell? ⟨w.heap.size, 0, none⟩ = some (.int .i64 N) := by simp [go_sem]
  have c1 : ((((w.alloc (.cells #[.int .i64 N, .int .i64 lo, .int .i64 hi] 25)).alloc (.cells #[.int .i64 sn, .int .i64 sd] 31)).alloc (.cells #[.int .i64 bn, .int .i64 bd] 31)).alloc (.cells #[.int .i64 0, .int .i64 0] 27)).cell? ⟨w.heap.size, 1, none⟩ = some (.int .i64 lo) := by simp [go_sem]
  have c2 : ((((w.alloc (.cells #[.int .i64 N, .int .i64 lo, .int .i64 hi] 25)).alloc (.cells #[.int .i64 sn, .int .i64 sd] 31)).alloc (.cells #[.int .i64 bn, .int .i64 bd] 31)).alloc (.cells #[.int .i64 0, .int .i64 0] 27)).cell? ⟨w.heap.size, 2, none⟩ = some (.int .i64 hi) := by simp [go_sem]
  have c3 : ((((w.alloc (.cells #[.int .i64 N, .int .i64 lo, .int .i64 hi] 25)).alloc (.cells #[.int .i64 sn, .int .i64 sd] 31)).alloc (.cells #[.int .i64 bn, .int .i64 bd] 31)).alloc (.cells #[.int .i64 0, .int .i64 0] 27)).cell? ⟨w.heap.size + 1, 0, none⟩ = some (.int .i64 sn) := by simp [go_sem]
  have c4 : ((((w.alloc (.cells #[.int .i64 N, .int .i64 lo, .int .i64 hi] 25)).alloc (.cells #[.int .i64 sn, .int .i64 sd] 31)).alloc (.cells #[.int .i64 bn, .int .i64 bd] 31)).alloc (.cells #[.int .i64 0, .int .i64 0] 27)).cell? ⟨w.heap.size + 1, 1, none⟩ = some (.int .i64 sd) := by simp [go_sem]
  have c5 : ((((w.alloc (.cells #[.int .i64 N, .int .i64 lo, .int .i64 hi] 25)).alloc (.cells #[.int .i64 sn, .int .i64 sd] 31)).alloc (.cells #[.int .i64 bn, .int .i64 bd] 31)).alloc (.cells #[.int .i64 0, .int .i64 0] 27)).cell? ⟨w.heap.size + 1 + 1, 0, none⟩ = some (.int .i64 bn) := by simp [go_sem]
  have c6 : ((((w.alloc (.cells #[.int .i64 N, .int .i64 lo, .int .i64 hi] 25)).alloc (.cells #[.int .i64 sn, .int .i64 sd] 31)).alloc (.cells #[.int .i64 bn, .int .i64 bd] 31)).alloc (.cells #[.int .i64 0, .int .i64 0] 27)).cell? ⟨w.heap.size + 1 + 1, 1, none⟩ = some (.int .i64 bd) := by simp [go_sem]
  have s1 := Lib.hid (fun (W : World) (h : Below ((((w.alloc (.cells #[.int .i64 N, .int .i64 lo, .int .i64 hi] 25)).alloc (.cells #[.int .i64 sn, .int .i64 sd] 31)).alloc (.cells #[.int .i64 bn, .int .i64 bd] 31)).alloc (.cells #[.int .i64 0, .int .i64 0] 27)).heap.size ((((w.alloc (.cells #[.int .i64 N, .int .i64 lo, .int .i64 hi] 25)).alloc (.cells #[.int .i64 sn, .int .i64 sd] 31)).alloc (.cells #[.int .i64 bn, .int .i64 bd] 31)).alloc (.cells #[.int .i64 0, .int .i64 0] 27)) W) => And.intro (keepsB h c0) ( And.intro (keepsB h c1) ( And.intro (keepsB h c2) ( And.intro (keepsB h c3) ( And.intro (keepsB h c4) ( And.intro (keepsB h c5) (keepsB h c6)))))))
  have HB0 := Lib.hid hB0
  clear hB0 c0 c1 c2 c3 c4 c5 c6
  have hT : Two (w.heap.size + 1 + 1 + 1) (.int .i64 0) (.int .i64 0) ((((w.alloc (.cells #[.int .i64 N, .int .i64 lo, .int .i64 hi] 25)).alloc (.cells #[.int .i64 sn, .int .i64 sd] 31)).alloc (.cells #[.int .i64 bn, .int .i64 bd] 31)).alloc (.cells #[.int .i64 0, .int .i64 0] 27)) := ⟨by simp [go_sem], by simp [go_sem], by simp [go_sem], by simp [go_sem]⟩
  have HT := Lib.hid (fun (W : World) (h : Below ((((w.alloc (.cells #[.int .i64 N, .int .i64 lo, .int .i64 hi] 25)).alloc (.cells #[.int .i64 sn, .int .i64 sd] 31)).alloc (.cells #[.int .i64 bn, .int .i64 bd] 31)).alloc (.cells #[.int .i64 0, .int .i64 0] 27)).heap.size ((((w.alloc (.cells #[.int .i64 N, .int .i64 lo, .int .i64 hi] 25)).alloc (.cells #[.int .i64 sn, .int .i64 sd] 31)).alloc (.cells #[.int .i64 bn, .int .i64 bd] 31)).alloc (.cells #[.int .i64 0, .int .i64 0] 27)) W) => hT.keeps h)
  clear hT
  go_enter Tryd.func23, Tryd.ntmps23
  go_wp2_with fail
  generalize ((((w.alloc (.cells #[.int .i64 N, .int .i64 lo, .int .i64 hi] 25)).alloc (.cells #[.int .i64 sn, .int .i64 sd] 31)).alloc (.cells #[.int .i64 bn, .int .i64 bd] 31)).alloc (.cells #[.int .i64 0, .int .i64 0] 27)) = W0 at *
  generalize hbb : w.heap.size = bb at *
  have HBB := Lib.hid hbb
  clear hbb
  have hs0 : bb ≤ W0.heap.size := by have h1 := HB0.out.size; have h2 := HBB.out; omega
  refine (cargoR_any N lo hi true _ hc.out).mono ?_
  rintro e w1 ⟨rfl, hB1⟩
  have HB1 := Lib.hid hB1
  clear hB1
  obtain ⟨dw1_0, dw1_1, dw1_2, dw1_3, dw1_4, dw1_5, dw1_6⟩ := s1.out w1 HB1.out
  have Tw1 := HT.out w1 HB1.out
  have hs1 := HB1.out.size
  go_wp2_with fail
  refine (riskedR_any N lo hi g b sn sd bn bd 0 _ hy.out).mono ?_
  rintro e w2 ⟨rfl, hB2⟩
  have HB2 := Lib.hid (HB1.out.trans (hB2.mono hs1))
  clear hB2
  obtain ⟨dw2_0, dw2_1, dw2_2, dw2_3, dw2_4, dw2_5, dw2_6⟩ := s1.out w2 HB2.out
  have Tw2 := HT.out w2 HB2.out
  go_wp2_with fail
  go_loopw [13, 14, 15] (fun i _ _ wr => ∃ n : Int, 0 ≤ n ∧ n ≤ N + 1 ∧ i = .int .i64 n ∧ Hid (∀ o' a', 0 ≤ a' → a' ≤ o' → o' < n → P o' a' = false) ∧ Hid (Below W0.heap.size W0 wr)) (fun i _ _ _ => (N + 1 - intOf i).toNat)
  case atStart => exact ⟨0, by omega, by omega, rfl, fun o' a' h1 h2 h3 => by omega, HB2.out⟩
  case round =>
    obtain ⟨n, hn0, hn1, rfl, hno, hB⟩ := hrel
    obtain ⟨dwr_0, dwr_1, dwr_2, dwr_3, dwr_4, dwr_5, dwr_6⟩ := s1.out wr hB.out
    have Twr := HT.out wr hB.out
    have twr_c0 := Twr.c0
    have twr_c1 := Twr.c1
    have twr_f0 := Twr.f0
    have twr_f1 := Twr.f1
    by_cases hlt : n ≤ N
    · go_wp2_with fail
      go_loopw [14, 15] (fun i _ wr => ∃ k : Int, 0 ≤ k ∧ k ≤ n + 1 ∧ i = .int .i64 k ∧ Hid (∀ a', 0 ≤ a' → a' < k → P n a' = false) ∧ Hid (Below W0.heap.size W0 wr)) (fun i _ _ => (n + 1 - intOf i).toNat)
      case atStart => exact ⟨0, by omega, by omega, rfl, fun a' h1 h2 => by omega, hB.out⟩
      case round =>
        obtain ⟨k, hk0, hk1, rfl, hno2, hB3⟩ := hrel
        have hss := hB3.out.size
        obtain ⟨dwr_0, dwr_1, dwr_2, dwr_3, dwr_4, dwr_5, dwr_6⟩ := s1.out wr hB3.out
        have Twr := HT.out wr hB3.out
        have twr_c0 := Twr.c0
        have twr_c1 := Twr.c1
        have twr_f0 := Twr.f0
        have twr_f1 := Twr.f1
        by_cases hlt2 : k ≤ n
        · have hBa := Lib.hid (Below.trans hB3.out ((belAlloc wr (.cells #[.int .i64 n, .int .i64 k] 27)).mono hss))
          have hsa := hBa.out.size
          obtain ⟨da_0, da_1, da_2, da_3, da_4, da_5, da_6⟩ := s1.out _ hBa.out
          have ka0 := (two_alloc (.int .i64 n) (.int .i64 k) 27 wr).c0
          have ka1 := (two_alloc (.int .i64 n) (.int .i64 k) 27 wr).c1
          have KA := Lib.hid (two_alloc (.int .i64 n) (.int .i64 k) 27 wr)
          generalize hpk : P n k = q
          have HPK := Lib.hid hpk
          have hcall := Lib.hid (hfine.out n k (wr.alloc (.cells #[.int .i64 n, .int .i64 k] 27)) hk0 hlt2 hlt)
          rw [hpk] at hcall
          clear hpk
          cases q
          · go_wp2_with fail
            refine hcall.out.mono ?_
            rintro e w4 ⟨rfl, hB4⟩
            have HB4 := Lib.hid (hBa.out.trans (hB4.mono hsa))
            clear hB4
            go_wp2_with fail
            go_roundw
            case rel => exact ⟨k + 1, by omega, by omega, by go_num, fun a' h1 h2 => by
              by_cases h : a' = k
              · subst h; exact HPK.out
              · exact hno2.out a' h1 (by omega), HB4.out⟩
            case measure => simp [intOf]; omega
          · go_wp2_with fail
            refine hcall.out.mono ?_
            rintro e w4 ⟨rfl, hB4⟩
            have HB4 := Lib.hid (hBa.out.trans (hB4.mono hsa))
            have K4 := KA.out.keeps hB4
            have k40 := K4.c0
            have k41 := K4.c1
            clear hB4
            obtain ⟨dw4_0, dw4_1, dw4_2, dw4_3, dw4_4, dw4_5, dw4_6⟩ := s1.out w4 HB4.out
            have Tw4 := HT.out w4 HB4.out
            have tw4_c0 := Tw4.c0
            have tw4_c1 := Tw4.c1
            have tw4_f0 := Tw4.f0
            have tw4_f1 := Tw4.f1
            obtain ⟨z1, z2⟩ := two_stores (w := w4) (b := bb + 1 + 1 + 1) (.int .i64 (n)) (.int .i64 (k)) tw4_c0 tw4_c1
            have hB9 := Lib.hid (((HB0.out.trans (HB4.out.mono hs0)).setCell (p := ⟨bb + 1 + 1 + 1, 0, none⟩) (by show bb ≤ bb + 1 + 1 + 1; omega) (.int .i64 (n))).setCell (p := ⟨bb + 1 + 1 + 1, 1, none⟩) (by show bb ≤ bb + 1 + 1 + 1; omega) (.int .i64 (k)))
            go_wp2_with fail
            have hbb := HBB.out
            subst hbb
            refine bodyPost_ret (v := .tuple #[.agg #[.int .i64 (n), .int .i64 (k)], .int .i64 (0)]) ?_ rfl ⟨⟨n, k, 0, rfl, .inl ⟨rfl, hk0, hlt2, hlt, HPK.out, hno.out, hno2.out⟩⟩, hB9.out⟩
            simp [results, Tryd.results23, go_sem, z1, z2]
        · go_wp2_with fail
          go_roundw
          case rel => exact ⟨n + 1, by omega, by omega, by go_num, fun o' a' h1 h2 h3 => by
            by_cases h : o' = n
            · subst h; exact hno2.out a' h1 (by omega)
            · exact hno.out o' a' h1 h2 (by omega), hB3.out⟩
          case measure => simp [intOf]; omega
    ·
      obtain ⟨z1, z2⟩ := two_stores (w := wr) (b := bb + 1 + 1 + 1) (.int .i64 (0)) (.int .i64 (0)) twr_c0 twr_c1
      have hB9 := Lib.hid (((HB0.out.trans (hB.out.mono hs0)).setCell (p := ⟨bb + 1 + 1 + 1, 0, none⟩) (by show bb ≤ bb + 1 + 1 + 1; omega) (.int .i64 (0))).setCell (p := ⟨bb + 1 + 1 + 1, 1, none⟩) (by show bb ≤ bb + 1 + 1 + 1; omega) (.int .i64 (0)))
      go_wp2_with fail
      have hbb := HBB.out
      subst hbb
      refine bodyPost_ret (v := .tuple #[.agg #[.int .i64 (0), .int .i64 (0)], .int .i64 (6)]) ?_ rfl ⟨⟨0, 0, 6, rfl, .inr ⟨rfl, rfl, rfl, fun o' a' h1 h2 h3 => hno.out o' a' h1 h2 (by omega)⟩⟩, hB9.out⟩
      simp [results, Tryd.results23, go_sem, z1, z2]
end Go.Proofs.YthhallnkpbgomaaDoor
