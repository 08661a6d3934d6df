/- Rules: Good, and the reference's. -/
import Derived.Test.YthhallnkpbgomaaDoorSampFine
namespace Go.Proofs.YthhallnkpbgomaaDoor
set_option linter.unusedSimpArgs false
set_option linter.unusedVariables false
open Go.RowKit Go.Proofs.YthhallnkpbgomaaDoor.ML Go.Proofs.YthhallnkpbgomaaDoor.Samp

set_option maxRecDepth 100000 in
set_option maxHeartbeats 2000000 in
theorem fineR_any (N lo hi g b o a sn sd bn bd : Int) (r : Bool) (w : World) (hN : 0 ≤ N ∧ N ≤ 36) (hg : 0 ≤ g ∧ g ≤ N) (hb' : 0 ≤ b ∧ b ≤ N) (ho : 0 ≤ o ∧ o ≤ N) (ha : 0 ≤ a ∧ a ≤ o)
    (hs : givenB sn sd = true) (hq : givenB bn bd = true) (hr : fineB N g b o a sn sd bn bd = r) :
    Calls Tryd.prog 63 #[.agg #[.int .i64 N, .int .i64 lo, .int .i64 hi], .agg #[.int .i64 o, .int .i64 a], .int .i64 g, .int .i64 b, .agg #[.int .i64 sn, .int .i64 sd], .agg #[.int .i64 bn, .int .i64 bd]] w fun e w' => e = .returned (.bool r) ∧ Below w.heap.size w w' := by
  have hA := chI_pos N o hN.1 hN.2 ho.1 ho.2
  have hM1 := mostI_bound N g o a hN.2 hg.1 hg.2 ho
  have hM2 := mostI_bound N b o a hN.2 hb'.1 hb'.2 ho
  have hG := (givenB_iff sn sd).1 hs
  have hG2 := (givenB_iff bn bd).1 hq
  unfold fineB at hr
  rw [mostI_few N g o a ha.1 ha.2] at hr hM1
  rw [mostI_few N b o a ha.1 ha.2] at hr hM2
  have c1 := Lib.hid (fun w => choose_any N o w hN.1 hN.2 (by omega))
  have c2 := Lib.hid (fun w => few_any N g o a w hN.2 hg.1 hg.2 (by omega) (by omega))
  have c3 := Lib.hid (fun w => few_any N b o a w hN.2 hb'.1 hb'.2 (by omega) (by omega))
  generalize chI N o = A at *
  generalize fewI N g o (a + 1).toNat = F1 at *
  generalize fewI N b o (a + 1).toNat = F2 at *
  have m1 := Lib.hid (bigI (A - F1) sd 3000000000000 (by omega) (by omega) (by omega))
  have m2 := Lib.hid (bigI A sn 3000000000000 (by omega) (by omega) (by omega))
  have m3 := Lib.hid (bigI F2 bd 3000000000000 (by omega) (by omega) (by omega))
  have m4 := Lib.hid (bigI A bn 3000000000000 (by omega) (by omega) (by omega))
  have HR := Lib.hid hr
  have BQ := Lib.hid (And.intro hA (And.intro hM1 hM2))
  clear hr hs hq hG hG2 hA hM1 hM2 hN hg hb' ho ha
  have hB0 : Below w.heap.size w ((((w.alloc (.cells #[.int .i64 N, .int .i64 lo, .int .i64 hi] 25)).alloc (.cells #[.int .i64 o, .int .i64 a] 27)).alloc (.cells #[.int .i64 sn, .int .i64 sd] 31)).alloc (.cells #[.int .i64 bn, .int .i64 bd] 31)) := ((((Below.refl _ w).alloc (Nat.le_refl _) _).alloc (by simp) _).alloc (by simp; omega) _).alloc (by simp; omega) _
  have c0 : ((((w.alloc (.cells #[.int .i64 N, .int .i64 lo, .int .i64 hi] 25)).alloc (.cells #[.int .i64 o, .int .i64 a] 27)).alloc (.cells #[.int .i64 sn, .int .i64 sd] 31)).alloc (.cells #[.int .i64 bn, .int .i64 bd] 31)).cell? ⟨w.heap.size, 0, none⟩ = some (.int .i64 N) := by simp [go_sem]
  have c1 : ((((w.alloc (.cells #[.int .i64 N, .int .i64 lo, .int .i64 hi] 25)).alloc (.cells #[.int .i64 o, .int .i64 a] 27)).alloc (.cells #[.int .i64 sn, .int .i64 sd] 31)).alloc (.cells #[.int .i64 bn, .int .i64 bd] 31)).cell? ⟨w.heap.size, 1, none⟩ = some (.int .i64 lo) := by simp [go_sem]
  have c2 : ((((w.alloc (.cells #[.int .i64 N, .int .i64 lo, .int .i64 hi] 25)).alloc (.cells #[.int .i64 o, .int .i64 a] 27)).alloc (.cells #[.int .i64 sn, .int .i64 sd] 31)).alloc (.cells #[.int .i64 bn, .int .i64 bd] 31)).cell? ⟨w.heap.size, 2, none⟩ = some (.int .i64 hi) := by simp [go_sem]
  have c3 : ((((w.alloc (.cells #[.int .i64 N, .int .i64 lo, .int .i64 hi] 25)).alloc (.cells #[.int .i64 o, .int .i64 a] 27)).alloc (.cells #[.int .i64 sn, .int .i64 sd] 31)).alloc (.cells #[.int .i64 bn, .int .i64 bd] 31)).cell? ⟨w.heap.size + 1, 0, none⟩ = some (.int .i64 o) := by simp [go_sem]
  have c4 : ((((w.alloc (.cells #[.int .i64 N, .int .i64 lo, .int .i64 hi] 25)).alloc (.cells #[.int .i64 o, .int .i64 a] 27)).alloc (.cells #[.int .i64 sn, .int .i64 sd] 31)).alloc (.cells #[.int .i64 bn, .int .i64 bd] 31)).cell? ⟨w.heap.size + 1, 1, none⟩ = some (.int .i64 a) := by simp [go_sem]
  have c5 : ((((w.alloc (.cells #[.int .i64 N, .int .i64 lo, .int .i64 hi] 25)).alloc (.cells #[.int .i64 o, .int .i64 a] 27)).alloc (.cells #[.int .i64 sn, .int .i64 sd] 31)).alloc (.cells #[.int .i64 bn, .int .i64 bd] 31)).cell? ⟨w.heap.size + 1 + 1, 0, none⟩ = some (.int .i64 sn) := by simp [go_sem]
  have c6 : ((((w.alloc (.cells #[.int .i64 N, .int .i64 lo, .int .i64 hi] 25)).alloc (.cells #[.int .i64 o, .int .i64 a] 27)).alloc (.cells #[.int .i64 sn, .int .i64 sd] 31)).alloc (.cells #[.int .i64 bn, .int .i64 bd] 31)).cell? ⟨w.heap.size + 1 + 1, 1, none⟩ = some (.int .i64 sd) := by simp [go_sem]
  have c7 : ((((w.alloc (.cells #[.int .i64 N, .int .i64 lo, .int .i64 hi] 25)).alloc (.cells #[.int .i64 o, .int .i64 a] 27)).alloc (.cells #[.int .i64 sn, .int .i64 sd] 31)).alloc (.cells #[.int .i64 bn, .int .i64 bd] 31)).cell? ⟨w.heap.size + 1 + 1 + 1, 0, none⟩ = some (.int .i64 bn) := by simp [go_sem]
  have c8 : ((((w.alloc (.cells #[.int .i64 N, .int .i64 lo, .int .i64 hi] 25)).alloc (.cells #[.int .i64 o, .int .i64 a] 27)).alloc (.cells #[.int .i64 sn, .int .i64 sd] 31)).alloc (.cells #[.int .i64 bn, .int .i64 bd] 31)).cell? ⟨w.heap.size + 1 + 1 + 1, 1, none⟩ = some (.int .i64 bd) := by simp [go_sem]
  have s1 := Lib.hid (fun (W : World) (h : Below ((((w.alloc (.cells #[.int .i64 N, .int .i64 lo, .int .i64 hi] 25)).alloc (.cells #[.int .i64 o, .int .i64 a] 27)).alloc (.cells #[.int .i64 sn, .int .i64 sd] 31)).alloc (.cells #[.int .i64 bn, .int .i64 bd] 31)).heap.size ((((w.alloc (.cells #[.int .i64 N, .int .i64 lo, .int .i64 hi] 25)).alloc (.cells #[.int .i64 o, .int .i64 a] 27)).alloc (.cells #[.int .i64 sn, .int .i64 sd] 31)).alloc (.cells #[.int .i64 bn, .int .i64 bd] 31)) W) => And.intro (keepsB h c0) ( And.intro (keepsB h c1) ( And.intro (keepsB h c2) ( And.intro (keepsB h c3) ( And.intro (keepsB h c4) ( And.intro (keepsB h c5) ( And.intro (keepsB h c6) ( And.intro (keepsB h c7) (keepsB h c8)))))))))
  have HB0 := Lib.hid hB0
  clear hB0 c0 c1 c2 c3 c4 c5 c6 c7 c8
  go_enter Tryd.func63, Tryd.ntmps63
  go_wp2_with fail
  refine (c1.out _).mono ?_
  rintro e w1 ⟨rfl, rfl⟩
  go_wp2_with fail
  generalize ((((w.alloc (.cells #[.int .i64 N, .int .i64 lo, .int .i64 hi] 25)).alloc (.cells #[.int .i64 o, .int .i64 a] 27)).alloc (.cells #[.int .i64 sn, .int .i64 sd] 31)).alloc (.cells #[.int .i64 bn, .int .i64 bd] 31)) = W0 at *
  generalize hbb : w.heap.size = bb at *
  have HBB := Lib.hid hbb
  clear hbb
  have hF : ∀ W, Free.Bel W0.drew W → W.cell? ⟨bb, 0, none⟩ = some (.int .i64 N) ∧ W.cell? ⟨bb, 1, none⟩ = some (.int .i64 lo) ∧ W.cell? ⟨bb, 2, none⟩ = some (.int .i64 hi) ∧ W.cell? ⟨bb + 1, 0, none⟩ = some (.int .i64 o) ∧ W.cell? ⟨bb + 1, 1, none⟩ = some (.int .i64 a) ∧ W.cell? ⟨bb + 1 + 1, 0, none⟩ = some (.int .i64 sn) ∧ W.cell? ⟨bb + 1 + 1, 1, none⟩ = some (.int .i64 sd) ∧ W.cell? ⟨bb + 1 + 1 + 1, 0, none⟩ = some (.int .i64 bn) ∧ W.cell? ⟨bb + 1 + 1 + 1, 1, none⟩ = some (.int .i64 bd) := fun W hW => s1.out W (Free.Bel.first hW)
  obtain ⟨bA, bM1, bM2⟩ := BQ.out
  refine Free.wp_free (R := Free.Bel) (by kernel_rfl) (by kernel_rfl) Free.Bel.refl Free.Bel.trans ?_
  refine Free.Chain.ex ?_ [] [13] (by kernel_rfl) (by kernel_rfl) rfl Free.Bel.refl ?_ ?_
  rotate_left
  · (intro ev W hb hR hO hD; have hS := hF W hR; obtain ⟨hb1, hb2, hb3⟩ := hb; simp only [Free.AllDeps, Free.AllOuts, Free.At, List.getElem?_cons_succ, List.getElem?_cons_zero, Array.getD_eq_getD_getElem?, List.getElem?_toArray, Option.getD_some, and_true] at hO hD; go_simp; rfl)
  simp only [List.nil_append, List.cons_append]
  refine Free.Chain.ex ?_ [] [6] (by kernel_rfl) (by kernel_rfl) rfl Free.Bel.refl ?_ ?_
  rotate_left
  · (intro ev W hb hR hO hD; have hS := hF W hR; obtain ⟨hb1, hb2, hb3⟩ := hb; simp only [Free.AllDeps, Free.AllOuts, Free.At, List.getElem?_cons_succ, List.getElem?_cons_zero, Array.getD_eq_getD_getElem?, List.getElem?_toArray, Option.getD_some, and_true] at hO hD; go_simp; rfl)
  simp only [List.nil_append, List.cons_append]
  refine Free.Chain.ex ?_ [(1, 22)] [] (by kernel_rfl) (by kernel_rfl) rfl Free.Bel.refl ?_ ?_
  rotate_left
  · (intro ev W hb hR hO hD; have hS := hF W hR; obtain ⟨hb1, hb2, hb3⟩ := hb; simp only [Free.AllDeps, Free.AllOuts, Free.At, List.getElem?_cons_succ, List.getElem?_cons_zero, Array.getD_eq_getD_getElem?, List.getElem?_toArray, Option.getD_some, and_true] at hO hD; go_simp; rfl)
  simp only [List.nil_append, List.cons_append]
  refine Free.Chain.ex ?_ [] [2] (by kernel_rfl) (by kernel_rfl) rfl Free.Bel.refl ?_ ?_
  rotate_left
  · (intro ev W hb hR hO hD; have hS := hF W hR; obtain ⟨hb1, hb2, hb3⟩ := hb; simp only [Free.AllDeps, Free.AllOuts, Free.At, List.getElem?_cons_succ, List.getElem?_cons_zero, Array.getD_eq_getD_getElem?, List.getElem?_toArray, Option.getD_some, and_true] at hO hD; go_simp; rfl)
  simp only [List.nil_append, List.cons_append]
  refine Free.Chain.ex ?_ [] [7] (by kernel_rfl) (by kernel_rfl) rfl Free.Bel.refl ?_ ?_
  rotate_left
  · (intro ev W hb hR hO hD; have hS := hF W hR; obtain ⟨hb1, hb2, hb3⟩ := hb; simp only [Free.AllDeps, Free.AllOuts, Free.At, List.getElem?_cons_succ, List.getElem?_cons_zero, Array.getD_eq_getD_getElem?, List.getElem?_toArray, Option.getD_some, and_true] at hO hD; go_simp; rfl)
  simp only [List.nil_append, List.cons_append]
  refine Free.Chain.ex ?_ [(4, 25)] [] (by kernel_rfl) (by kernel_rfl) rfl Free.Bel.refl ?_ ?_
  rotate_left
  · (intro ev W hb hR hO hD; have hS := hF W hR; obtain ⟨hb1, hb2, hb3⟩ := hb; simp only [Free.AllDeps, Free.AllOuts, Free.At, List.getElem?_cons_succ, List.getElem?_cons_zero, Array.getD_eq_getD_getElem?, List.getElem?_toArray, Option.getD_some, and_true] at hO hD; go_simp; rfl)
  simp only [List.nil_append, List.cons_append]
  refine Free.Chain.ex ?_ [] [7] (by kernel_rfl) (by kernel_rfl) rfl Free.Bel.refl ?_ ?_
  rotate_left
  · (intro ev W hb hR hO hD; have hS := hF W hR; obtain ⟨hb1, hb2, hb3⟩ := hb; simp only [Free.AllDeps, Free.AllOuts, Free.At, List.getElem?_cons_succ, List.getElem?_cons_zero, Array.getD_eq_getD_getElem?, List.getElem?_toArray, Option.getD_some, and_true] at hO hD; go_simp; rfl)
  simp only [List.nil_append, List.cons_append]
  refine Free.Chain.ex ?_ [(6, 27)] [] (by kernel_rfl) (by kernel_rfl) rfl Free.Bel.refl ?_ ?_
  rotate_left
  · (intro ev W hb hR hO hD; have hS := hF W hR; obtain ⟨hb1, hb2, hb3⟩ := hb; simp only [Free.AllDeps, Free.AllOuts, Free.At, List.getElem?_cons_succ, List.getElem?_cons_zero, Array.getD_eq_getD_getElem?, List.getElem?_toArray, Option.getD_some, and_true] at hO hD; go_simp; rfl)
  simp only [List.nil_append, List.cons_append]
  refine Free.Chain.pr (fun v _ => v = .int .i64 F1) [(2, 23), (3, 24), (5, 26), (7, 28)] [] (by kernel_rfl) (by kernel_rfl) rfl (fun _ _ _ _ h => h) ?_ ?_
  · (intro ev W hb hR hO hD; have hS := hF W hR; obtain ⟨hb1, hb2, hb3⟩ := hb; simp only [Free.AllDeps, Free.AllOuts, Free.At, List.getElem?_cons_succ, List.getElem?_cons_zero, Array.getD_eq_getD_getElem?, List.getElem?_toArray, Option.getD_some, and_true] at hO hD; go_simp; refine (c2.out _).mono ?_; rintro e W1 ⟨rfl, rfl⟩; exact ⟨_, rfl, Free.Bel.refl _, rfl⟩)
  simp only [List.nil_append, List.cons_append]
  refine Free.Chain.ex ?_ [(0, 21), (8, 29)] [] (by kernel_rfl) (by kernel_rfl) rfl Free.Bel.refl ?_ ?_
  rotate_left
  · (intro ev W hb hR hO hD; have hS := hF W hR; obtain ⟨hb1, hb2, hb3⟩ := hb; simp only [Free.AllDeps, Free.AllOuts, Free.At, List.getElem?_cons_succ, List.getElem?_cons_zero, Array.getD_eq_getD_getElem?, List.getElem?_toArray, Option.getD_some, and_true] at hO hD; go_simp; rfl)
  simp only [List.nil_append, List.cons_append]
  refine Free.Chain.ex ?_ [] [6] (by kernel_rfl) (by kernel_rfl) rfl Free.Bel.refl ?_ ?_
  rotate_left
  · (intro ev W hb hR hO hD; have hS := hF W hR; obtain ⟨hb1, hb2, hb3⟩ := hb; simp only [Free.AllDeps, Free.AllOuts, Free.At, List.getElem?_cons_succ, List.getElem?_cons_zero, Array.getD_eq_getD_getElem?, List.getElem?_toArray, Option.getD_some, and_true] at hO hD; go_simp; rfl)
  simp only [List.nil_append, List.cons_append]
  refine Free.Chain.ex ?_ [(10, 31)] [] (by kernel_rfl) (by kernel_rfl) rfl Free.Bel.refl ?_ ?_
  rotate_left
  · (intro ev W hb hR hO hD; have hS := hF W hR; obtain ⟨hb1, hb2, hb3⟩ := hb; simp only [Free.AllDeps, Free.AllOuts, Free.At, List.getElem?_cons_succ, List.getElem?_cons_zero, Array.getD_eq_getD_getElem?, List.getElem?_toArray, Option.getD_some, and_true] at hO hD; go_simp; rfl)
  simp only [List.nil_append, List.cons_append]
  refine Free.Chain.ex ?_ [] [3] (by kernel_rfl) (by kernel_rfl) rfl Free.Bel.refl ?_ ?_
  rotate_left
  · (intro ev W hb hR hO hD; have hS := hF W hR; obtain ⟨hb1, hb2, hb3⟩ := hb; simp only [Free.AllDeps, Free.AllOuts, Free.At, List.getElem?_cons_succ, List.getElem?_cons_zero, Array.getD_eq_getD_getElem?, List.getElem?_toArray, Option.getD_some, and_true] at hO hD; go_simp; rfl)
  simp only [List.nil_append, List.cons_append]
  refine Free.Chain.ex ?_ [] [7] (by kernel_rfl) (by kernel_rfl) rfl Free.Bel.refl ?_ ?_
  rotate_left
  · (intro ev W hb hR hO hD; have hS := hF W hR; obtain ⟨hb1, hb2, hb3⟩ := hb; simp only [Free.AllDeps, Free.AllOuts, Free.At, List.getElem?_cons_succ, List.getElem?_cons_zero, Array.getD_eq_getD_getElem?, List.getElem?_toArray, Option.getD_some, and_true] at hO hD; go_simp; rfl)
  simp only [List.nil_append, List.cons_append]
  refine Free.Chain.ex ?_ [(13, 34)] [] (by kernel_rfl) (by kernel_rfl) rfl Free.Bel.refl ?_ ?_
  rotate_left
  · (intro ev W hb hR hO hD; have hS := hF W hR; obtain ⟨hb1, hb2, hb3⟩ := hb; simp only [Free.AllDeps, Free.AllOuts, Free.At, List.getElem?_cons_succ, List.getElem?_cons_zero, Array.getD_eq_getD_getElem?, List.getElem?_toArray, Option.getD_some, and_true] at hO hD; go_simp; rfl)
  simp only [List.nil_append, List.cons_append]
  refine Free.Chain.ex ?_ [] [7] (by kernel_rfl) (by kernel_rfl) rfl Free.Bel.refl ?_ ?_
  rotate_left
  · (intro ev W hb hR hO hD; have hS := hF W hR; obtain ⟨hb1, hb2, hb3⟩ := hb; simp only [Free.AllDeps, Free.AllOuts, Free.At, List.getElem?_cons_succ, List.getElem?_cons_zero, Array.getD_eq_getD_getElem?, List.getElem?_toArray, Option.getD_some, and_true] at hO hD; go_simp; rfl)
  simp only [List.nil_append, List.cons_append]
  refine Free.Chain.ex ?_ [(15, 36)] [] (by kernel_rfl) (by kernel_rfl) rfl Free.Bel.refl ?_ ?_
  rotate_left
  · (intro ev W hb hR hO hD; have hS := hF W hR; obtain ⟨hb1, hb2, hb3⟩ := hb; simp only [Free.AllDeps, Free.AllOuts, Free.At, List.getElem?_cons_succ, List.getElem?_cons_zero, Array.getD_eq_getD_getElem?, List.getElem?_toArray, Option.getD_some, and_true] at hO hD; go_simp; rfl)
  simp only [List.nil_append, List.cons_append]
  refine Free.Chain.pr (fun v _ => v = .int .i64 F2) [(11, 32), (12, 33), (14, 35), (16, 37), (8, 29)] [] (by kernel_rfl) (by kernel_rfl) rfl (fun _ _ _ _ h => h) ?_ ?_
  · (intro ev W hb hR hO hD; have hS := hF W hR; obtain ⟨hb1, hb2, hb3⟩ := hb; simp only [Free.AllDeps, Free.AllOuts, Free.At, List.getElem?_cons_succ, List.getElem?_cons_zero, Array.getD_eq_getD_getElem?, List.getElem?_toArray, Option.getD_some, and_true] at hO hD; go_simp; refine (c3.out _).mono ?_; rintro e W1 ⟨rfl, rfl⟩; exact ⟨_, rfl, Free.Bel.refl _, rfl⟩)
  simp only [List.nil_append, List.cons_append]
  refine Free.Chain.ex ?_ [(9, 30), (17, 38), (0, 21), (1, 22), (2, 23), (3, 24), (4, 25), (5, 26), (6, 27), (7, 28), (8, 29), (9, 30)] [] (by kernel_rfl) (by kernel_rfl) rfl Free.Bel.refl ?_ ?_
  rotate_left
  · (intro ev W hb hR hO hD; have hS := hF W hR; obtain ⟨hb1, hb2, hb3⟩ := hb; simp only [Free.AllDeps, Free.AllOuts, Free.At, List.getElem?_cons_succ, List.getElem?_cons_zero, Array.getD_eq_getD_getElem?, List.getElem?_toArray, Option.getD_some, and_true] at hO hD; go_simp; rfl)
  simp only [List.nil_append, List.cons_append]
  refine Free.Chain.ex ?_ [(17, 38), (18, 14), (0, 21), (1, 22), (2, 23), (3, 24), (4, 25), (5, 26), (6, 27), (7, 28), (8, 29), (9, 30), (10, 31), (11, 32), (12, 33), (13, 34), (14, 35), (15, 36), (16, 37), (17, 38), (18, 14)] [] (by kernel_rfl) (by kernel_rfl) rfl Free.Bel.refl ?_ ?_
  rotate_left
  · (intro ev W hb hR hO hD; have hS := hF W hR; obtain ⟨hb1, hb2, hb3⟩ := hb; simp only [Free.AllDeps, Free.AllOuts, Free.At, List.getElem?_cons_succ, List.getElem?_cons_zero, Array.getD_eq_getD_getElem?, List.getElem?_toArray, Option.getD_some, and_true] at hO hD; go_simp; rfl)
  simp only [List.nil_append, List.cons_append]
  intro xs w' hR hV
  simp only [Free.AllV, Free.At, List.length_cons, List.length_nil, Nat.reduceAdd, List.getElem?_cons_succ, List.getElem?_cons_zero, true_and] at hV
  simp only [Free.putsFrom, Act.put, hV, List.setIfInBounds_toArray, List.set_cons_succ, List.set_cons_zero]
  obtain ⟨d2_0, d2_1, d2_2, d2_3, d2_4, d2_5, d2_6, d2_7, d2_8⟩ := s1.out w' (Free.Bel.first hR)
  have n1 := m1.out
  have n2 := m2.out
  have n3 := m3.out
  have n4 := m4.out
  have HK1 := Lib.hid (HB0.out.trans ((Free.Bel.first hR).mono (by have h1 := HB0.out.size; have h2 := HBB.out; omega)))
  clear hR hV hF
  cases ht : decide ((A - F1) * sd ≤ A * sn)
  all_goals
    simp at ht
    go_wp2_with fail
    have hbb := HBB.out
    subst hbb
    go_ret
    exact ⟨by rw [← HR.out]; first | (simp [ht]; done) | (simp [Int.not_le.mpr ht]; done), HK1.out⟩

set_option maxRecDepth 100000 in
set_option maxHeartbeats 2000000 in
theorem good_a (N lo hi g b o a sn sd bn bd : Int) (w : World) (hc : cargoB N lo hi = false) :
    Calls Tryd.prog 20 #[.agg #[.int .i64 N, .int .i64 lo, .int .i64 hi], .agg #[.int .i64 o, .int .i64 a], .int .i64 g, .int .i64 b, .agg #[.int .i64 sn, .int .i64 sd], .agg #[.int .i64 bn, .int .i64 bd]] w fun e w' => e = .returned (.tuple #[.bool false, .int .i64 10]) ∧ Below w.heap.size w w' := by
  have hB0 : Below w.heap.size w ((((w.alloc (.cells #[.int .i64 N, .int .i64 lo, .int .i64 hi] 25)).alloc (.cells #[.int .i64 o, .int .i64 a] 27)).alloc (.cells #[.int .i64 sn, .int .i64 sd] 31)).alloc (.cells #[.int .i64 bn, .int .i64 bd] 31)) := ((((Below.refl _ w).alloc (Nat.le_refl _) _).alloc (by simp) _).alloc (by simp; omega) _).alloc (by simp; omega) _
  have c0 : ((((w.alloc (.cells #[.int .i64 N, .int .i64 lo, .int .i64 hi] 25)).alloc (.cells #[.int .i64 o, .int .i64 a] 27)).alloc (.cells #[.int .i64 sn, .int .i64 sd] 31)).alloc (.cells #[.int .i64 bn, .int .i64 bd] 31)).cell? ⟨w.heap.size, 0, none⟩ = some (.int .i64 N) := by simp [go_sem]
  have c1 : ((((w.alloc (.cells #[.int .i64 N, .int .i64 lo, .int .i64 hi] 25)).alloc (.cells #[.int .i64 o, .int .i64 a] 27)).alloc (.cells #[.int .i64 sn, .int .i64 sd] 31)).alloc (.cells #[.int .i64 bn, .int .i64 bd] 31)).cell? ⟨w.heap.size, 1, none⟩ = some (.int .i64 lo) := by simp [go_sem]
  have c2 : ((((w.alloc (.cells #[.int .i64 N, .int .i64 lo, .int .i64 hi] 25)).alloc (.cells #[.int .i64 o, .int .i64 a] 27)).alloc (.cells #[.int .i64 sn, .int .i64 sd] 31)).alloc (.cells #[.int .i64 bn, .int .i64 bd] 31)).cell? ⟨w.heap.size, 2, none⟩ = some (.int .i64 hi) := by simp [go_sem]
  have c3 : ((((w.alloc (.cells #[.int .i64 N, .int .i64 lo, .int .i64 hi] 25)).alloc (.cells #[.int .i64 o, .int .i64 a] 27)).alloc (.cells #[.int .i64 sn, .int .i64 sd] 31)).alloc (.cells #[.int .i64 bn, .int .i64 bd] 31)).cell? ⟨w.heap.size + 1, 0, none⟩ = some (.int .i64 o) := by simp [go_sem]
  have c4 : ((((w.alloc (.cells #[.int .i64 N, .int .i64 lo, .int .i64 hi] 25)).alloc (.cells #[.int .i64 o, .int .i64 a] 27)).alloc (.cells #[.int .i64 sn, .int .i64 sd] 31)).alloc (.cells #[.int .i64 bn, .int .i64 bd] 31)).cell? ⟨w.heap.size + 1, 1, none⟩ = some (.int .i64 a) := by simp [go_sem]
  have c5 : ((((w.alloc (.cells #[.int .i64 N, .int .i64 lo, .int .i64 hi] 25)).alloc (.cells #[.int .i64 o, .int .i64 a] 27)).alloc (.cells #[.int .i64 sn, .int .i64 sd] 31)).alloc (.cells #[.int .i64 bn, .int .i64 bd] 31)).cell? ⟨w.heap.size + 1 + 1, 0, none⟩ = some (.int .i64 sn) := by simp [go_sem]
  have c6 : ((((w.alloc (.cells #[.int .i64 N, .int .i64 lo, .int .i64 hi] 25)).alloc (.cells #[.int .i64 o, .int .i64 a] 27)).alloc (.cells #[.int .i64 sn, .int .i64 sd] 31)).alloc (.cells #[.int .i64 bn, .int .i64 bd] 31)).cell? ⟨w.heap.size + 1 + 1, 1, none⟩ = some (.int .i64 sd) := by simp [go_sem]
  have c7 : ((((w.alloc (.cells #[.int .i64 N, .int .i64 lo, .int .i64 hi] 25)).alloc (.cells #[.int .i64 o, .int .i64 a] 27)).alloc (.cells #[.int .i64 sn, .int .i64 sd] 31)).alloc (.cells #[.int .i64 bn, .int .i64 bd] 31)).cell? ⟨w.heap.size + 1 + 1 + 1, 0, none⟩ = some (.int .i64 bn) := by simp [go_sem]
  have c8 : ((((w.alloc (.cells #[.int .i64 N, .int .i64 lo, .int .i64 hi] 25)).alloc (.cells #[.int .i64 o, .int .i64 a] 27)).alloc (.cells #[.int .i64 sn, .int .i64 sd] 31)).alloc (.cells #[.int .i64 bn, .int .i64 bd] 31)).cell? ⟨w.heap.size + 1 + 1 + 1, 1, none⟩ = some (.int .i64 bd) := by simp [go_sem]
  have s1 := Lib.hid (fun (W : World) (h : Below ((((w.alloc (.cells #[.int .i64 N, .int .i64 lo, .int .i64 hi] 25)).alloc (.cells #[.int .i64 o, .int .i64 a] 27)).alloc (.cells #[.int .i64 sn, .int .i64 sd] 31)).alloc (.cells #[.int .i64 bn, .int .i64 bd] 31)).heap.size ((((w.alloc (.cells #[.int .i64 N, .int .i64 lo, .int .i64 hi] 25)).alloc (.cells #[.int .i64 o, .int .i64 a] 27)).alloc (.cells #[.int .i64 sn, .int .i64 sd] 31)).alloc (.cells #[.int .i64 bn, .int .i64 bd] 31)) W) => And.intro (keepsB h c0) ( And.intro (keepsB h c1) ( And.intro (keepsB h c2) ( And.intro (keepsB h c3) ( And.intro (keepsB h c4) ( And.intro (keepsB h c5) ( And.intro (keepsB h c6) ( And.intro (keepsB h c7) (keepsB h c8)))))))))
  have HB0 := Lib.hid hB0
  clear hB0 c0 c1 c2 c3 c4 c5 c6 c7 c8
  go_enter Tryd.func20, Tryd.ntmps20
  go_wp2_with fail
  refine (begun_bad N lo hi _ hc).mono ?_
  rintro e w1 ⟨rfl, hB1⟩
  have HB1 := Lib.hid (HB0.out.trans (hB1.mono HB0.out.size))
  clear hB1
  go_wp2_with fail
  exact bodyPost_ret (v := .tuple #[.bool false, .int .i64 10]) (by simp [results, Tryd.results20, go_sem]) rfl ⟨rfl, HB1.out⟩

theorem riskedE_zero {lo hi g b sn sd bn bd : Int} (h : riskedE lo hi g b sn sd bn bd = 0) : (lo ≤ g ∧ g ≤ hi) ∧ (lo ≤ b ∧ b ≤ hi) ∧ g < b ∧ givenB sn sd = true ∧ givenB bn bd = true := by
  unfold riskedE at h
  have h2 : inB lo hi [g, b] = true := by
    cases hm : inB lo hi [g, b]
    · rw [hm] at h; simp [firstE, unlessV] at h
    · rfl
  have h3 : ([(sn, sd), (bn, bd)].all fun x => givenB x.1 x.2) = true := by
    cases hm : ([(sn, sd), (bn, bd)].all fun x => givenB x.1 x.2)
    · rw [h2, hm] at h; simp [firstE, unlessV] at h
    · rfl
  have h4 : decide (g < b) = true := by
    cases hm : decide (g < b)
    · rw [h2, h3, hm] at h; simp [firstE, unlessV] at h
    · rfl
  simp [inB] at h2
  simp at h3 h4
  exact ⟨by omega, by omega, h4, h3.1, h3.2⟩
theorem Kept.below_of {B mb : Nat} {a w w' : World} (h : Kept mb w w') (h0 : Below B a w) (hm : B ≤ mb) (hs : B ≤ w.heap.size) : Below B a w' :=
  ⟨h.os.trans h0.os, h.tape.trans h0.tape, h.output.trans h0.output, Nat.le_trans h0.size h.size, fun k hk => (h.block k (by omega) (by omega)).trans (h0.block k hk)⟩

/-- The error of a rule, of two numbers and of two chances. -/
def goodE (N lo hi g b o a sn sd bn bd : Int) : Int := firstE [unlessV (drawB N o a) 13, riskedE lo hi g b sn sd bn bd]

set_option maxRecDepth 100000 in
set_option maxHeartbeats 2000000 in
theorem good_b (N lo hi g b o a sn sd bn bd : Int) (w : World) (hc : cargoB N lo hi = true) (x y z : Int) (hx : Hid (unlessV (drawB N o a) 13 = x)) (hy : Hid (riskedE lo hi g b sn sd bn bd = y)) (hz : Hid (firstE [x, y] = z)) (hz0 : (z != 0) = true) :
    Calls Tryd.prog 20 #[.agg #[.int .i64 N, .int .i64 lo, .int .i64 hi], .agg #[.int .i64 o, .int .i64 a], .int .i64 g, .int .i64 b, .agg #[.int .i64 sn, .int .i64 sd], .agg #[.int .i64 bn, .int .i64 bd]] w fun e w' => e = .returned (.tuple #[.bool false, .int .i64 z]) ∧ Below w.heap.size w w' := by
  have hB0 : Below w.heap.size w ((((w.alloc (.cells #[.int .i64 N, .int .i64 lo, .int .i64 hi] 25)).alloc (.cells #[.int .i64 o, .int .i64 a] 27)).alloc (.cells #[.int .i64 sn, .int .i64 sd] 31)).alloc (.cells #[.int .i64 bn, .int .i64 bd] 31)) := ((((Below.refl _ w).alloc (Nat.le_refl _) _).alloc (by simp) _).alloc (by simp; omega) _).alloc (by simp; omega) _
  have c0 : ((((w.alloc (.cells #[.int .i64 N, .int .i64 lo, .int .i64 hi] 25)).alloc (.cells #[.int .i64 o, .int .i64 a] 27)).alloc (.cells #[.int .i64 sn, .int .i64 sd] 31)).alloc (.cells #[.int .i64 bn, .int .i64 bd] 31)).cell? ⟨w.heap.size, 0, none⟩ = some (.int .i64 N) := by simp [go_sem]
  have c1 : ((((w.alloc (.cells #[.int .i64 N, .int .i64 lo, .int .i64 hi] 25)).alloc (.cells #[.int .i64 o, .int .i64 a] 27)).alloc (.cells #[.int .i64 sn, .int .i64 sd] 31)).alloc (.cells #[.int .i64 bn, .int .i64 bd] 31)).cell? ⟨w.heap.size, 1, none⟩ = some (.int .i64 lo) := by simp [go_sem]
  have c2 : ((((w.alloc (.cells #[.int .i64 N, .int .i64 lo, .int .i64 hi] 25)).alloc (.cells #[.int .i64 o, .int .i64 a] 27)).alloc (.cells #[.int .i64 sn, .int .i64 sd] 31)).alloc (.cells #[.int .i64 bn, .int .i64 bd] 31)).cell? ⟨w.heap.size, 2, none⟩ = some (.int .i64 hi) := by simp [go_sem]
  have c3 : ((((w.alloc (.cells #[.int .i64 N, .int .i64 lo, .int .i64 hi] 25)).alloc (.cells #[.int .i64 o, .int .i64 a] 27)).alloc (.cells #[.int .i64 sn, .int .i64 sd] 31)).alloc (.cells #[.int .i64 bn, .int .i64 bd] 31)).cell? ⟨w.heap.size + 1, 0, none⟩ = some (.int .i64 o) := by simp [go_sem]
  have c4 : ((((w.alloc (.cells #[.int .i64 N, .int .i64 lo, .int .i64 hi] 25)).alloc (.cells #[.int .i64 o, .int .i64 a] 27)).alloc (.cells #[.int .i64 sn, .int .i64 sd] 31)).alloc (.cells #[.int .i64 bn, .int .i64 bd] 31)).cell? ⟨w.heap.size + 1, 1, none⟩ = some (.int .i64 a) := by simp [go_sem]
  have c5 : ((((w.alloc (.cells #[.int .i64 N, .int .i64 lo, .int .i64 hi] 25)).alloc (.cells #[.int .i64 o, .int .i64 a] 27)).alloc (.cells #[.int .i64 sn, .int .i64 sd] 31)).alloc (.cells #[.int .i64 bn, .int .i64 bd] 31)).cell? ⟨w.heap.size + 1 + 1, 0, none⟩ = some (.int .i64 sn) := by simp [go_sem]
  have c6 : ((((w.alloc (.cells #[.int .i64 N, .int .i64 lo, .int .i64 hi] 25)).alloc (.cells #[.int .i64 o, .int .i64 a] 27)).alloc (.cells #[.int .i64 sn, .int .i64 sd] 31)).alloc (.cells #[.int .i64 bn, .int .i64 bd] 31)).cell? ⟨w.heap.size + 1 + 1, 1, none⟩ = some (.int .i64 sd) := by simp [go_sem]
  have c7 : ((((w.alloc (.cells #[.int .i64 N, .int .i64 lo, .int .i64 hi] 25)).alloc (.cells #[.int .i64 o, .int .i64 a] 27)).alloc (.cells #[.int .i64 sn, .int .i64 sd] 31)).alloc (.cells #[.int .i64 bn, .int .i64 bd] 31)).cell? ⟨w.heap.size + 1 + 1 + 1, 0, none⟩ = some (.int .i64 bn) := by simp [go_sem]
  have c8 : ((((w.alloc (.cells #[.int .i64 N, .int .i64 lo, .int .i64 hi] 25)).alloc (.cells #[.int .i64 o, .int .i64 a] 27)).alloc (.cells #[.int .i64 sn, .int .i64 sd] 31)).alloc (.cells #[.int .i64 bn, .int .i64 bd] 31)).cell? ⟨w.heap.size + 1 + 1 + 1, 1, none⟩ = some (.int .i64 bd) := by simp [go_sem]
  have s1 := Lib.hid (fun (W : World) (h : Below ((((w.alloc (.cells #[.int .i64 N, .int .i64 lo, .int .i64 hi] 25)).alloc (.cells #[.int .i64 o, .int .i64 a] 27)).alloc (.cells #[.int .i64 sn, .int .i64 sd] 31)).alloc (.cells #[.int .i64 bn, .int .i64 bd] 31)).heap.size ((((w.alloc (.cells #[.int .i64 N, .int .i64 lo, .int .i64 hi] 25)).alloc (.cells #[.int .i64 o, .int .i64 a] 27)).alloc (.cells #[.int .i64 sn, .int .i64 sd] 31)).alloc (.cells #[.int .i64 bn, .int .i64 bd] 31)) W) => And.intro (keepsB h c0) ( And.intro (keepsB h c1) ( And.intro (keepsB h c2) ( And.intro (keepsB h c3) ( And.intro (keepsB h c4) ( And.intro (keepsB h c5) ( And.intro (keepsB h c6) ( And.intro (keepsB h c7) (keepsB h c8)))))))))
  have HB0 := Lib.hid hB0
  clear hB0 c0 c1 c2 c3 c4 c5 c6 c7 c8
  go_enter Tryd.func20, Tryd.ntmps20
  go_wp2_with fail
  generalize ((((w.alloc (.cells #[.int .i64 N, .int .i64 lo, .int .i64 hi] 25)).alloc (.cells #[.int .i64 o, .int .i64 a] 27)).alloc (.cells #[.int .i64 sn, .int .i64 sd] 31)).alloc (.cells #[.int .i64 bn, .int .i64 bd] 31)) = W0 at *
  generalize hbb : w.heap.size = bb at *
  have HBB := Lib.hid hbb
  clear hbb
  have hs0 : bb ≤ W0.heap.size := by have h1 := HB0.out.size; have h2 := HBB.out; omega
  refine (begun_ok N lo hi _ hc).mono ?_
  rintro e w1 ⟨hb, mb, kb, cb, rfl, hH, hmb, hhb, hB1⟩
  have HB1 := Lib.hid (HB0.out.trans (hB1.mono hs0))
  have hs1 := hB1.size
  have HH := Lib.hid (And.intro hH (Nat.le_trans hs0 hmb))
  have hF0 := Lib.hid (fun (W : World) (h : Below w1.heap.size w1 W) => And.intro (hH.kept (.of_below h)) (s1.out W (Below.trans hB1 (h.mono hB1.size))))
  obtain ⟨d1_0, d1_1, d1_2, d1_3, d1_4, d1_5, d1_6, d1_7, d1_8⟩ := s1.out w1 hB1
  clear hB1 hH hmb hhb
  go_wp2_with fail
  have hF : ∀ W, Free.Bel w1.drew W → Hold hb N lo hi mb kb cb W ∧ W.cell? ⟨bb, 0, none⟩ = some (.int .i64 N) ∧ W.cell? ⟨bb, 1, none⟩ = some (.int .i64 lo) ∧ W.cell? ⟨bb, 2, none⟩ = some (.int .i64 hi) ∧ W.cell? ⟨bb + 1, 0, none⟩ = some (.int .i64 o) ∧ W.cell? ⟨bb + 1, 1, none⟩ = some (.int .i64 a) ∧ W.cell? ⟨bb + 1 + 1, 0, none⟩ = some (.int .i64 sn) ∧ W.cell? ⟨bb + 1 + 1, 1, none⟩ = some (.int .i64 sd) ∧ W.cell? ⟨bb + 1 + 1 + 1, 0, none⟩ = some (.int .i64 bn) ∧ W.cell? ⟨bb + 1 + 1 + 1, 1, none⟩ = some (.int .i64 bd) := fun W hW => hF0.out W (Free.Bel.first hW)
  refine Free.wp_free (R := Free.Bel) (by kernel_rfl) (by kernel_rfl) Free.Bel.refl Free.Bel.trans ?_
  refine Free.Chain.ex ?_ [] [14] (by kernel_rfl) (by kernel_rfl) rfl Free.Bel.refl ?_ ?_
  rotate_left
  · (intro ev W hb hR hO hD; have hS := hF W hR; obtain ⟨hb1, hb2, hb3⟩ := hb; simp only [Free.AllDeps, Free.AllOuts, Free.At, List.getElem?_cons_succ, List.getElem?_cons_zero, Array.getD_eq_getD_getElem?, List.getElem?_toArray, Option.getD_some, and_true] at hO hD; go_simp; rfl)
  simp only [List.nil_append, List.cons_append]
  refine Free.Chain.ex ?_ [] [7] (by kernel_rfl) (by kernel_rfl) rfl Free.Bel.refl ?_ ?_
  rotate_left
  · (intro ev W hb hR hO hD; have hS := hF W hR; obtain ⟨hb1, hb2, hb3⟩ := hb; simp only [Free.AllDeps, Free.AllOuts, Free.At, List.getElem?_cons_succ, List.getElem?_cons_zero, Array.getD_eq_getD_getElem?, List.getElem?_toArray, Option.getD_some, and_true] at hO hD; go_simp; rfl)
  simp only [List.nil_append, List.cons_append]
  refine Free.Chain.pr (fun v _ => v = .int .i64 x) [(0, 25), (1, 26)] [] (by kernel_rfl) (by kernel_rfl) rfl (fun _ _ _ _ h => h) ?_ ?_
  · (intro ev W hb hR hO hD; have hS := hF W hR; obtain ⟨hb1, hb2, hb3⟩ := hb; simp only [Free.AllDeps, Free.AllOuts, Free.At, List.getElem?_cons_succ, List.getElem?_cons_zero, Array.getD_eq_getD_getElem?, List.getElem?_toArray, Option.getD_some, and_true] at hO hD; go_simp; refine (rule_any hb N o a x _ hS.1.bags hx.out).mono ?_; rintro e W1 ⟨rfl, hB1⟩; exact ⟨_, rfl, hB1, rfl⟩)
  simp only [List.nil_append, List.cons_append]
  refine Free.Chain.ex ?_ [] [14] (by kernel_rfl) (by kernel_rfl) rfl Free.Bel.refl ?_ ?_
  rotate_left
  · (intro ev W hb hR hO hD; have hS := hF W hR; obtain ⟨hb1, hb2, hb3⟩ := hb; simp only [Free.AllDeps, Free.AllOuts, Free.At, List.getElem?_cons_succ, List.getElem?_cons_zero, Array.getD_eq_getD_getElem?, List.getElem?_toArray, Option.getD_some, and_true] at hO hD; go_simp; rfl)
  simp only [List.nil_append, List.cons_append]
  refine Free.Chain.ex ?_ [] [2] (by kernel_rfl) (by kernel_rfl) rfl Free.Bel.refl ?_ ?_
  rotate_left
  · (intro ev W hb hR hO hD; have hS := hF W hR; obtain ⟨hb1, hb2, hb3⟩ := hb; simp only [Free.AllDeps, Free.AllOuts, Free.At, List.getElem?_cons_succ, List.getElem?_cons_zero, Array.getD_eq_getD_getElem?, List.getElem?_toArray, Option.getD_some, and_true] at hO hD; go_simp; rfl)
  simp only [List.nil_append, List.cons_append]
  refine Free.Chain.ex ?_ [] [3] (by kernel_rfl) (by kernel_rfl) rfl Free.Bel.refl ?_ ?_
  rotate_left
  · (intro ev W hb hR hO hD; have hS := hF W hR; obtain ⟨hb1, hb2, hb3⟩ := hb; simp only [Free.AllDeps, Free.AllOuts, Free.At, List.getElem?_cons_succ, List.getElem?_cons_zero, Array.getD_eq_getD_getElem?, List.getElem?_toArray, Option.getD_some, and_true] at hO hD; go_simp; rfl)
  simp only [List.nil_append, List.cons_append]
  refine Free.Chain.ex ?_ [] [10] (by kernel_rfl) (by kernel_rfl) rfl Free.Bel.refl ?_ ?_
  rotate_left
  · (intro ev W hb hR hO hD; have hS := hF W hR; obtain ⟨hb1, hb2, hb3⟩ := hb; simp only [Free.AllDeps, Free.AllOuts, Free.At, List.getElem?_cons_succ, List.getElem?_cons_zero, Array.getD_eq_getD_getElem?, List.getElem?_toArray, Option.getD_some, and_true] at hO hD; go_simp; rfl)
  simp only [List.nil_append, List.cons_append]
  refine Free.Chain.ex ?_ [] [11] (by kernel_rfl) (by kernel_rfl) rfl Free.Bel.refl ?_ ?_
  rotate_left
  · (intro ev W hb hR hO hD; have hS := hF W hR; obtain ⟨hb1, hb2, hb3⟩ := hb; simp only [Free.AllDeps, Free.AllOuts, Free.At, List.getElem?_cons_succ, List.getElem?_cons_zero, Array.getD_eq_getD_getElem?, List.getElem?_toArray, Option.getD_some, and_true] at hO hD; go_simp; rfl)
  simp only [List.nil_append, List.cons_append]
  refine Free.Chain.pr (fun v _ => v = .int .i64 y) [(3, 28), (4, 29), (5, 30), (6, 31), (7, 32), (2, 27)] [] (by kernel_rfl) (by kernel_rfl) rfl (fun _ _ _ _ h => h) ?_ ?_
  · (intro ev W hb hR hO hD; have hS := hF W hR; obtain ⟨hb1, hb2, hb3⟩ := hb; simp only [Free.AllDeps, Free.AllOuts, Free.At, List.getElem?_cons_succ, List.getElem?_cons_zero, Array.getD_eq_getD_getElem?, List.getElem?_toArray, Option.getD_some, and_true] at hO hD; go_simp; refine (risked_any hb lo hi g b sn sd bn bd _ _ _ y _ hS.1.lo hS.1.hi rfl rfl rfl hy.out).mono ?_; rintro e W1 ⟨rfl, hB1⟩; exact ⟨_, rfl, hB1, rfl⟩)
  simp only [List.nil_append, List.cons_append]
  refine Free.Chain.pr (SlI [x, y]) [(2, 27), (8, 33)] [] (by kernel_rfl) (by kernel_rfl) rfl (SlI.stable _) ?_ ?_
  · (intro ev W hb hR hO hD; have hS := hF W hR; obtain ⟨hb1, hb2, hb3⟩ := hb; simp only [Free.AllDeps, Free.AllOuts, Free.At, List.getElem?_cons_succ, List.getElem?_cons_zero, Array.getD_eq_getD_getElem?, List.getElem?_toArray, Option.getD_some, and_true] at hO hD; go_simp; exact ⟨belAlloc _ _, SlI.two _ _ _ _⟩)
  simp only [List.nil_append, List.cons_append]
  refine Free.Chain.pr (fun v _ => v = .int .i64 z) [(9, 34), (8, 33)] [] (by kernel_rfl) (by kernel_rfl) rfl (fun _ _ _ _ h => h) ?_ ?_
  · (intro ev W hb hR hO hD; have hS := hF W hR; obtain ⟨hb1, hb2, hb3⟩ := hb; simp only [Free.AllDeps, Free.AllOuts, Free.At, List.getElem?_cons_succ, List.getElem?_cons_zero, Array.getD_eq_getD_getElem?, List.getElem?_toArray, Option.getD_some, and_true] at hO hD; go_simp; refine (first_sl [x, y] z _ _ (by simp [maxLen]) hz.out hD.1).mono ?_; rintro e W1 ⟨rfl, rfl⟩; exact ⟨_, rfl, Free.Bel.refl _, rfl⟩)
  simp only [List.nil_append, List.cons_append]
  refine Free.Chain.ex ?_ [(10, 35), (10, 35), (0, 25), (1, 26), (2, 27), (3, 28), (4, 29), (5, 30), (6, 31), (7, 32), (8, 33), (9, 34), (10, 35)] [] (by kernel_rfl) (by kernel_rfl) rfl Free.Bel.refl ?_ ?_
  rotate_left
  · (intro ev W hb hR hO hD; have hS := hF W hR; obtain ⟨hb1, hb2, hb3⟩ := hb; simp only [Free.AllDeps, Free.AllOuts, Free.At, List.getElem?_cons_succ, List.getElem?_cons_zero, Array.getD_eq_getD_getElem?, List.getElem?_toArray, Option.getD_some, and_true] at hO hD; go_simp; rfl)
  simp only [List.nil_append, List.cons_append]
  intro xs w' hR hV
  simp only [Free.AllV, Free.At, List.length_cons, List.length_nil, Nat.reduceAdd, List.getElem?_cons_succ, List.getElem?_cons_zero, true_and] at hV
  simp only [Free.putsFrom, Act.put, hV, List.setIfInBounds_toArray, List.set_cons_succ, List.set_cons_zero]
  have HB2 := Lib.hid (HB1.out.trans ((Free.Bel.first hR).mono (Nat.le_trans hs0 hs1)))
  clear hR hV hF
  go_wp2_with fail
  have hbb := HBB.out
  subst hbb
  exact bodyPost_ret (v := .tuple #[.bool false, .int .i64 z]) (by simp [results, Tryd.results20, go_sem]) rfl ⟨rfl, HB2.out⟩

set_option maxRecDepth 100000 in
set_option maxHeartbeats 2000000 in
theorem good_c (N lo hi g b o a sn sd bn bd : Int) (w : World) (q : Bool) (hc : cargoB N lo hi = true) (hd : drawB N o a = true) (he : riskedE lo hi g b sn sd bn bd = 0) (hr : fineB N g b o a sn sd bn bd = q) :
    Calls Tryd.prog 20 #[.agg #[.int .i64 N, .int .i64 lo, .int .i64 hi], .agg #[.int .i64 o, .int .i64 a], .int .i64 g, .int .i64 b, .agg #[.int .i64 sn, .int .i64 sd], .agg #[.int .i64 bn, .int .i64 bd]] w fun e w' => e = .returned (.tuple #[.bool q, .int .i64 0]) ∧ Below w.heap.size w w' := by
  have hN := (cargoB_iff N lo hi).1 hc
  have hD := (drawB_iff N o a).1 hd
  have hM := riskedE_zero he
  have hx : Hid (unlessV (drawB N o a) 13 = 0) := by simp [Hid, unlessV, hd]
  have hy : Hid (riskedE lo hi g b sn sd bn bd = 0) := he
  have hz : Hid (firstE [0, 0] = 0) := by simp [Hid, firstE]
  have hfine := Lib.hid (fun (hb mb kb cb : Nat) (W : World) (hH : Hold hb N lo hi mb kb cb W) => fine_any hb N lo hi g b o a sn sd bn bd mb kb cb q W hH (by omega) (by omega) (by omega) (by omega) hM.2.2.2.1 hM.2.2.2.2 hr)
  clear hN hD hM hd he hr
  have hB0 : Below w.heap.size w ((((w.alloc (.cells #[.int .i64 N, .int .i64 lo, .int .i64 hi] 25)).alloc (.cells #[.int .i64 o, .int .i64 a] 27)).alloc (.cells #[.int .i64 sn, .int .i64 sd] 31)).alloc (.cells #[.int .i64 bn, .int .i64 bd] 31)) := ((((Below.refl _ w).alloc (Nat.le_refl _) _).alloc (by simp) _).alloc (by simp; omega) _).alloc (by simp; omega) _
  have c0 : ((((w.alloc (.cells #[.int .i64 N, .int .i64 lo, .int .i64 hi] 25)).alloc (.cells #[.int .i64 o, .int .i64 a] 27)).alloc (.cells #[.int .i64 sn, .int .i64 sd] 31)).alloc (.cells #[.int .i64 bn, .int .i64 bd] 31)).cell? ⟨w.heap.size, 0, none⟩ = some (.int .i64 N) := by simp [go_sem]
  have c1 : ((((w.alloc (.cells #[.int .i64 N, .int .i64 lo, .int .i64 hi] 25)).alloc (.cells #[.int .i64 o, .int .i64 a] 27)).alloc (.cells #[.int .i64 sn, .int .i64 sd] 31)).alloc (.cells #[.int .i64 bn, .int .i64 bd] 31)).cell? ⟨w.heap.size, 1, none⟩ = some (.int .i64 lo) := by simp [go_sem]
  have c2 : ((((w.alloc (.cells #[.int .i64 N, .int .i64 lo, .int .i64 hi] 25)).alloc (.cells #[.int .i64 o, .int .i64 a] 27)).alloc (.cells #[.int .i64 sn, .int .i64 sd] 31)).alloc (.cells #[.int .i64 bn, .int .i64 bd] 31)).cell? ⟨w.heap.size, 2, none⟩ = some (.int .i64 hi) := by simp [go_sem]
  have c3 : ((((w.alloc (.cells #[.int .i64 N, .int .i64 lo, .int .i64 hi] 25)).alloc (.cells #[.int .i64 o, .int .i64 a] 27)).alloc (.cells #[.int .i64 sn, .int .i64 sd] 31)).alloc (.cells #[.int .i64 bn, .int .i64 bd] 31)).cell? ⟨w.heap.size + 1, 0, none⟩ = some (.int .i64 o) := by simp [go_sem]
  have c4 : ((((w.alloc (.cells #[.int .i64 N, .int .i64 lo, .int .i64 hi] 25)).alloc (.cells #[.int .i64 o, .int .i64 a] 27)).alloc (.cells #[.int .i64 sn, .int .i64 sd] 31)).alloc (.cells #[.int .i64 bn, .int .i64 bd] 31)).cell? ⟨w.heap.size + 1, 1, none⟩ = some (.int .i64 a) := by simp [go_sem]
  have c5 : ((((w.alloc (.cells #[.int .i64 N, .int .i64 lo, .int .i64 hi] 25)).alloc (.cells #[.int .i64 o, .int .i64 a] 27)).alloc (.cells #[.int .i64 sn, .int .i64 sd] 31)).alloc (.cells #[.int .i64 bn, .int .i64 bd] 31)).cell? ⟨w.heap.size + 1 + 1, 0, none⟩ = some (.int .i64 sn) := by simp [go_sem]
  have c6 : ((((w.alloc (.cells #[.int .i64 N, .int .i64 lo, .int .i64 hi] 25)).alloc (.cells #[.int .i64 o, .int .i64 a] 27)).alloc (.cells #[.int .i64 sn, .int .i64 sd] 31)).alloc (.cells #[.int .i64 bn, .int .i64 bd] 31)).cell? ⟨w.heap.size + 1 + 1, 1, none⟩ = some (.int .i64 sd) := by simp [go_sem]
  have c7 : ((((w.alloc (.cells #[.int .i64 N, .int .i64 lo, .int .i64 hi] 25)).alloc (.cells #[.int .i64 o, .int .i64 a] 27)).alloc (.cells #[.int .i64 sn, .int .i64 sd] 31)).alloc (.cells #[.int .i64 bn, .int .i64 bd] 31)).cell? ⟨w.heap.size + 1 + 1 + 1, 0, none⟩ = some (.int .i64 bn) := by simp [go_sem]
  have c8 : ((((w.alloc (.cells #[.int .i64 N, .int .i64 lo, .int .i64 hi] 25)).alloc (.cells #[.int .i64 o, .int .i64 a] 27)).alloc (.cells #[.int .i64 sn, .int .i64 sd] 31)).alloc (.cells #[.int .i64 bn, .int .i64 bd] 31)).cell? ⟨w.heap.size + 1 + 1 + 1, 1, none⟩ = some (.int .i64 bd) := by simp [go_sem]
  have s1 := Lib.hid (fun (W : World) (h : Below ((((w.alloc (.cells #[.int .i64 N, .int .i64 lo, .int .i64 hi] 25)).alloc (.cells #[.int .i64 o, .int .i64 a] 27)).alloc (.cells #[.int .i64 sn, .int .i64 sd] 31)).alloc (.cells #[.int .i64 bn, .int .i64 bd] 31)).heap.size ((((w.alloc (.cells #[.int .i64 N, .int .i64 lo, .int .i64 hi] 25)).alloc (.cells #[.int .i64 o, .int .i64 a] 27)).alloc (.cells #[.int .i64 sn, .int .i64 sd] 31)).alloc (.cells #[.int .i64 bn, .int .i64 bd] 31)) W) => And.intro (keepsB h c0) ( And.intro (keepsB h c1) ( And.intro (keepsB h c2) ( And.intro (keepsB h c3) ( And.intro (keepsB h c4) ( And.intro (keepsB h c5) ( And.intro (keepsB h c6) ( And.intro (keepsB h c7) (keepsB h c8)))))))))
  have HB0 := Lib.hid hB0
  clear hB0 c0 c1 c2 c3 c4 c5 c6 c7 c8
  go_enter Tryd.func20, Tryd.ntmps20
  go_wp2_with fail
  generalize ((((w.alloc (.cells #[.int .i64 N, .int .i64 lo, .int .i64 hi] 25)).alloc (.cells #[.int .i64 o, .int .i64 a] 27)).alloc (.cells #[.int .i64 sn, .int .i64 sd] 31)).alloc (.cells #[.int .i64 bn, .int .i64 bd] 31)) = W0 at *
  generalize hbb : w.heap.size = bb at *
  have HBB := Lib.hid hbb
  clear hbb
  have hs0 : bb ≤ W0.heap.size := by have h1 := HB0.out.size; have h2 := HBB.out; omega
  refine (begun_ok N lo hi _ hc).mono ?_
  rintro e w1 ⟨hb, mb, kb, cb, rfl, hH, hmb, hhb, hB1⟩
  have HB1 := Lib.hid (HB0.out.trans (hB1.mono hs0))
  have hs1 := hB1.size
  have HH := Lib.hid (And.intro hH (Nat.le_trans hs0 hmb))
  have hF0 := Lib.hid (fun (W : World) (h : Below w1.heap.size w1 W) => And.intro (hH.kept (.of_below h)) (s1.out W (Below.trans hB1 (h.mono hB1.size))))
  obtain ⟨d1_0, d1_1, d1_2, d1_3, d1_4, d1_5, d1_6, d1_7, d1_8⟩ := s1.out w1 hB1
  clear hB1 hH hmb hhb
  go_wp2_with fail
  have hF : ∀ W, Free.Bel w1.drew W → Hold hb N lo hi mb kb cb W ∧ W.cell? ⟨bb, 0, none⟩ = some (.int .i64 N) ∧ W.cell? ⟨bb, 1, none⟩ = some (.int .i64 lo) ∧ W.cell? ⟨bb, 2, none⟩ = some (.int .i64 hi) ∧ W.cell? ⟨bb + 1, 0, none⟩ = some (.int .i64 o) ∧ W.cell? ⟨bb + 1, 1, none⟩ = some (.int .i64 a) ∧ W.cell? ⟨bb + 1 + 1, 0, none⟩ = some (.int .i64 sn) ∧ W.cell? ⟨bb + 1 + 1, 1, none⟩ = some (.int .i64 sd) ∧ W.cell? ⟨bb + 1 + 1 + 1, 0, none⟩ = some (.int .i64 bn) ∧ W.cell? ⟨bb + 1 + 1 + 1, 1, none⟩ = some (.int .i64 bd) := fun W hW => hF0.out W (Free.Bel.first hW)
  refine Free.wp_free (R := Free.Bel) (by kernel_rfl) (by kernel_rfl) Free.Bel.refl Free.Bel.trans ?_
  refine Free.Chain.ex ?_ [] [14] (by kernel_rfl) (by kernel_rfl) rfl Free.Bel.refl ?_ ?_
  rotate_left
  · (intro ev W hb hR hO hD; have hS := hF W hR; obtain ⟨hb1, hb2, hb3⟩ := hb; simp only [Free.AllDeps, Free.AllOuts, Free.At, List.getElem?_cons_succ, List.getElem?_cons_zero, Array.getD_eq_getD_getElem?, List.getElem?_toArray, Option.getD_some, and_true] at hO hD; go_simp; rfl)
  simp only [List.nil_append, List.cons_append]
  refine Free.Chain.ex ?_ [] [7] (by kernel_rfl) (by kernel_rfl) rfl Free.Bel.refl ?_ ?_
  rotate_left
  · (intro ev W hb hR hO hD; have hS := hF W hR; obtain ⟨hb1, hb2, hb3⟩ := hb; simp only [Free.AllDeps, Free.AllOuts, Free.At, List.getElem?_cons_succ, List.getElem?_cons_zero, Array.getD_eq_getD_getElem?, List.getElem?_toArray, Option.getD_some, and_true] at hO hD; go_simp; rfl)
  simp only [List.nil_append, List.cons_append]
  refine Free.Chain.pr (fun v _ => v = .int .i64 0) [(0, 25), (1, 26)] [] (by kernel_rfl) (by kernel_rfl) rfl (fun _ _ _ _ h => h) ?_ ?_
  · (intro ev W hb hR hO hD; have hS := hF W hR; obtain ⟨hb1, hb2, hb3⟩ := hb; simp only [Free.AllDeps, Free.AllOuts, Free.At, List.getElem?_cons_succ, List.getElem?_cons_zero, Array.getD_eq_getD_getElem?, List.getElem?_toArray, Option.getD_some, and_true] at hO hD; go_simp; refine (rule_any hb N o a 0 _ hS.1.bags hx.out).mono ?_; rintro e W1 ⟨rfl, hB1⟩; exact ⟨_, rfl, hB1, rfl⟩)
  simp only [List.nil_append, List.cons_append]
  refine Free.Chain.ex ?_ [] [14] (by kernel_rfl) (by kernel_rfl) rfl Free.Bel.refl ?_ ?_
  rotate_left
  · (intro ev W hb hR hO hD; have hS := hF W hR; obtain ⟨hb1, hb2, hb3⟩ := hb; simp only [Free.AllDeps, Free.AllOuts, Free.At, List.getElem?_cons_succ, List.getElem?_cons_zero, Array.getD_eq_getD_getElem?, List.getElem?_toArray, Option.getD_some, and_true] at hO hD; go_simp; rfl)
  simp only [List.nil_append, List.cons_append]
  refine Free.Chain.ex ?_ [] [2] (by kernel_rfl) (by kernel_rfl) rfl Free.Bel.refl ?_ ?_
  rotate_left
  · (intro ev W hb hR hO hD; have hS := hF W hR; obtain ⟨hb1, hb2, hb3⟩ := hb; simp only [Free.AllDeps, Free.AllOuts, Free.At, List.getElem?_cons_succ, List.getElem?_cons_zero, Array.getD_eq_getD_getElem?, List.getElem?_toArray, Option.getD_some, and_true] at hO hD; go_simp; rfl)
  simp only [List.nil_append, List.cons_append]
  refine Free.Chain.ex ?_ [] [3] (by kernel_rfl) (by kernel_rfl) rfl Free.Bel.refl ?_ ?_
  rotate_left
  · (intro ev W hb hR hO hD; have hS := hF W hR; obtain ⟨hb1, hb2, hb3⟩ := hb; simp only [Free.AllDeps, Free.AllOuts, Free.At, List.getElem?_cons_succ, List.getElem?_cons_zero, Array.getD_eq_getD_getElem?, List.getElem?_toArray, Option.getD_some, and_true] at hO hD; go_simp; rfl)
  simp only [List.nil_append, List.cons_append]
  refine Free.Chain.ex ?_ [] [10] (by kernel_rfl) (by kernel_rfl) rfl Free.Bel.refl ?_ ?_
  rotate_left
  · (intro ev W hb hR hO hD; have hS := hF W hR; obtain ⟨hb1, hb2, hb3⟩ := hb; simp only [Free.AllDeps, Free.AllOuts, Free.At, List.getElem?_cons_succ, List.getElem?_cons_zero, Array.getD_eq_getD_getElem?, List.getElem?_toArray, Option.getD_some, and_true] at hO hD; go_simp; rfl)
  simp only [List.nil_append, List.cons_append]
  refine Free.Chain.ex ?_ [] [11] (by kernel_rfl) (by kernel_rfl) rfl Free.Bel.refl ?_ ?_
  rotate_left
  · (intro ev W hb hR hO hD; have hS := hF W hR; obtain ⟨hb1, hb2, hb3⟩ := hb; simp only [Free.AllDeps, Free.AllOuts, Free.At, List.getElem?_cons_succ, List.getElem?_cons_zero, Array.getD_eq_getD_getElem?, List.getElem?_toArray, Option.getD_some, and_true] at hO hD; go_simp; rfl)
  simp only [List.nil_append, List.cons_append]
  refine Free.Chain.pr (fun v _ => v = .int .i64 0) [(3, 28), (4, 29), (5, 30), (6, 31), (7, 32), (2, 27)] [] (by kernel_rfl) (by kernel_rfl) rfl (fun _ _ _ _ h => h) ?_ ?_
  · (intro ev W hb hR hO hD; have hS := hF W hR; obtain ⟨hb1, hb2, hb3⟩ := hb; simp only [Free.AllDeps, Free.AllOuts, Free.At, List.getElem?_cons_succ, List.getElem?_cons_zero, Array.getD_eq_getD_getElem?, List.getElem?_toArray, Option.getD_some, and_true] at hO hD; go_simp; refine (risked_any hb lo hi g b sn sd bn bd _ _ _ 0 _ hS.1.lo hS.1.hi rfl rfl rfl hy.out).mono ?_; rintro e W1 ⟨rfl, hB1⟩; exact ⟨_, rfl, hB1, rfl⟩)
  simp only [List.nil_append, List.cons_append]
  refine Free.Chain.pr (SlI [0, 0]) [(2, 27), (8, 33)] [] (by kernel_rfl) (by kernel_rfl) rfl (SlI.stable _) ?_ ?_
  · (intro ev W hb hR hO hD; have hS := hF W hR; obtain ⟨hb1, hb2, hb3⟩ := hb; simp only [Free.AllDeps, Free.AllOuts, Free.At, List.getElem?_cons_succ, List.getElem?_cons_zero, Array.getD_eq_getD_getElem?, List.getElem?_toArray, Option.getD_some, and_true] at hO hD; go_simp; exact ⟨belAlloc _ _, SlI.two _ _ _ _⟩)
  simp only [List.nil_append, List.cons_append]
  refine Free.Chain.pr (fun v _ => v = .int .i64 0) [(9, 34), (8, 33)] [] (by kernel_rfl) (by kernel_rfl) rfl (fun _ _ _ _ h => h) ?_ ?_
  · (intro ev W hb hR hO hD; have hS := hF W hR; obtain ⟨hb1, hb2, hb3⟩ := hb; simp only [Free.AllDeps, Free.AllOuts, Free.At, List.getElem?_cons_succ, List.getElem?_cons_zero, Array.getD_eq_getD_getElem?, List.getElem?_toArray, Option.getD_some, and_true] at hO hD; go_simp; refine (first_sl [0, 0] 0 _ _ (by simp [maxLen]) hz.out hD.1).mono ?_; rintro e W1 ⟨rfl, rfl⟩; exact ⟨_, rfl, Free.Bel.refl _, rfl⟩)
  simp only [List.nil_append, List.cons_append]
  refine Free.Chain.ex ?_ [(10, 35), (10, 35), (0, 25), (1, 26), (2, 27), (3, 28), (4, 29), (5, 30), (6, 31), (7, 32), (8, 33), (9, 34), (10, 35)] [] (by kernel_rfl) (by kernel_rfl) rfl Free.Bel.refl ?_ ?_
  rotate_left
  · (intro ev W hb hR hO hD; have hS := hF W hR; obtain ⟨hb1, hb2, hb3⟩ := hb; simp only [Free.AllDeps, Free.AllOuts, Free.At, List.getElem?_cons_succ, List.getElem?_cons_zero, Array.getD_eq_getD_getElem?, List.getElem?_toArray, Option.getD_some, and_true] at hO hD; go_simp; rfl)
  simp only [List.nil_append, List.cons_append]
  intro xs w' hR hV
  simp only [Free.AllV, Free.At, List.length_cons, List.length_nil, Nat.reduceAdd, List.getElem?_cons_succ, List.getElem?_cons_zero, true_and] at hV
  simp only [Free.putsFrom, Act.put, hV, List.setIfInBounds_toArray, List.set_cons_succ, List.set_cons_zero]
  have HB2 := Lib.hid (HB1.out.trans ((Free.Bel.first hR).mono (Nat.le_trans hs0 hs1)))
  obtain ⟨hH2, d2_0, d2_1, d2_2, d2_3, d2_4, d2_5, d2_6, d2_7, d2_8⟩ := hF0.out w' (Free.Bel.first hR)
  have HH2 := Lib.hid hH2
  clear hR hV hF hH2
  go_wp2_with fail
  refine (hfine.out hb mb kb cb _ HH2.out).mono ?_
  rintro e w3 ⟨rfl, hK3⟩
  have hbb := HBB.out
  have HB3 := Lib.hid (hK3.below_of HB2.out HH.out.2 (by have h1 := HB2.out.size; omega))
  clear hK3
  go_wp2_with fail
  subst hbb
  exact bodyPost_ret (v := .tuple #[.bool q, .int .i64 0]) (by simp [results, Tryd.results20, go_sem]) rfl ⟨rfl, HB3.out⟩

theorem good_any (N lo hi g b o a sn sd bn bd : Int) (w : World) :
    Calls Tryd.prog 20 #[.agg #[.int .i64 N, .int .i64 lo, .int .i64 hi], .agg #[.int .i64 o, .int .i64 a], .int .i64 g, .int .i64 b, .agg #[.int .i64 sn, .int .i64 sd], .agg #[.int .i64 bn, .int .i64 bd]] w fun e w' => e = .returned (.tuple (if cargoB N lo hi = false then #[.bool false, .int .i64 10] else if goodE N lo hi g b o a sn sd bn bd ≠ 0 then #[.bool false, .int .i64 (goodE N lo hi g b o a sn sd bn bd)] else #[.bool (fineB N g b o a sn sd bn bd), .int .i64 0])) ∧ Below w.heap.size w w' := by
  cases hc : cargoB N lo hi
  · simpa using good_a N lo hi g b o a sn sd bn bd w hc
  · by_cases hz : goodE N lo hi g b o a sn sd bn bd = 0
    · have hd : drawB N o a = true := by
        cases h : drawB N o a
        · simp [goodE, h, unlessV, firstE] at hz
        · rfl
      have he : riskedE lo hi g b sn sd bn bd = 0 := by
        have := hz
        simp only [goodE, hd, unlessV, firstE, if_true] at this
        by_cases h : riskedE lo hi g b sn sd bn bd = 0
        · exact h
        · simp [h] at this
      simpa [hz] using good_c N lo hi g b o a sn sd bn bd w _ hc hd he rfl
    · rw [if_neg (by simp), if_pos hz]
      exact good_b N lo hi g b o a sn sd bn bd w hc _ _ _ rfl rfl rfl (by show (goodE N lo hi g b o a sn sd bn bd != 0) = true; simpa using hz)
end Go.Proofs.YthhallnkpbgomaaDoor
