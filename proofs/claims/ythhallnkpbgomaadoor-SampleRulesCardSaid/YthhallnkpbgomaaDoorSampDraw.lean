/- The cargo at work is asked: whether a draw, a rule, numbers are valid. -/
import Derived.Test.YthhallnkpbgomaaDoorSampBegun
namespace Go.Proofs.YthhallnkpbgomaaDoor
set_option linter.unusedSimpArgs false
set_option linter.unusedVariables false
open Go.RowKit Go.Proofs.YthhallnkpbgomaaDoor.ML Go.Proofs.YthhallnkpbgomaaDoor.Samp

/-- Whether a draw (a rule) is valid. -/
def drawB (N o f : Int) : Bool := inB 0 N [o] && inB 0 o [f]
theorem drawB_iff (N o f : Int) : drawB N o f = true ↔ 0 ≤ o ∧ o ≤ N ∧ 0 ≤ f ∧ f ≤ o := by
  simp [drawB, inB]; omega

set_option maxRecDepth 100000 in
set_option maxHeartbeats 2000000 in
theorem draw_a (hb : Nat) (N o f : Int) (w : World) (h0 : w.cell? ⟨hb, 0, none⟩ = some (.int .i64 N)) (h1 : inB 0 N [o] = false) :
    Calls Tryd.prog 71 #[.pointer (some ⟨hb, 0, none⟩), .agg #[.int .i64 o, .int .i64 f]] w fun e w' => e = .returned (.int .i64 11) ∧ Below w.heap.size w w' := by
  have hB0 : Below w.heap.size w (w.alloc (.cells #[.int .i64 o, .int .i64 f] 60)) := (Below.refl _ w).alloc (Nat.le_refl _) _
  go_enter Tryd.func71, Tryd.ntmps71
  go_wp2_with fail
  have c0 : (w.alloc (.cells #[.int .i64 o, .int .i64 f] 60)).cell? ⟨w.heap.size, 0, none⟩ = some (.int .i64 o) := by simp [go_sem]
  have c1 : (w.alloc (.cells #[.int .i64 o, .int .i64 f] 60)).cell? ⟨w.heap.size, 1, none⟩ = some (.int .i64 f) := by simp [go_sem]
  have c2 := keepsB hB0 h0
  have HB0 := Lib.hid hB0
  clear hB0 h0
  generalize w.alloc (.cells #[.int .i64 o, .int .i64 f] 60) = W0 at *
  have hsz := lt_of_cell c0
  generalize hbb : w.heap.size = bb at *
  have HBB := Lib.hid hbb
  clear hbb
  have hF : ∀ W, Free.Bel W0.drew W → W.cell? ⟨bb, 0, none⟩ = some (.int .i64 o) ∧ W.cell? ⟨bb, 1, none⟩ = some (.int .i64 f) ∧ W.cell? ⟨hb, 0, none⟩ = some (.int .i64 N) :=
    fun W hW => ⟨keepsB hW c0, keepsB hW c1, keepsB hW c2⟩
  refine Free.wp_free (R := Free.Bel) (by kernel_rfl) (by kernel_rfl) Free.Bel.refl Free.Bel.trans ?_
  refine Free.Chain.ex ?_ [] [0] (by kernel_rfl) (by kernel_rfl) rfl Free.Bel.refl ?_ ?_
  rotate_left
  · (intro ev W hb hR hO hD; have hS := hF W hR; obtain ⟨hb1, hb2, hb3⟩ := hb; simp only [Free.AllDeps, Free.AllOuts, Free.At, List.getElem?_cons_succ, List.getElem?_cons_zero, Array.getD_eq_getD_getElem?, List.getElem?_toArray, Option.getD_some, and_true] at hO hD; go_simp; rfl)
  simp only [List.nil_append, List.cons_append]
  refine Free.Chain.ex ?_ [(0, 5)] [] (by kernel_rfl) (by kernel_rfl) rfl Free.Bel.refl ?_ ?_
  rotate_left
  · (intro ev W hb hR hO hD; have hS := hF W hR; obtain ⟨hb1, hb2, hb3⟩ := hb; simp only [Free.AllDeps, Free.AllOuts, Free.At, List.getElem?_cons_succ, List.getElem?_cons_zero, Array.getD_eq_getD_getElem?, List.getElem?_toArray, Option.getD_some, and_true] at hO hD; go_simp; rfl)
  simp only [List.nil_append, List.cons_append]
  refine Free.Chain.ex ?_ [(1, 6)] [] (by kernel_rfl) (by kernel_rfl) rfl Free.Bel.refl ?_ ?_
  rotate_left
  · (intro ev W hb hR hO hD; have hS := hF W hR; obtain ⟨hb1, hb2, hb3⟩ := hb; simp only [Free.AllDeps, Free.AllOuts, Free.At, List.getElem?_cons_succ, List.getElem?_cons_zero, Array.getD_eq_getD_getElem?, List.getElem?_toArray, Option.getD_some, and_true] at hO hD; go_simp; rfl)
  simp only [List.nil_append, List.cons_append]
  refine Free.Chain.ex ?_ [(2, 7)] [] (by kernel_rfl) (by kernel_rfl) rfl Free.Bel.refl ?_ ?_
  rotate_left
  · (intro ev W hb hR hO hD; have hS := hF W hR; obtain ⟨hb1, hb2, hb3⟩ := hb; simp only [Free.AllDeps, Free.AllOuts, Free.At, List.getElem?_cons_succ, List.getElem?_cons_zero, Array.getD_eq_getD_getElem?, List.getElem?_toArray, Option.getD_some, and_true] at hO hD; go_simp; rfl)
  simp only [List.nil_append, List.cons_append]
  refine Free.Chain.ex ?_ [(3, 8)] [] (by kernel_rfl) (by kernel_rfl) rfl Free.Bel.refl ?_ ?_
  rotate_left
  · (intro ev W hb hR hO hD; have hS := hF W hR; obtain ⟨hb1, hb2, hb3⟩ := hb; simp only [Free.AllDeps, Free.AllOuts, Free.At, List.getElem?_cons_succ, List.getElem?_cons_zero, Array.getD_eq_getD_getElem?, List.getElem?_toArray, Option.getD_some, and_true] at hO hD; go_simp; rfl)
  simp only [List.nil_append, List.cons_append]
  refine Free.Chain.ex ?_ [] [3] (by kernel_rfl) (by kernel_rfl) rfl Free.Bel.refl ?_ ?_
  rotate_left
  · (intro ev W hb hR hO hD; have hS := hF W hR; obtain ⟨hb1, hb2, hb3⟩ := hb; simp only [Free.AllDeps, Free.AllOuts, Free.At, List.getElem?_cons_succ, List.getElem?_cons_zero, Array.getD_eq_getD_getElem?, List.getElem?_toArray, Option.getD_some, and_true] at hO hD; go_simp; rfl)
  simp only [List.nil_append, List.cons_append]
  refine Free.Chain.ex ?_ [(5, 10)] [] (by kernel_rfl) (by kernel_rfl) rfl Free.Bel.refl ?_ ?_
  rotate_left
  · (intro ev W hb hR hO hD; have hS := hF W hR; obtain ⟨hb1, hb2, hb3⟩ := hb; simp only [Free.AllDeps, Free.AllOuts, Free.At, List.getElem?_cons_succ, List.getElem?_cons_zero, Array.getD_eq_getD_getElem?, List.getElem?_toArray, Option.getD_some, and_true] at hO hD; go_simp; rfl)
  simp only [List.nil_append, List.cons_append]
  refine Free.Chain.pr (SlI [o]) [(6, 11)] [] (by kernel_rfl) (by kernel_rfl) rfl (SlI.stable _) ?_ ?_
  · (intro ev W hb hR hO hD; have hS := hF W hR; obtain ⟨hb1, hb2, hb3⟩ := hb; simp only [Free.AllDeps, Free.AllOuts, Free.At, List.getElem?_cons_succ, List.getElem?_cons_zero, Array.getD_eq_getD_getElem?, List.getElem?_toArray, Option.getD_some, and_true] at hO hD; go_simp; exact ⟨belAlloc _ _, SlI.one _ _ _⟩)
  simp only [List.nil_append, List.cons_append]
  refine Free.Chain.pr (fun v _ => v = .bool false) [(4, 9), (7, 12)] [] (by kernel_rfl) (by kernel_rfl) rfl (fun _ _ _ _ h => h) ?_ ?_
  · (intro ev W hb hR hO hD; have hS := hF W hR; obtain ⟨hb1, hb2, hb3⟩ := hb; simp only [Free.AllDeps, Free.AllOuts, Free.At, List.getElem?_cons_succ, List.getElem?_cons_zero, Array.getD_eq_getD_getElem?, List.getElem?_toArray, Option.getD_some, and_true] at hO hD; go_simp; refine (in_sl _ _ [o] false _ _ (by simp [maxLen]) h1 hD.2).mono ?_; rintro e W1 ⟨rfl, hB1⟩; exact ⟨_, rfl, hB1, rfl⟩)
  simp only [List.nil_append, List.cons_append]
  refine Free.Chain.ex ?_ [(8, 13), (8, 13)] [] (by kernel_rfl) (by kernel_rfl) rfl Free.Bel.refl ?_ ?_
  rotate_left
  · (intro ev W hb hR hO hD; have hS := hF W hR; obtain ⟨hb1, hb2, hb3⟩ := hb; simp only [Free.AllDeps, Free.AllOuts, Free.At, List.getElem?_cons_succ, List.getElem?_cons_zero, Array.getD_eq_getD_getElem?, List.getElem?_toArray, Option.getD_some, and_true] at hO hD; go_simp; rfl)
  simp only [List.nil_append, List.cons_append]
  refine Free.Chain.no [(9, 14)] [3] 9 true 14 (by kernel_rfl) (by kernel_rfl) rfl (by kernel_rfl) ?_ ?_
  · (intro ev W hR hD; simp only [Free.AllDeps, Free.At, List.getElem?_cons_succ, List.getElem?_cons_zero, and_true] at hD; simp [hD])
  simp only [List.nil_append, List.cons_append]
  refine Free.Chain.no [(10, 15), (9, 14)] [] 9 true 14 (by kernel_rfl) (by kernel_rfl) rfl (by kernel_rfl) ?_ ?_
  · (intro ev W hR hD; simp only [Free.AllDeps, Free.At, List.getElem?_cons_succ, List.getElem?_cons_zero, and_true] at hD; simp [hD])
  simp only [List.nil_append, List.cons_append]
  refine Free.Chain.no [(9, 14)] [3] 9 true 14 (by kernel_rfl) (by kernel_rfl) rfl (by kernel_rfl) ?_ ?_
  · (intro ev W hR hD; simp only [Free.AllDeps, Free.At, List.getElem?_cons_succ, List.getElem?_cons_zero, and_true] at hD; simp [hD])
  simp only [List.nil_append, List.cons_append]
  refine Free.Chain.no [(12, 17), (9, 14)] [] 9 true 14 (by kernel_rfl) (by kernel_rfl) rfl (by kernel_rfl) ?_ ?_
  · (intro ev W hR hD; simp only [Free.AllDeps, Free.At, List.getElem?_cons_succ, List.getElem?_cons_zero, and_true] at hD; simp [hD])
  simp only [List.nil_append, List.cons_append]
  refine Free.Chain.no [(13, 18), (9, 14)] [] 9 true 14 (by kernel_rfl) (by kernel_rfl) rfl (by kernel_rfl) ?_ ?_
  · (intro ev W hR hD; simp only [Free.AllDeps, Free.At, List.getElem?_cons_succ, List.getElem?_cons_zero, and_true] at hD; simp [hD])
  simp only [List.nil_append, List.cons_append]
  refine Free.Chain.no [(11, 16), (14, 19), (9, 14), (9, 14)] [] 9 true 14 (by kernel_rfl) (by kernel_rfl) rfl (by kernel_rfl) ?_ ?_
  · (intro ev W hR hD; simp only [Free.AllDeps, Free.At, List.getElem?_cons_succ, List.getElem?_cons_zero, and_true] at hD; simp [hD])
  simp only [List.nil_append, List.cons_append]
  refine Free.Chain.ex ?_ [(9, 14), (15, 20)] [] (by kernel_rfl) (by kernel_rfl) rfl Free.Bel.refl ?_ ?_
  rotate_left
  · (intro ev W hb hR hO hD; have hS := hF W hR; obtain ⟨hb1, hb2, hb3⟩ := hb; simp only [Free.AllDeps, Free.AllOuts, Free.At, List.getElem?_cons_succ, List.getElem?_cons_zero, Array.getD_eq_getD_getElem?, List.getElem?_toArray, Option.getD_some, and_true] at hO hD; go_simp; rfl)
  simp only [List.nil_append, List.cons_append]
  refine Free.Chain.pr (fun v _ => v = .int .i64 11) [(16, 21), (15, 20)] [] (by kernel_rfl) (by kernel_rfl) rfl (fun _ _ _ _ h => h) ?_ ?_
  · (intro ev W hb hR hO hD; have hS := hF W hR; obtain ⟨hb1, hb2, hb3⟩ := hb; simp only [Free.AllDeps, Free.AllOuts, Free.At, List.getElem?_cons_succ, List.getElem?_cons_zero, Array.getD_eq_getD_getElem?, List.getElem?_toArray, Option.getD_some, and_true] at hO hD; go_simp; refine (unless_any _ _ _ _ rfl).mono ?_; rintro e W1 ⟨rfl, rfl⟩; exact ⟨_, rfl, Free.Bel.refl _, rfl⟩)
  simp only [List.nil_append, List.cons_append]
  refine Free.Chain.ex ?_ [(17, 22), (17, 22), (0, 5), (1, 6), (2, 7), (3, 8), (4, 9), (5, 10), (6, 11), (7, 12), (8, 13), (9, 14), (10, 15), (11, 16), (12, 17), (13, 18), (14, 19), (15, 20), (16, 21), (17, 22)] [] (by kernel_rfl) (by kernel_rfl) rfl Free.Bel.refl ?_ ?_
  rotate_left
  · (intro ev W hb hR hO hD; have hS := hF W hR; obtain ⟨hb1, hb2, hb3⟩ := hb; simp only [Free.AllDeps, Free.AllOuts, Free.At, List.getElem?_cons_succ, List.getElem?_cons_zero, Array.getD_eq_getD_getElem?, List.getElem?_toArray, Option.getD_some, and_true] at hO hD; go_simp; rfl)
  simp only [List.nil_append, List.cons_append]
  intro xs w' hR hV
  simp only [Free.AllV, Free.At, List.length_cons, List.length_nil, Nat.reduceAdd, List.getElem?_cons_succ, List.getElem?_cons_zero, true_and] at hV
  simp only [Free.putsFrom, Act.put, hV, List.setIfInBounds_toArray, List.set_cons_succ, List.set_cons_zero]
  go_wp2_with fail
  have hbb := HBB.out
  subst hbb
  go_ret
  exact ⟨rfl, HB0.out.drew.trans (hR.mono (by simp at hsz ⊢; omega))⟩

set_option maxRecDepth 100000 in
set_option maxHeartbeats 2000000 in
theorem draw_b (hb : Nat) (N o f : Int) (w : World) (h0 : w.cell? ⟨hb, 0, none⟩ = some (.int .i64 N)) (h1 : inB 0 N [o] = true) (h2 : inB 0 o [f] = false) :
    Calls Tryd.prog 71 #[.pointer (some ⟨hb, 0, none⟩), .agg #[.int .i64 o, .int .i64 f]] w fun e w' => e = .returned (.int .i64 11) ∧ Below w.heap.size w w' := by
  have hB0 : Below w.heap.size w (w.alloc (.cells #[.int .i64 o, .int .i64 f] 60)) := (Below.refl _ w).alloc (Nat.le_refl _) _
  go_enter Tryd.func71, Tryd.ntmps71
  go_wp2_with fail
  have c0 : (w.alloc (.cells #[.int .i64 o, .int .i64 f] 60)).cell? ⟨w.heap.size, 0, none⟩ = some (.int .i64 o) := by simp [go_sem]
  have c1 : (w.alloc (.cells #[.int .i64 o, .int .i64 f] 60)).cell? ⟨w.heap.size, 1, none⟩ = some (.int .i64 f) := by simp [go_sem]
  have c2 := keepsB hB0 h0
  have HB0 := Lib.hid hB0
  clear hB0 h0
  generalize w.alloc (.cells #[.int .i64 o, .int .i64 f] 60) = W0 at *
  have hsz := lt_of_cell c0
  generalize hbb : w.heap.size = bb at *
  have HBB := Lib.hid hbb
  clear hbb
  have hF : ∀ W, Free.Bel W0.drew W → W.cell? ⟨bb, 0, none⟩ = some (.int .i64 o) ∧ W.cell? ⟨bb, 1, none⟩ = some (.int .i64 f) ∧ W.cell? ⟨hb, 0, none⟩ = some (.int .i64 N) :=
    fun W hW => ⟨keepsB hW c0, keepsB hW c1, keepsB hW c2⟩
  refine Free.wp_free (R := Free.Bel) (by kernel_rfl) (by kernel_rfl) Free.Bel.refl Free.Bel.trans ?_
  refine Free.Chain.ex ?_ [] [0] (by kernel_rfl) (by kernel_rfl) rfl Free.Bel.refl ?_ ?_
  rotate_left
  · (intro ev W hb hR hO hD; have hS := hF W hR; obtain ⟨hb1, hb2, hb3⟩ := hb; simp only [Free.AllDeps, Free.AllOuts, Free.At, List.getElem?_cons_succ, List.getElem?_cons_zero, Array.getD_eq_getD_getElem?, List.getElem?_toArray, Option.getD_some, and_true] at hO hD; go_simp; rfl)
  simp only [List.nil_append, List.cons_append]
  refine Free.Chain.ex ?_ [(0, 5)] [] (by kernel_rfl) (by kernel_rfl) rfl Free.Bel.refl ?_ ?_
  rotate_left
  · (intro ev W hb hR hO hD; have hS := hF W hR; obtain ⟨hb1, hb2, hb3⟩ := hb; simp only [Free.AllDeps, Free.AllOuts, Free.At, List.getElem?_cons_succ, List.getElem?_cons_zero, Array.getD_eq_getD_getElem?, List.getElem?_toArray, Option.getD_some, and_true] at hO hD; go_simp; rfl)
  simp only [List.nil_append, List.cons_append]
  refine Free.Chain.ex ?_ [(1, 6)] [] (by kernel_rfl) (by kernel_rfl) rfl Free.Bel.refl ?_ ?_
  rotate_left
  · (intro ev W hb hR hO hD; have hS := hF W hR; obtain ⟨hb1, hb2, hb3⟩ := hb; simp only [Free.AllDeps, Free.AllOuts, Free.At, List.getElem?_cons_succ, List.getElem?_cons_zero, Array.getD_eq_getD_getElem?, List.getElem?_toArray, Option.getD_some, and_true] at hO hD; go_simp; rfl)
  simp only [List.nil_append, List.cons_append]
  refine Free.Chain.ex ?_ [(2, 7)] [] (by kernel_rfl) (by kernel_rfl) rfl Free.Bel.refl ?_ ?_
  rotate_left
  · (intro ev W hb hR hO hD; have hS := hF W hR; obtain ⟨hb1, hb2, hb3⟩ := hb; simp only [Free.AllDeps, Free.AllOuts, Free.At, List.getElem?_cons_succ, List.getElem?_cons_zero, Array.getD_eq_getD_getElem?, List.getElem?_toArray, Option.getD_some, and_true] at hO hD; go_simp; rfl)
  simp only [List.nil_append, List.cons_append]
  refine Free.Chain.ex ?_ [(3, 8)] [] (by kernel_rfl) (by kernel_rfl) rfl Free.Bel.refl ?_ ?_
  rotate_left
  · (intro ev W hb hR hO hD; have hS := hF W hR; obtain ⟨hb1, hb2, hb3⟩ := hb; simp only [Free.AllDeps, Free.AllOuts, Free.At, List.getElem?_cons_succ, List.getElem?_cons_zero, Array.getD_eq_getD_getElem?, List.getElem?_toArray, Option.getD_some, and_true] at hO hD; go_simp; rfl)
  simp only [List.nil_append, List.cons_append]
  refine Free.Chain.ex ?_ [] [3] (by kernel_rfl) (by kernel_rfl) rfl Free.Bel.refl ?_ ?_
  rotate_left
  · (intro ev W hb hR hO hD; have hS := hF W hR; obtain ⟨hb1, hb2, hb3⟩ := hb; simp only [Free.AllDeps, Free.AllOuts, Free.At, List.getElem?_cons_succ, List.getElem?_cons_zero, Array.getD_eq_getD_getElem?, List.getElem?_toArray, Option.getD_some, and_true] at hO hD; go_simp; rfl)
  simp only [List.nil_append, List.cons_append]
  refine Free.Chain.ex ?_ [(5, 10)] [] (by kernel_rfl) (by kernel_rfl) rfl Free.Bel.refl ?_ ?_
  rotate_left
  · (intro ev W hb hR hO hD; have hS := hF W hR; obtain ⟨hb1, hb2, hb3⟩ := hb; simp only [Free.AllDeps, Free.AllOuts, Free.At, List.getElem?_cons_succ, List.getElem?_cons_zero, Array.getD_eq_getD_getElem?, List.getElem?_toArray, Option.getD_some, and_true] at hO hD; go_simp; rfl)
  simp only [List.nil_append, List.cons_append]
  refine Free.Chain.pr (SlI [o]) [(6, 11)] [] (by kernel_rfl) (by kernel_rfl) rfl (SlI.stable _) ?_ ?_
  · (intro ev W hb hR hO hD; have hS := hF W hR; obtain ⟨hb1, hb2, hb3⟩ := hb; simp only [Free.AllDeps, Free.AllOuts, Free.At, List.getElem?_cons_succ, List.getElem?_cons_zero, Array.getD_eq_getD_getElem?, List.getElem?_toArray, Option.getD_some, and_true] at hO hD; go_simp; exact ⟨belAlloc _ _, SlI.one _ _ _⟩)
  simp only [List.nil_append, List.cons_append]
  refine Free.Chain.pr (fun v _ => v = .bool true) [(4, 9), (7, 12)] [] (by kernel_rfl) (by kernel_rfl) rfl (fun _ _ _ _ h => h) ?_ ?_
  · (intro ev W hb hR hO hD; have hS := hF W hR; obtain ⟨hb1, hb2, hb3⟩ := hb; simp only [Free.AllDeps, Free.AllOuts, Free.At, List.getElem?_cons_succ, List.getElem?_cons_zero, Array.getD_eq_getD_getElem?, List.getElem?_toArray, Option.getD_some, and_true] at hO hD; go_simp; refine (in_sl _ _ [o] true _ _ (by simp [maxLen]) h1 hD.2).mono ?_; rintro e W1 ⟨rfl, hB1⟩; exact ⟨_, rfl, hB1, rfl⟩)
  simp only [List.nil_append, List.cons_append]
  refine Free.Chain.ex ?_ [(8, 13), (8, 13)] [] (by kernel_rfl) (by kernel_rfl) rfl Free.Bel.refl ?_ ?_
  rotate_left
  · (intro ev W hb hR hO hD; have hS := hF W hR; obtain ⟨hb1, hb2, hb3⟩ := hb; simp only [Free.AllDeps, Free.AllOuts, Free.At, List.getElem?_cons_succ, List.getElem?_cons_zero, Array.getD_eq_getD_getElem?, List.getElem?_toArray, Option.getD_some, and_true] at hO hD; go_simp; rfl)
  simp only [List.nil_append, List.cons_append]
  refine Free.Chain.exG ?_ [(9, 14)] [3] 9 true 14 (by kernel_rfl) (by kernel_rfl) rfl (by kernel_rfl) Free.Bel.refl ?_ ?_
  rotate_left
  · (intro ev W hb hR hO hD; have hS := hF W hR; obtain ⟨hb1, hb2, hb3⟩ := hb; simp only [Free.AllDeps, Free.AllOuts, Free.At, List.getElem?_cons_succ, List.getElem?_cons_zero, Array.getD_eq_getD_getElem?, List.getElem?_toArray, Option.getD_some, and_true] at hO hD; refine ⟨by simp [hD], ?_⟩; go_simp; rfl)
  simp only [List.nil_append, List.cons_append]
  refine Free.Chain.exG ?_ [(10, 15), (9, 14)] [] 9 true 14 (by kernel_rfl) (by kernel_rfl) rfl (by kernel_rfl) Free.Bel.refl ?_ ?_
  rotate_left
  · (intro ev W hb hR hO hD; have hS := hF W hR; obtain ⟨hb1, hb2, hb3⟩ := hb; simp only [Free.AllDeps, Free.AllOuts, Free.At, List.getElem?_cons_succ, List.getElem?_cons_zero, Array.getD_eq_getD_getElem?, List.getElem?_toArray, Option.getD_some, and_true] at hO hD; refine ⟨by simp [hD], ?_⟩; go_simp; rfl)
  simp only [List.nil_append, List.cons_append]
  refine Free.Chain.exG ?_ [(9, 14)] [3] 9 true 14 (by kernel_rfl) (by kernel_rfl) rfl (by kernel_rfl) Free.Bel.refl ?_ ?_
  rotate_left
  · (intro ev W hb hR hO hD; have hS := hF W hR; obtain ⟨hb1, hb2, hb3⟩ := hb; simp only [Free.AllDeps, Free.AllOuts, Free.At, List.getElem?_cons_succ, List.getElem?_cons_zero, Array.getD_eq_getD_getElem?, List.getElem?_toArray, Option.getD_some, and_true] at hO hD; refine ⟨by simp [hD], ?_⟩; go_simp; rfl)
  simp only [List.nil_append, List.cons_append]
  refine Free.Chain.exG ?_ [(12, 17), (9, 14)] [] 9 true 14 (by kernel_rfl) (by kernel_rfl) rfl (by kernel_rfl) Free.Bel.refl ?_ ?_
  rotate_left
  · (intro ev W hb hR hO hD; have hS := hF W hR; obtain ⟨hb1, hb2, hb3⟩ := hb; simp only [Free.AllDeps, Free.AllOuts, Free.At, List.getElem?_cons_succ, List.getElem?_cons_zero, Array.getD_eq_getD_getElem?, List.getElem?_toArray, Option.getD_some, and_true] at hO hD; refine ⟨by simp [hD], ?_⟩; go_simp; rfl)
  simp only [List.nil_append, List.cons_append]
  refine Free.Chain.prG (SlI [f]) [(13, 18), (9, 14)] [] 9 true 14 (by kernel_rfl) (by kernel_rfl) rfl (by kernel_rfl) (SlI.stable _) ?_ ?_
  · (intro ev W hb hR hO hD; have hS := hF W hR; obtain ⟨hb1, hb2, hb3⟩ := hb; simp only [Free.AllDeps, Free.AllOuts, Free.At, List.getElem?_cons_succ, List.getElem?_cons_zero, Array.getD_eq_getD_getElem?, List.getElem?_toArray, Option.getD_some, and_true] at hO hD; refine ⟨by simp [hD], ?_⟩; go_simp; exact ⟨belAlloc _ _, SlI.one _ _ _⟩)
  simp only [List.nil_append, List.cons_append]
  refine Free.Chain.prG (fun v _ => v = .bool false) [(11, 16), (14, 19), (9, 14), (9, 14)] [] 9 true 14 (by kernel_rfl) (by kernel_rfl) rfl (by kernel_rfl) (fun _ _ _ _ h => h) ?_ ?_
  · (intro ev W hb hR hO hD; have hS := hF W hR; obtain ⟨hb1, hb2, hb3⟩ := hb; simp only [Free.AllDeps, Free.AllOuts, Free.At, List.getElem?_cons_succ, List.getElem?_cons_zero, Array.getD_eq_getD_getElem?, List.getElem?_toArray, Option.getD_some, and_true] at hO hD; refine ⟨by simp [hD], ?_⟩; go_simp; refine (in_sl _ _ [f] false _ _ (by simp [maxLen]) h2 hD.2.1).mono ?_; rintro e W1 ⟨rfl, hB1⟩; exact ⟨_, rfl, hB1, rfl⟩)
  simp only [List.nil_append, List.cons_append]
  refine Free.Chain.ex ?_ [(9, 14), (15, 20)] [] (by kernel_rfl) (by kernel_rfl) rfl Free.Bel.refl ?_ ?_
  rotate_left
  · (intro ev W hb hR hO hD; have hS := hF W hR; obtain ⟨hb1, hb2, hb3⟩ := hb; simp only [Free.AllDeps, Free.AllOuts, Free.At, List.getElem?_cons_succ, List.getElem?_cons_zero, Array.getD_eq_getD_getElem?, List.getElem?_toArray, Option.getD_some, and_true] at hO hD; go_simp; rfl)
  simp only [List.nil_append, List.cons_append]
  refine Free.Chain.pr (fun v _ => v = .int .i64 11) [(16, 21), (15, 20)] [] (by kernel_rfl) (by kernel_rfl) rfl (fun _ _ _ _ h => h) ?_ ?_
  · (intro ev W hb hR hO hD; have hS := hF W hR; obtain ⟨hb1, hb2, hb3⟩ := hb; simp only [Free.AllDeps, Free.AllOuts, Free.At, List.getElem?_cons_succ, List.getElem?_cons_zero, Array.getD_eq_getD_getElem?, List.getElem?_toArray, Option.getD_some, and_true] at hO hD; go_simp; refine (unless_any _ _ _ _ rfl).mono ?_; rintro e W1 ⟨rfl, rfl⟩; exact ⟨_, rfl, Free.Bel.refl _, rfl⟩)
  simp only [List.nil_append, List.cons_append]
  refine Free.Chain.ex ?_ [(17, 22), (17, 22), (0, 5), (1, 6), (2, 7), (3, 8), (4, 9), (5, 10), (6, 11), (7, 12), (8, 13), (9, 14), (10, 15), (11, 16), (12, 17), (13, 18), (14, 19), (15, 20), (16, 21), (17, 22)] [] (by kernel_rfl) (by kernel_rfl) rfl Free.Bel.refl ?_ ?_
  rotate_left
  · (intro ev W hb hR hO hD; have hS := hF W hR; obtain ⟨hb1, hb2, hb3⟩ := hb; simp only [Free.AllDeps, Free.AllOuts, Free.At, List.getElem?_cons_succ, List.getElem?_cons_zero, Array.getD_eq_getD_getElem?, List.getElem?_toArray, Option.getD_some, and_true] at hO hD; go_simp; rfl)
  simp only [List.nil_append, List.cons_append]
  intro xs w' hR hV
  simp only [Free.AllV, Free.At, List.length_cons, List.length_nil, Nat.reduceAdd, List.getElem?_cons_succ, List.getElem?_cons_zero, true_and] at hV
  simp only [Free.putsFrom, Act.put, hV, List.setIfInBounds_toArray, List.set_cons_succ, List.set_cons_zero]
  go_wp2_with fail
  have hbb := HBB.out
  subst hbb
  go_ret
  exact ⟨rfl, HB0.out.drew.trans (hR.mono (by simp at hsz ⊢; omega))⟩

set_option maxRecDepth 100000 in
set_option maxHeartbeats 2000000 in
theorem draw_c (hb : Nat) (N o f : Int) (w : World) (h0 : w.cell? ⟨hb, 0, none⟩ = some (.int .i64 N)) (h1 : inB 0 N [o] = true) (h2 : inB 0 o [f] = true) :
    Calls Tryd.prog 71 #[.pointer (some ⟨hb, 0, none⟩), .agg #[.int .i64 o, .int .i64 f]] w fun e w' => e = .returned (.int .i64 0) ∧ Below w.heap.size w w' := by
  have hB0 : Below w.heap.size w (w.alloc (.cells #[.int .i64 o, .int .i64 f] 60)) := (Below.refl _ w).alloc (Nat.le_refl _) _
  go_enter Tryd.func71, Tryd.ntmps71
  go_wp2_with fail
  have c0 : (w.alloc (.cells #[.int .i64 o, .int .i64 f] 60)).cell? ⟨w.heap.size, 0, none⟩ = some (.int .i64 o) := by simp [go_sem]
  have c1 : (w.alloc (.cells #[.int .i64 o, .int .i64 f] 60)).cell? ⟨w.heap.size, 1, none⟩ = some (.int .i64 f) := by simp [go_sem]
  have c2 := keepsB hB0 h0
  have HB0 := Lib.hid hB0
  clear hB0 h0
  generalize w.alloc (.cells #[.int .i64 o, .int .i64 f] 60) = W0 at *
  have hsz := lt_of_cell c0
  generalize hbb : w.heap.size = bb at *
  have HBB := Lib.hid hbb
  clear hbb
  have hF : ∀ W, Free.Bel W0.drew W → W.cell? ⟨bb, 0, none⟩ = some (.int .i64 o) ∧ W.cell? ⟨bb, 1, none⟩ = some (.int .i64 f) ∧ W.cell? ⟨hb, 0, none⟩ = some (.int .i64 N) :=
    fun W hW => ⟨keepsB hW c0, keepsB hW c1, keepsB hW c2⟩
  refine Free.wp_free (R := Free.Bel) (by kernel_rfl) (by kernel_rfl) Free.Bel.refl Free.Bel.trans ?_
  refine Free.Chain.ex ?_ [] [0] (by kernel_rfl) (by kernel_rfl) rfl Free.Bel.refl ?_ ?_
  rotate_left
  · (intro ev W hb hR hO hD; have hS := hF W hR; obtain ⟨hb1, hb2, hb3⟩ := hb; simp only [Free.AllDeps, Free.AllOuts, Free.At, List.getElem?_cons_succ, List.getElem?_cons_zero, Array.getD_eq_getD_getElem?, List.getElem?_toArray, Option.getD_some, and_true] at hO hD; go_simp; rfl)
  simp only [List.nil_append, List.cons_append]
  refine Free.Chain.ex ?_ [(0, 5)] [] (by kernel_rfl) (by kernel_rfl) rfl Free.Bel.refl ?_ ?_
  rotate_left
  · (intro ev W hb hR hO hD; have hS := hF W hR; obtain ⟨hb1, hb2, hb3⟩ := hb; simp only [Free.AllDeps, Free.AllOuts, Free.At, List.getElem?_cons_succ, List.getElem?_cons_zero, Array.getD_eq_getD_getElem?, List.getElem?_toArray, Option.getD_some, and_true] at hO hD; go_simp; rfl)
  simp only [List.nil_append, List.cons_append]
  refine Free.Chain.ex ?_ [(1, 6)] [] (by kernel_rfl) (by kernel_rfl) rfl Free.Bel.refl ?_ ?_
  rotate_left
  · (intro ev W hb hR hO hD; have hS := hF W hR; obtain ⟨hb1, hb2, hb3⟩ := hb; simp only [Free.AllDeps, Free.AllOuts, Free.At, List.getElem?_cons_succ, List.getElem?_cons_zero, Array.getD_eq_getD_getElem?, List.getElem?_toArray, Option.getD_some, and_true] at hO hD; go_simp; rfl)
  simp only [List.nil_append, List.cons_append]
  refine Free.Chain.ex ?_ [(2, 7)] [] (by kernel_rfl) (by kernel_rfl) rfl Free.Bel.refl ?_ ?_
  rotate_left
  · (intro ev W hb hR hO hD; have hS := hF W hR; obtain ⟨hb1, hb2, hb3⟩ := hb; simp only [Free.AllDeps, Free.AllOuts, Free.At, List.getElem?_cons_succ, List.getElem?_cons_zero, Array.getD_eq_getD_getElem?, List.getElem?_toArray, Option.getD_some, and_true] at hO hD; go_simp; rfl)
  simp only [List.nil_append, List.cons_append]
  refine Free.Chain.ex ?_ [(3, 8)] [] (by kernel_rfl) (by kernel_rfl) rfl Free.Bel.refl ?_ ?_
  rotate_left
  · (intro ev W hb hR hO hD; have hS := hF W hR; obtain ⟨hb1, hb2, hb3⟩ := hb; simp only [Free.AllDeps, Free.AllOuts, Free.At, List.getElem?_cons_succ, List.getElem?_cons_zero, Array.getD_eq_getD_getElem?, List.getElem?_toArray, Option.getD_some, and_true] at hO hD; go_simp; rfl)
  simp only [List.nil_append, List.cons_append]
  refine Free.Chain.ex ?_ [] [3] (by kernel_rfl) (by kernel_rfl) rfl Free.Bel.refl ?_ ?_
  rotate_left
  · (intro ev W hb hR hO hD; have hS := hF W hR; obtain ⟨hb1, hb2, hb3⟩ := hb; simp only [Free.AllDeps, Free.AllOuts, Free.At, List.getElem?_cons_succ, List.getElem?_cons_zero, Array.getD_eq_getD_getElem?, List.getElem?_toArray, Option.getD_some, and_true] at hO hD; go_simp; rfl)
  simp only [List.nil_append, List.cons_append]
  refine Free.Chain.ex ?_ [(5, 10)] [] (by kernel_rfl) (by kernel_rfl) rfl Free.Bel.refl ?_ ?_
  rotate_left
  · (intro ev W hb hR hO hD; have hS := hF W hR; obtain ⟨hb1, hb2, hb3⟩ := hb; simp only [Free.AllDeps, Free.AllOuts, Free.At, List.getElem?_cons_succ, List.getElem?_cons_zero, Array.getD_eq_getD_getElem?, List.getElem?_toArray, Option.getD_some, and_true] at hO hD; go_simp; rfl)
  simp only [List.nil_append, List.cons_append]
  refine Free.Chain.pr (SlI [o]) [(6, 11)] [] (by kernel_rfl) (by kernel_rfl) rfl (SlI.stable _) ?_ ?_
  · (intro ev W hb hR hO hD; have hS := hF W hR; obtain ⟨hb1, hb2, hb3⟩ := hb; simp only [Free.AllDeps, Free.AllOuts, Free.At, List.getElem?_cons_succ, List.getElem?_cons_zero, Array.getD_eq_getD_getElem?, List.getElem?_toArray, Option.getD_some, and_true] at hO hD; go_simp; exact ⟨belAlloc _ _, SlI.one _ _ _⟩)
  simp only [List.nil_append, List.cons_append]
  refine Free.Chain.pr (fun v _ => v = .bool true) [(4, 9), (7, 12)] [] (by kernel_rfl) (by kernel_rfl) rfl (fun _ _ _ _ h => h) ?_ ?_
  · (intro ev W hb hR hO hD; have hS := hF W hR; obtain ⟨hb1, hb2, hb3⟩ := hb; simp only [Free.AllDeps, Free.AllOuts, Free.At, List.getElem?_cons_succ, List.getElem?_cons_zero, Array.getD_eq_getD_getElem?, List.getElem?_toArray, Option.getD_some, and_true] at hO hD; go_simp; refine (in_sl _ _ [o] true _ _ (by simp [maxLen]) h1 hD.2).mono ?_; rintro e W1 ⟨rfl, hB1⟩; exact ⟨_, rfl, hB1, rfl⟩)
  simp only [List.nil_append, List.cons_append]
  refine Free.Chain.ex ?_ [(8, 13), (8, 13)] [] (by kernel_rfl) (by kernel_rfl) rfl Free.Bel.refl ?_ ?_
  rotate_left
  · (intro ev W hb hR hO hD; have hS := hF W hR; obtain ⟨hb1, hb2, hb3⟩ := hb; simp only [Free.AllDeps, Free.AllOuts, Free.At, List.getElem?_cons_succ, List.getElem?_cons_zero, Array.getD_eq_getD_getElem?, List.getElem?_toArray, Option.getD_some, and_true] at hO hD; go_simp; rfl)
  simp only [List.nil_append, List.cons_append]
  refine Free.Chain.exG ?_ [(9, 14)] [3] 9 true 14 (by kernel_rfl) (by kernel_rfl) rfl (by kernel_rfl) Free.Bel.refl ?_ ?_
  rotate_left
  · (intro ev W hb hR hO hD; have hS := hF W hR; obtain ⟨hb1, hb2, hb3⟩ := hb; simp only [Free.AllDeps, Free.AllOuts, Free.At, List.getElem?_cons_succ, List.getElem?_cons_zero, Array.getD_eq_getD_getElem?, List.getElem?_toArray, Option.getD_some, and_true] at hO hD; refine ⟨by simp [hD], ?_⟩; go_simp; rfl)
  simp only [List.nil_append, List.cons_append]
  refine Free.Chain.exG ?_ [(10, 15), (9, 14)] [] 9 true 14 (by kernel_rfl) (by kernel_rfl) rfl (by kernel_rfl) Free.Bel.refl ?_ ?_
  rotate_left
  · (intro ev W hb hR hO hD; have hS := hF W hR; obtain ⟨hb1, hb2, hb3⟩ := hb; simp only [Free.AllDeps, Free.AllOuts, Free.At, List.getElem?_cons_succ, List.getElem?_cons_zero, Array.getD_eq_getD_getElem?, List.getElem?_toArray, Option.getD_some, and_true] at hO hD; refine ⟨by simp [hD], ?_⟩; go_simp; rfl)
  simp only [List.nil_append, List.cons_append]
  refine Free.Chain.exG ?_ [(9, 14)] [3] 9 true 14 (by kernel_rfl) (by kernel_rfl) rfl (by kernel_rfl) Free.Bel.refl ?_ ?_
  rotate_left
  · (intro ev W hb hR hO hD; have hS := hF W hR; obtain ⟨hb1, hb2, hb3⟩ := hb; simp only [Free.AllDeps, Free.AllOuts, Free.At, List.getElem?_cons_succ, List.getElem?_cons_zero, Array.getD_eq_getD_getElem?, List.getElem?_toArray, Option.getD_some, and_true] at hO hD; refine ⟨by simp [hD], ?_⟩; go_simp; rfl)
  simp only [List.nil_append, List.cons_append]
  refine Free.Chain.exG ?_ [(12, 17), (9, 14)] [] 9 true 14 (by kernel_rfl) (by kernel_rfl) rfl (by kernel_rfl) Free.Bel.refl ?_ ?_
  rotate_left
  · (intro ev W hb hR hO hD; have hS := hF W hR; obtain ⟨hb1, hb2, hb3⟩ := hb; simp only [Free.AllDeps, Free.AllOuts, Free.At, List.getElem?_cons_succ, List.getElem?_cons_zero, Array.getD_eq_getD_getElem?, List.getElem?_toArray, Option.getD_some, and_true] at hO hD; refine ⟨by simp [hD], ?_⟩; go_simp; rfl)
  simp only [List.nil_append, List.cons_append]
  refine Free.Chain.prG (SlI [f]) [(13, 18), (9, 14)] [] 9 true 14 (by kernel_rfl) (by kernel_rfl) rfl (by kernel_rfl) (SlI.stable _) ?_ ?_
  · (intro ev W hb hR hO hD; have hS := hF W hR; obtain ⟨hb1, hb2, hb3⟩ := hb; simp only [Free.AllDeps, Free.AllOuts, Free.At, List.getElem?_cons_succ, List.getElem?_cons_zero, Array.getD_eq_getD_getElem?, List.getElem?_toArray, Option.getD_some, and_true] at hO hD; refine ⟨by simp [hD], ?_⟩; go_simp; exact ⟨belAlloc _ _, SlI.one _ _ _⟩)
  simp only [List.nil_append, List.cons_append]
  refine Free.Chain.prG (fun v _ => v = .bool true) [(11, 16), (14, 19), (9, 14), (9, 14)] [] 9 true 14 (by kernel_rfl) (by kernel_rfl) rfl (by kernel_rfl) (fun _ _ _ _ h => h) ?_ ?_
  · (intro ev W hb hR hO hD; have hS := hF W hR; obtain ⟨hb1, hb2, hb3⟩ := hb; simp only [Free.AllDeps, Free.AllOuts, Free.At, List.getElem?_cons_succ, List.getElem?_cons_zero, Array.getD_eq_getD_getElem?, List.getElem?_toArray, Option.getD_some, and_true] at hO hD; refine ⟨by simp [hD], ?_⟩; go_simp; refine (in_sl _ _ [f] true _ _ (by simp [maxLen]) h2 hD.2.1).mono ?_; rintro e W1 ⟨rfl, hB1⟩; exact ⟨_, rfl, hB1, rfl⟩)
  simp only [List.nil_append, List.cons_append]
  refine Free.Chain.ex ?_ [(9, 14), (15, 20)] [] (by kernel_rfl) (by kernel_rfl) rfl Free.Bel.refl ?_ ?_
  rotate_left
  · (intro ev W hb hR hO hD; have hS := hF W hR; obtain ⟨hb1, hb2, hb3⟩ := hb; simp only [Free.AllDeps, Free.AllOuts, Free.At, List.getElem?_cons_succ, List.getElem?_cons_zero, Array.getD_eq_getD_getElem?, List.getElem?_toArray, Option.getD_some, and_true] at hO hD; go_simp; rfl)
  simp only [List.nil_append, List.cons_append]
  refine Free.Chain.pr (fun v _ => v = .int .i64 0) [(16, 21), (15, 20)] [] (by kernel_rfl) (by kernel_rfl) rfl (fun _ _ _ _ h => h) ?_ ?_
  · (intro ev W hb hR hO hD; have hS := hF W hR; obtain ⟨hb1, hb2, hb3⟩ := hb; simp only [Free.AllDeps, Free.AllOuts, Free.At, List.getElem?_cons_succ, List.getElem?_cons_zero, Array.getD_eq_getD_getElem?, List.getElem?_toArray, Option.getD_some, and_true] at hO hD; go_simp; refine (unless_any _ _ _ _ rfl).mono ?_; rintro e W1 ⟨rfl, rfl⟩; exact ⟨_, rfl, Free.Bel.refl _, rfl⟩)
  simp only [List.nil_append, List.cons_append]
  refine Free.Chain.ex ?_ [(17, 22), (17, 22), (0, 5), (1, 6), (2, 7), (3, 8), (4, 9), (5, 10), (6, 11), (7, 12), (8, 13), (9, 14), (10, 15), (11, 16), (12, 17), (13, 18), (14, 19), (15, 20), (16, 21), (17, 22)] [] (by kernel_rfl) (by kernel_rfl) rfl Free.Bel.refl ?_ ?_
  rotate_left
  · (intro ev W hb hR hO hD; have hS := hF W hR; obtain ⟨hb1, hb2, hb3⟩ := hb; simp only [Free.AllDeps, Free.AllOuts, Free.At, List.getElem?_cons_succ, List.getElem?_cons_zero, Array.getD_eq_getD_getElem?, List.getElem?_toArray, Option.getD_some, and_true] at hO hD; go_simp; rfl)
  simp only [List.nil_append, List.cons_append]
  intro xs w' hR hV
  simp only [Free.AllV, Free.At, List.length_cons, List.length_nil, Nat.reduceAdd, List.getElem?_cons_succ, List.getElem?_cons_zero, true_and] at hV
  simp only [Free.putsFrom, Act.put, hV, List.setIfInBounds_toArray, List.set_cons_succ, List.set_cons_zero]
  go_wp2_with fail
  have hbb := HBB.out
  subst hbb
  go_ret
  exact ⟨rfl, HB0.out.drew.trans (hR.mono (by simp at hsz ⊢; omega))⟩

theorem draw_any (hb : Nat) (N o f r : Int) (w : World) (h0 : w.cell? ⟨hb, 0, none⟩ = some (.int .i64 N)) (hr : (if drawB N o f then 0 else 11) = r) :
    Calls Tryd.prog 71 #[.pointer (some ⟨hb, 0, none⟩), .agg #[.int .i64 o, .int .i64 f]] w fun e w' => e = .returned (.int .i64 r) ∧ Below w.heap.size w w' := by
  subst hr
  cases h1 : inB 0 N [o]
  · simpa [drawB, h1] using draw_a hb N o f w h0 h1
  · cases h2 : inB 0 o [f]
    · simpa [drawB, h1, h2] using draw_b hb N o f w h0 h1 h2
    · simpa [drawB, h1, h2] using draw_c hb N o f w h0 h1 h2

set_option maxRecDepth 100000 in
set_option maxHeartbeats 2000000 in
theorem rule_a (hb : Nat) (N o f : Int) (w : World) (h0 : w.cell? ⟨hb, 0, none⟩ = some (.int .i64 N)) (h1 : inB 0 N [o] = false) :
    Calls Tryd.prog 54 #[.pointer (some ⟨hb, 0, none⟩), .agg #[.int .i64 o, .int .i64 f]] w fun e w' => e = .returned (.int .i64 13) ∧ Below w.heap.size w w' := by
  have hB0 : Below w.heap.size w (w.alloc (.cells #[.int .i64 o, .int .i64 f] 27)) := (Below.refl _ w).alloc (Nat.le_refl _) _
  go_enter Tryd.func54, Tryd.ntmps54
  go_wp2_with fail
  have c0 : (w.alloc (.cells #[.int .i64 o, .int .i64 f] 27)).cell? ⟨w.heap.size, 0, none⟩ = some (.int .i64 o) := by simp [go_sem]
  have c1 : (w.alloc (.cells #[.int .i64 o, .int .i64 f] 27)).cell? ⟨w.heap.size, 1, none⟩ = some (.int .i64 f) := by simp [go_sem]
  have c2 := keepsB hB0 h0
  have HB0 := Lib.hid hB0
  clear hB0 h0
  generalize w.alloc (.cells #[.int .i64 o, .int .i64 f] 27) = W0 at *
  have hsz := lt_of_cell c0
  generalize hbb : w.heap.size = bb at *
  have HBB := Lib.hid hbb
  clear hbb
  have hF : ∀ W, Free.Bel W0.drew W → W.cell? ⟨bb, 0, none⟩ = some (.int .i64 o) ∧ W.cell? ⟨bb, 1, none⟩ = some (.int .i64 f) ∧ W.cell? ⟨hb, 0, none⟩ = some (.int .i64 N) :=
    fun W hW => ⟨keepsB hW c0, keepsB hW c1, keepsB hW c2⟩
  refine Free.wp_free (R := Free.Bel) (by kernel_rfl) (by kernel_rfl) Free.Bel.refl Free.Bel.trans ?_
  refine Free.Chain.ex ?_ [] [0] (by kernel_rfl) (by kernel_rfl) rfl Free.Bel.refl ?_ ?_
  rotate_left
  · (intro ev W hb hR hO hD; have hS := hF W hR; obtain ⟨hb1, hb2, hb3⟩ := hb; simp only [Free.AllDeps, Free.AllOuts, Free.At, List.getElem?_cons_succ, List.getElem?_cons_zero, Array.getD_eq_getD_getElem?, List.getElem?_toArray, Option.getD_some, and_true] at hO hD; go_simp; rfl)
  simp only [List.nil_append, List.cons_append]
  refine Free.Chain.ex ?_ [(0, 5)] [] (by kernel_rfl) (by kernel_rfl) rfl Free.Bel.refl ?_ ?_
  rotate_left
  · (intro ev W hb hR hO hD; have hS := hF W hR; obtain ⟨hb1, hb2, hb3⟩ := hb; simp only [Free.AllDeps, Free.AllOuts, Free.At, List.getElem?_cons_succ, List.getElem?_cons_zero, Array.getD_eq_getD_getElem?, List.getElem?_toArray, Option.getD_some, and_true] at hO hD; go_simp; rfl)
  simp only [List.nil_append, List.cons_append]
  refine Free.Chain.ex ?_ [(1, 6)] [] (by kernel_rfl) (by kernel_rfl) rfl Free.Bel.refl ?_ ?_
  rotate_left
  · (intro ev W hb hR hO hD; have hS := hF W hR; obtain ⟨hb1, hb2, hb3⟩ := hb; simp only [Free.AllDeps, Free.AllOuts, Free.At, List.getElem?_cons_succ, List.getElem?_cons_zero, Array.getD_eq_getD_getElem?, List.getElem?_toArray, Option.getD_some, and_true] at hO hD; go_simp; rfl)
  simp only [List.nil_append, List.cons_append]
  refine Free.Chain.ex ?_ [(2, 7)] [] (by kernel_rfl) (by kernel_rfl) rfl Free.Bel.refl ?_ ?_
  rotate_left
  · (intro ev W hb hR hO hD; have hS := hF W hR; obtain ⟨hb1, hb2, hb3⟩ := hb; simp only [Free.AllDeps, Free.AllOuts, Free.At, List.getElem?_cons_succ, List.getElem?_cons_zero, Array.getD_eq_getD_getElem?, List.getElem?_toArray, Option.getD_some, and_true] at hO hD; go_simp; rfl)
  simp only [List.nil_append, List.cons_append]
  refine Free.Chain.ex ?_ [(3, 8)] [] (by kernel_rfl) (by kernel_rfl) rfl Free.Bel.refl ?_ ?_
  rotate_left
  · (intro ev W hb hR hO hD; have hS := hF W hR; obtain ⟨hb1, hb2, hb3⟩ := hb; simp only [Free.AllDeps, Free.AllOuts, Free.At, List.getElem?_cons_succ, List.getElem?_cons_zero, Array.getD_eq_getD_getElem?, List.getElem?_toArray, Option.getD_some, and_true] at hO hD; go_simp; rfl)
  simp only [List.nil_append, List.cons_append]
  refine Free.Chain.ex ?_ [] [3] (by kernel_rfl) (by kernel_rfl) rfl Free.Bel.refl ?_ ?_
  rotate_left
  · (intro ev W hb hR hO hD; have hS := hF W hR; obtain ⟨hb1, hb2, hb3⟩ := hb; simp only [Free.AllDeps, Free.AllOuts, Free.At, List.getElem?_cons_succ, List.getElem?_cons_zero, Array.getD_eq_getD_getElem?, List.getElem?_toArray, Option.getD_some, and_true] at hO hD; go_simp; rfl)
  simp only [List.nil_append, List.cons_append]
  refine Free.Chain.ex ?_ [(5, 10)] [] (by kernel_rfl) (by kernel_rfl) rfl Free.Bel.refl ?_ ?_
  rotate_left
  · (intro ev W hb hR hO hD; have hS := hF W hR; obtain ⟨hb1, hb2, hb3⟩ := hb; simp only [Free.AllDeps, Free.AllOuts, Free.At, List.getElem?_cons_succ, List.getElem?_cons_zero, Array.getD_eq_getD_getElem?, List.getElem?_toArray, Option.getD_some, and_true] at hO hD; go_simp; rfl)
  simp only [List.nil_append, List.cons_append]
  refine Free.Chain.pr (SlI [o]) [(6, 11)] [] (by kernel_rfl) (by kernel_rfl) rfl (SlI.stable _) ?_ ?_
  · (intro ev W hb hR hO hD; have hS := hF W hR; obtain ⟨hb1, hb2, hb3⟩ := hb; simp only [Free.AllDeps, Free.AllOuts, Free.At, List.getElem?_cons_succ, List.getElem?_cons_zero, Array.getD_eq_getD_getElem?, List.getElem?_toArray, Option.getD_some, and_true] at hO hD; go_simp; exact ⟨belAlloc _ _, SlI.one _ _ _⟩)
  simp only [List.nil_append, List.cons_append]
  refine Free.Chain.pr (fun v _ => v = .bool false) [(4, 9), (7, 12)] [] (by kernel_rfl) (by kernel_rfl) rfl (fun _ _ _ _ h => h) ?_ ?_
  · (intro ev W hb hR hO hD; have hS := hF W hR; obtain ⟨hb1, hb2, hb3⟩ := hb; simp only [Free.AllDeps, Free.AllOuts, Free.At, List.getElem?_cons_succ, List.getElem?_cons_zero, Array.getD_eq_getD_getElem?, List.getElem?_toArray, Option.getD_some, and_true] at hO hD; go_simp; refine (in_sl _ _ [o] false _ _ (by simp [maxLen]) h1 hD.2).mono ?_; rintro e W1 ⟨rfl, hB1⟩; exact ⟨_, rfl, hB1, rfl⟩)
  simp only [List.nil_append, List.cons_append]
  refine Free.Chain.ex ?_ [(8, 13), (8, 13)] [] (by kernel_rfl) (by kernel_rfl) rfl Free.Bel.refl ?_ ?_
  rotate_left
  · (intro ev W hb hR hO hD; have hS := hF W hR; obtain ⟨hb1, hb2, hb3⟩ := hb; simp only [Free.AllDeps, Free.AllOuts, Free.At, List.getElem?_cons_succ, List.getElem?_cons_zero, Array.getD_eq_getD_getElem?, List.getElem?_toArray, Option.getD_some, and_true] at hO hD; go_simp; rfl)
  simp only [List.nil_append, List.cons_append]
  refine Free.Chain.no [(9, 14)] [3] 9 true 14 (by kernel_rfl) (by kernel_rfl) rfl (by kernel_rfl) ?_ ?_
  · (intro ev W hR hD; simp only [Free.AllDeps, Free.At, List.getElem?_cons_succ, List.getElem?_cons_zero, and_true] at hD; simp [hD])
  simp only [List.nil_append, List.cons_append]
  refine Free.Chain.no [(10, 15), (9, 14)] [] 9 true 14 (by kernel_rfl) (by kernel_rfl) rfl (by kernel_rfl) ?_ ?_
  · (intro ev W hR hD; simp only [Free.AllDeps, Free.At, List.getElem?_cons_succ, List.getElem?_cons_zero, and_true] at hD; simp [hD])
  simp only [List.nil_append, List.cons_append]
  refine Free.Chain.no [(9, 14)] [3] 9 true 14 (by kernel_rfl) (by kernel_rfl) rfl (by kernel_rfl) ?_ ?_
  · (intro ev W hR hD; simp only [Free.AllDeps, Free.At, List.getElem?_cons_succ, List.getElem?_cons_zero, and_true] at hD; simp [hD])
  simp only [List.nil_append, List.cons_append]
  refine Free.Chain.no [(12, 17), (9, 14)] [] 9 true 14 (by kernel_rfl) (by kernel_rfl) rfl (by kernel_rfl) ?_ ?_
  · (intro ev W hR hD; simp only [Free.AllDeps, Free.At, List.getElem?_cons_succ, List.getElem?_cons_zero, and_true] at hD; simp [hD])
  simp only [List.nil_append, List.cons_append]
  refine Free.Chain.no [(13, 18), (9, 14)] [] 9 true 14 (by kernel_rfl) (by kernel_rfl) rfl (by kernel_rfl) ?_ ?_
  · (intro ev W hR hD; simp only [Free.AllDeps, Free.At, List.getElem?_cons_succ, List.getElem?_cons_zero, and_true] at hD; simp [hD])
  simp only [List.nil_append, List.cons_append]
  refine Free.Chain.no [(11, 16), (14, 19), (9, 14), (9, 14)] [] 9 true 14 (by kernel_rfl) (by kernel_rfl) rfl (by kernel_rfl) ?_ ?_
  · (intro ev W hR hD; simp only [Free.AllDeps, Free.At, List.getElem?_cons_succ, List.getElem?_cons_zero, and_true] at hD; simp [hD])
  simp only [List.nil_append, List.cons_append]
  refine Free.Chain.ex ?_ [(9, 14), (15, 20)] [] (by kernel_rfl) (by kernel_rfl) rfl Free.Bel.refl ?_ ?_
  rotate_left
  · (intro ev W hb hR hO hD; have hS := hF W hR; obtain ⟨hb1, hb2, hb3⟩ := hb; simp only [Free.AllDeps, Free.AllOuts, Free.At, List.getElem?_cons_succ, List.getElem?_cons_zero, Array.getD_eq_getD_getElem?, List.getElem?_toArray, Option.getD_some, and_true] at hO hD; go_simp; rfl)
  simp only [List.nil_append, List.cons_append]
  refine Free.Chain.pr (fun v _ => v = .int .i64 13) [(16, 21), (15, 20)] [] (by kernel_rfl) (by kernel_rfl) rfl (fun _ _ _ _ h => h) ?_ ?_
  · (intro ev W hb hR hO hD; have hS := hF W hR; obtain ⟨hb1, hb2, hb3⟩ := hb; simp only [Free.AllDeps, Free.AllOuts, Free.At, List.getElem?_cons_succ, List.getElem?_cons_zero, Array.getD_eq_getD_getElem?, List.getElem?_toArray, Option.getD_some, and_true] at hO hD; go_simp; refine (unless_any _ _ _ _ rfl).mono ?_; rintro e W1 ⟨rfl, rfl⟩; exact ⟨_, rfl, Free.Bel.refl _, rfl⟩)
  simp only [List.nil_append, List.cons_append]
  refine Free.Chain.ex ?_ [(17, 22), (17, 22), (0, 5), (1, 6), (2, 7), (3, 8), (4, 9), (5, 10), (6, 11), (7, 12), (8, 13), (9, 14), (10, 15), (11, 16), (12, 17), (13, 18), (14, 19), (15, 20), (16, 21), (17, 22)] [] (by kernel_rfl) (by kernel_rfl) rfl Free.Bel.refl ?_ ?_
  rotate_left
  · (intro ev W hb hR hO hD; have hS := hF W hR; obtain ⟨hb1, hb2, hb3⟩ := hb; simp only [Free.AllDeps, Free.AllOuts, Free.At, List.getElem?_cons_succ, List.getElem?_cons_zero, Array.getD_eq_getD_getElem?, List.getElem?_toArray, Option.getD_some, and_true] at hO hD; go_simp; rfl)
  simp only [List.nil_append, List.cons_append]
  intro xs w' hR hV
  simp only [Free.AllV, Free.At, List.length_cons, List.length_nil, Nat.reduceAdd, List.getElem?_cons_succ, List.getElem?_cons_zero, true_and] at hV
  simp only [Free.putsFrom, Act.put, hV, List.setIfInBounds_toArray, List.set_cons_succ, List.set_cons_zero]
  go_wp2_with fail
  have hbb := HBB.out
  subst hbb
  go_ret
  exact ⟨rfl, HB0.out.drew.trans (hR.mono (by simp at hsz ⊢; omega))⟩

set_option maxRecDepth 100000 in
set_option maxHeartbeats 2000000 in
theorem rule_b (hb : Nat) (N o f : Int) (w : World) (h0 : w.cell? ⟨hb, 0, none⟩ = some (.int .i64 N)) (h1 : inB 0 N [o] = true) (h2 : inB 0 o [f] = false) :
    Calls Tryd.prog 54 #[.pointer (some ⟨hb, 0, none⟩), .agg #[.int .i64 o, .int .i64 f]] w fun e w' => e = .returned (.int .i64 13) ∧ Below w.heap.size w w' := by
  have hB0 : Below w.heap.size w (w.alloc (.cells #[.int .i64 o, .int .i64 f] 27)) := (Below.refl _ w).alloc (Nat.le_refl _) _
  go_enter Tryd.func54, Tryd.ntmps54
  go_wp2_with fail
  have c0 : (w.alloc (.cells #[.int .i64 o, .int .i64 f] 27)).cell? ⟨w.heap.size, 0, none⟩ = some (.int .i64 o) := by simp [go_sem]
  have c1 : (w.alloc (.cells #[.int .i64 o, .int .i64 f] 27)).cell? ⟨w.heap.size, 1, none⟩ = some (.int .i64 f) := by simp [go_sem]
  have c2 := keepsB hB0 h0
  have HB0 := Lib.hid hB0
  clear hB0 h0
  generalize w.alloc (.cells #[.int .i64 o, .int .i64 f] 27) = W0 at *
  have hsz := lt_of_cell c0
  generalize hbb : w.heap.size = bb at *
  have HBB := Lib.hid hbb
  clear hbb
  have hF : ∀ W, Free.Bel W0.drew W → W.cell? ⟨bb, 0, none⟩ = some (.int .i64 o) ∧ W.cell? ⟨bb, 1, none⟩ = some (.int .i64 f) ∧ W.cell? ⟨hb, 0, none⟩ = some (.int .i64 N) :=
    fun W hW => ⟨keepsB hW c0, keepsB hW c1, keepsB hW c2⟩
  refine Free.wp_free (R := Free.Bel) (by kernel_rfl) (by kernel_rfl) Free.Bel.refl Free.Bel.trans ?_
  refine Free.Chain.ex ?_ [] [0] (by kernel_rfl) (by kernel_rfl) rfl Free.Bel.refl ?_ ?_
  rotate_left
  · (intro ev W hb hR hO hD; have hS := hF W hR; obtain ⟨hb1, hb2, hb3⟩ := hb; simp only [Free.AllDeps, Free.AllOuts, Free.At, List.getElem?_cons_succ, List.getElem?_cons_zero, Array.getD_eq_getD_getElem?, List.getElem?_toArray, Option.getD_some, and_true] at hO hD; go_simp; rfl)
  simp only [List.nil_append, List.cons_append]
  refine Free.Chain.ex ?_ [(0, 5)] [] (by kernel_rfl) (by kernel_rfl) rfl Free.Bel.refl ?_ ?_
  rotate_left
  · (intro ev W hb hR hO hD; have hS := hF W hR; obtain ⟨hb1, hb2, hb3⟩ := hb; simp only [Free.AllDeps, Free.AllOuts, Free.At, List.getElem?_cons_succ, List.getElem?_cons_zero, Array.getD_eq_getD_getElem?, List.getElem?_toArray, Option.getD_some, and_true] at hO hD; go_simp; rfl)
  simp only [List.nil_append, List.cons_append]
  refine Free.Chain.ex ?_ [(1, 6)] [] (by kernel_rfl) (by kernel_rfl) rfl Free.Bel.refl ?_ ?_
  rotate_left
  · (intro ev W hb hR hO hD; have hS := hF W hR; obtain ⟨hb1, hb2, hb3⟩ := hb; simp only [Free.AllDeps, Free.AllOuts, Free.At, List.getElem?_cons_succ, List.getElem?_cons_zero, Array.getD_eq_getD_getElem?, List.getElem?_toArray, Option.getD_some, and_true] at hO hD; go_simp; rfl)
  simp only [List.nil_append, List.cons_append]
  refine Free.Chain.ex ?_ [(2, 7)] [] (by kernel_rfl) (by kernel_rfl) rfl Free.Bel.refl ?_ ?_
  rotate_left
  · (intro ev W hb hR hO hD; have hS := hF W hR; obtain ⟨hb1, hb2, hb3⟩ := hb; simp only [Free.AllDeps, Free.AllOuts, Free.At, List.getElem?_cons_succ, List.getElem?_cons_zero, Array.getD_eq_getD_getElem?, List.getElem?_toArray, Option.getD_some, and_true] at hO hD; go_simp; rfl)
  simp only [List.nil_append, List.cons_append]
  refine Free.Chain.ex ?_ [(3, 8)] [] (by kernel_rfl) (by kernel_rfl) rfl Free.Bel.refl ?_ ?_
  rotate_left
  · (intro ev W hb hR hO hD; have hS := hF W hR; obtain ⟨hb1, hb2, hb3⟩ := hb; simp only [Free.AllDeps, Free.AllOuts, Free.At, List.getElem?_cons_succ, List.getElem?_cons_zero, Array.getD_eq_getD_getElem?, List.getElem?_toArray, Option.getD_some, and_true] at hO hD; go_simp; rfl)
  simp only [List.nil_append, List.cons_append]
  refine Free.Chain.ex ?_ [] [3] (by kernel_rfl) (by kernel_rfl) rfl Free.Bel.refl ?_ ?_
  rotate_left
  · (intro ev W hb hR hO hD; have hS := hF W hR; obtain ⟨hb1, hb2, hb3⟩ := hb; simp only [Free.AllDeps, Free.AllOuts, Free.At, List.getElem?_cons_succ, List.getElem?_cons_zero, Array.getD_eq_getD_getElem?, List.getElem?_toArray, Option.getD_some, and_true] at hO hD; go_simp; rfl)
  simp only [List.nil_append, List.cons_append]
  refine Free.Chain.ex ?_ [(5, 10)] [] (by kernel_rfl) (by kernel_rfl) rfl Free.Bel.refl ?_ ?_
  rotate_left
  · (intro ev W hb hR hO hD; have hS := hF W hR; obtain ⟨hb1, hb2, hb3⟩ := hb; simp only [Free.AllDeps, Free.AllOuts, Free.At, List.getElem?_cons_succ, List.getElem?_cons_zero, Array.getD_eq_getD_getElem?, List.getElem?_toArray, Option.getD_some, and_true] at hO hD; go_simp; rfl)
  simp only [List.nil_append, List.cons_append]
  refine Free.Chain.pr (SlI [o]) [(6, 11)] [] (by kernel_rfl) (by kernel_rfl) rfl (SlI.stable _) ?_ ?_
  · (intro ev W hb hR hO hD; have hS := hF W hR; obtain ⟨hb1, hb2, hb3⟩ := hb; simp only [Free.AllDeps, Free.AllOuts, Free.At, List.getElem?_cons_succ, List.getElem?_cons_zero, Array.getD_eq_getD_getElem?, List.getElem?_toArray, Option.getD_some, and_true] at hO hD; go_simp; exact ⟨belAlloc _ _, SlI.one _ _ _⟩)
  simp only [List.nil_append, List.cons_append]
  refine Free.Chain.pr (fun v _ => v = .bool true) [(4, 9), (7, 12)] [] (by kernel_rfl) (by kernel_rfl) rfl (fun _ _ _ _ h => h) ?_ ?_
  · (intro ev W hb hR hO hD; have hS := hF W hR; obtain ⟨hb1, hb2, hb3⟩ := hb; simp only [Free.AllDeps, Free.AllOuts, Free.At, List.getElem?_cons_succ, List.getElem?_cons_zero, Array.getD_eq_getD_getElem?, List.getElem?_toArray, Option.getD_some, and_true] at hO hD; go_simp; refine (in_sl _ _ [o] true _ _ (by simp [maxLen]) h1 hD.2).mono ?_; rintro e W1 ⟨rfl, hB1⟩; exact ⟨_, rfl, hB1, rfl⟩)
  simp only [List.nil_append, List.cons_append]
  refine Free.Chain.ex ?_ [(8, 13), (8, 13)] [] (by kernel_rfl) (by kernel_rfl) rfl Free.Bel.refl ?_ ?_
  rotate_left
  · (intro ev W hb hR hO hD; have hS := hF W hR; obtain ⟨hb1, hb2, hb3⟩ := hb; simp only [Free.AllDeps, Free.AllOuts, Free.At, List.getElem?_cons_succ, List.getElem?_cons_zero, Array.getD_eq_getD_getElem?, List.getElem?_toArray, Option.getD_some, and_true] at hO hD; go_simp; rfl)
  simp only [List.nil_append, List.cons_append]
  refine Free.Chain.exG ?_ [(9, 14)] [3] 9 true 14 (by kernel_rfl) (by kernel_rfl) rfl (by kernel_rfl) Free.Bel.refl ?_ ?_
  rotate_left
  · (intro ev W hb hR hO hD; have hS := hF W hR; obtain ⟨hb1, hb2, hb3⟩ := hb; simp only [Free.AllDeps, Free.AllOuts, Free.At, List.getElem?_cons_succ, List.getElem?_cons_zero, Array.getD_eq_getD_getElem?, List.getElem?_toArray, Option.getD_some, and_true] at hO hD; refine ⟨by simp [hD], ?_⟩; go_simp; rfl)
  simp only [List.nil_append, List.cons_append]
  refine Free.Chain.exG ?_ [(10, 15), (9, 14)] [] 9 true 14 (by kernel_rfl) (by kernel_rfl) rfl (by kernel_rfl) Free.Bel.refl ?_ ?_
  rotate_left
  · (intro ev W hb hR hO hD; have hS := hF W hR; obtain ⟨hb1, hb2, hb3⟩ := hb; simp only [Free.AllDeps, Free.AllOuts, Free.At, List.getElem?_cons_succ, List.getElem?_cons_zero, Array.getD_eq_getD_getElem?, List.getElem?_toArray, Option.getD_some, and_true] at hO hD; refine ⟨by simp [hD], ?_⟩; go_simp; rfl)
  simp only [List.nil_append, List.cons_append]
  refine Free.Chain.exG ?_ [(9, 14)] [3] 9 true 14 (by kernel_rfl) (by kernel_rfl) rfl (by kernel_rfl) Free.Bel.refl ?_ ?_
  rotate_left
  · (intro ev W hb hR hO hD; have hS := hF W hR; obtain ⟨hb1, hb2, hb3⟩ := hb; simp only [Free.AllDeps, Free.AllOuts, Free.At, List.getElem?_cons_succ, List.getElem?_cons_zero, Array.getD_eq_getD_getElem?, List.getElem?_toArray, Option.getD_some, and_true] at hO hD; refine ⟨by simp [hD], ?_⟩; go_simp; rfl)
  simp only [List.nil_append, List.cons_append]
  refine Free.Chain.exG ?_ [(12, 17), (9, 14)] [] 9 true 14 (by kernel_rfl) (by kernel_rfl) rfl (by kernel_rfl) Free.Bel.refl ?_ ?_
  rotate_left
  · (intro ev W hb hR hO hD; have hS := hF W hR; obtain ⟨hb1, hb2, hb3⟩ := hb; simp only [Free.AllDeps, Free.AllOuts, Free.At, List.getElem?_cons_succ, List.getElem?_cons_zero, Array.getD_eq_getD_getElem?, List.getElem?_toArray, Option.getD_some, and_true] at hO hD; refine ⟨by simp [hD], ?_⟩; go_simp; rfl)
  simp only [List.nil_append, List.cons_append]
  refine Free.Chain.prG (SlI [f]) [(13, 18), (9, 14)] [] 9 true 14 (by kernel_rfl) (by kernel_rfl) rfl (by kernel_rfl) (SlI.stable _) ?_ ?_
  · (intro ev W hb hR hO hD; have hS := hF W hR; obtain ⟨hb1, hb2, hb3⟩ := hb; simp only [Free.AllDeps, Free.AllOuts, Free.At, List.getElem?_cons_succ, List.getElem?_cons_zero, Array.getD_eq_getD_getElem?, List.getElem?_toArray, Option.getD_some, and_true] at hO hD; refine ⟨by simp [hD], ?_⟩; go_simp; exact ⟨belAlloc _ _, SlI.one _ _ _⟩)
  simp only [List.nil_append, List.cons_append]
  refine Free.Chain.prG (fun v _ => v = .bool false) [(11, 16), (14, 19), (9, 14), (9, 14)] [] 9 true 14 (by kernel_rfl) (by kernel_rfl) rfl (by kernel_rfl) (fun _ _ _ _ h => h) ?_ ?_
  · (intro ev W hb hR hO hD; have hS := hF W hR; obtain ⟨hb1, hb2, hb3⟩ := hb; simp only [Free.AllDeps, Free.AllOuts, Free.At, List.getElem?_cons_succ, List.getElem?_cons_zero, Array.getD_eq_getD_getElem?, List.getElem?_toArray, Option.getD_some, and_true] at hO hD; refine ⟨by simp [hD], ?_⟩; go_simp; refine (in_sl _ _ [f] false _ _ (by simp [maxLen]) h2 hD.2.1).mono ?_; rintro e W1 ⟨rfl, hB1⟩; exact ⟨_, rfl, hB1, rfl⟩)
  simp only [List.nil_append, List.cons_append]
  refine Free.Chain.ex ?_ [(9, 14), (15, 20)] [] (by kernel_rfl) (by kernel_rfl) rfl Free.Bel.refl ?_ ?_
  rotate_left
  · (intro ev W hb hR hO hD; have hS := hF W hR; obtain ⟨hb1, hb2, hb3⟩ := hb; simp only [Free.AllDeps, Free.AllOuts, Free.At, List.getElem?_cons_succ, List.getElem?_cons_zero, Array.getD_eq_getD_getElem?, List.getElem?_toArray, Option.getD_some, and_true] at hO hD; go_simp; rfl)
  simp only [List.nil_append, List.cons_append]
  refine Free.Chain.pr (fun v _ => v = .int .i64 13) [(16, 21), (15, 20)] [] (by kernel_rfl) (by kernel_rfl) rfl (fun _ _ _ _ h => h) ?_ ?_
  · (intro ev W hb hR hO hD; have hS := hF W hR; obtain ⟨hb1, hb2, hb3⟩ := hb; simp only [Free.AllDeps, Free.AllOuts, Free.At, List.getElem?_cons_succ, List.getElem?_cons_zero, Array.getD_eq_getD_getElem?, List.getElem?_toArray, Option.getD_some, and_true] at hO hD; go_simp; refine (unless_any _ _ _ _ rfl).mono ?_; rintro e W1 ⟨rfl, rfl⟩; exact ⟨_, rfl, Free.Bel.refl _, rfl⟩)
  simp only [List.nil_append, List.cons_append]
  refine Free.Chain.ex ?_ [(17, 22), (17, 22), (0, 5), (1, 6), (2, 7), (3, 8), (4, 9), (5, 10), (6, 11), (7, 12), (8, 13), (9, 14), (10, 15), (11, 16), (12, 17), (13, 18), (14, 19), (15, 20), (16, 21), (17, 22)] [] (by kernel_rfl) (by kernel_rfl) rfl Free.Bel.refl ?_ ?_
  rotate_left
  · (intro ev W hb hR hO hD; have hS := hF W hR; obtain ⟨hb1, hb2, hb3⟩ := hb; simp only [Free.AllDeps, Free.AllOuts, Free.At, List.getElem?_cons_succ, List.getElem?_cons_zero, Array.getD_eq_getD_getElem?, List.getElem?_toArray, Option.getD_some, and_true] at hO hD; go_simp; rfl)
  simp only [List.nil_append, List.cons_append]
  intro xs w' hR hV
  simp only [Free.AllV, Free.At, List.length_cons, List.length_nil, Nat.reduceAdd, List.getElem?_cons_succ, List.getElem?_cons_zero, true_and] at hV
  simp only [Free.putsFrom, Act.put, hV, List.setIfInBounds_toArray, List.set_cons_succ, List.set_cons_zero]
  go_wp2_with fail
  have hbb := HBB.out
  subst hbb
  go_ret
  exact ⟨rfl, HB0.out.drew.trans (hR.mono (by simp at hsz ⊢; omega))⟩

set_option maxRecDepth 100000 in
set_option maxHeartbeats 2000000 in
theorem rule_c (hb : Nat) (N o f : Int) (w : World) (h0 : w.cell? ⟨hb, 0, none⟩ = some (.int .i64 N)) (h1 : inB 0 N [o] = true) (h2 : inB 0 o [f] = true) :
    Calls Tryd.prog 54 #[.pointer (some ⟨hb, 0, none⟩), .agg #[.int .i64 o, .int .i64 f]] w fun e w' => e = .returned (.int .i64 0) ∧ Below w.heap.size w w' := by
  have hB0 : Below w.heap.size w (w.alloc (.cells #[.int .i64 o, .int .i64 f] 27)) := (Below.refl _ w).alloc (Nat.le_refl _) _
  go_enter Tryd.func54, Tryd.ntmps54
  go_wp2_with fail
  have c0 : (w.alloc (.cells #[.int .i64 o, .int .i64 f] 27)).cell? ⟨w.heap.size, 0, none⟩ = some (.int .i64 o) := by simp [go_sem]
  have c1 : (w.alloc (.cells #[.int .i64 o, .int .i64 f] 27)).cell? ⟨w.heap.size, 1, none⟩ = some (.int .i64 f) := by simp [go_sem]
  have c2 := keepsB hB0 h0
  have HB0 := Lib.hid hB0
  clear hB0 h0
  generalize w.alloc (.cells #[.int .i64 o, .int .i64 f] 27) = W0 at *
  have hsz := lt_of_cell c0
  generalize hbb : w.heap.size = bb at *
  have HBB := Lib.hid hbb
  clear hbb
  have hF : ∀ W, Free.Bel W0.drew W → W.cell? ⟨bb, 0, none⟩ = some (.int .i64 o) ∧ W.cell? ⟨bb, 1, none⟩ = some (.int .i64 f) ∧ W.cell? ⟨hb, 0, none⟩ = some (.int .i64 N) :=
    fun W hW => ⟨keepsB hW c0, keepsB hW c1, keepsB hW c2⟩
  refine Free.wp_free (R := Free.Bel) (by kernel_rfl) (by kernel_rfl) Free.Bel.refl Free.Bel.trans ?_
  refine Free.Chain.ex ?_ [] [0] (by kernel_rfl) (by kernel_rfl) rfl Free.Bel.refl ?_ ?_
  rotate_left
  · (intro ev W hb hR hO hD; have hS := hF W hR; obtain ⟨hb1, hb2, hb3⟩ := hb; simp only [Free.AllDeps, Free.AllOuts, Free.At, List.getElem?_cons_succ, List.getElem?_cons_zero, Array.getD_eq_getD_getElem?, List.getElem?_toArray, Option.getD_some, and_true] at hO hD; go_simp; rfl)
  simp only [List.nil_append, List.cons_append]
  refine Free.Chain.ex ?_ [(0, 5)] [] (by kernel_rfl) (by kernel_rfl) rfl Free.Bel.refl ?_ ?_
  rotate_left
  · (intro ev W hb hR hO hD; have hS := hF W hR; obtain ⟨hb1, hb2, hb3⟩ := hb; simp only [Free.AllDeps, Free.AllOuts, Free.At, List.getElem?_cons_succ, List.getElem?_cons_zero, Array.getD_eq_getD_getElem?, List.getElem?_toArray, Option.getD_some, and_true] at hO hD; go_simp; rfl)
  simp only [List.nil_append, List.cons_append]
  refine Free.Chain.ex ?_ [(1, 6)] [] (by kernel_rfl) (by kernel_rfl) rfl Free.Bel.refl ?_ ?_
  rotate_left
  · (intro ev W hb hR hO hD; have hS := hF W hR; obtain ⟨hb1, hb2, hb3⟩ := hb; simp only [Free.AllDeps, Free.AllOuts, Free.At, List.getElem?_cons_succ, List.getElem?_cons_zero, Array.getD_eq_getD_getElem?, List.getElem?_toArray, Option.getD_some, and_true] at hO hD; go_simp; rfl)
  simp only [List.nil_append, List.cons_append]
  refine Free.Chain.ex ?_ [(2, 7)] [] (by kernel_rfl) (by kernel_rfl) rfl Free.Bel.refl ?_ ?_
  rotate_left
  · (intro ev W hb hR hO hD; have hS := hF W hR; obtain ⟨hb1, hb2, hb3⟩ := hb; simp only [Free.AllDeps, Free.AllOuts, Free.At, List.getElem?_cons_succ, List.getElem?_cons_zero, Array.getD_eq_getD_getElem?, List.getElem?_toArray, Option.getD_some, and_true] at hO hD; go_simp; rfl)
  simp only [List.nil_append, List.cons_append]
  refine Free.Chain.ex ?_ [(3, 8)] [] (by kernel_rfl) (by kernel_rfl) rfl Free.Bel.refl ?_ ?_
  rotate_left
  · (intro ev W hb hR hO hD; have hS := hF W hR; obtain ⟨hb1, hb2, hb3⟩ := hb; simp only [Free.AllDeps, Free.AllOuts, Free.At, List.getElem?_cons_succ, List.getElem?_cons_zero, Array.getD_eq_getD_getElem?, List.getElem?_toArray, Option.getD_some, and_true] at hO hD; go_simp; rfl)
  simp only [List.nil_append, List.cons_append]
  refine Free.Chain.ex ?_ [] [3] (by kernel_rfl) (by kernel_rfl) rfl Free.Bel.refl ?_ ?_
  rotate_left
  · (intro ev W hb hR hO hD; have hS := hF W hR; obtain ⟨hb1, hb2, hb3⟩ := hb; simp only [Free.AllDeps, Free.AllOuts, Free.At, List.getElem?_cons_succ, List.getElem?_cons_zero, Array.getD_eq_getD_getElem?, List.getElem?_toArray, Option.getD_some, and_true] at hO hD; go_simp; rfl)
  simp only [List.nil_append, List.cons_append]
  refine Free.Chain.ex ?_ [(5, 10)] [] (by kernel_rfl) (by kernel_rfl) rfl Free.Bel.refl ?_ ?_
  rotate_left
  · (intro ev W hb hR hO hD; have hS := hF W hR; obtain ⟨hb1, hb2, hb3⟩ := hb; simp only [Free.AllDeps, Free.AllOuts, Free.At, List.getElem?_cons_succ, List.getElem?_cons_zero, Array.getD_eq_getD_getElem?, List.getElem?_toArray, Option.getD_some, and_true] at hO hD; go_simp; rfl)
  simp only [List.nil_append, List.cons_append]
  refine Free.Chain.pr (SlI [o]) [(6, 11)] [] (by kernel_rfl) (by kernel_rfl) rfl (SlI.stable _) ?_ ?_
  · (intro ev W hb hR hO hD; have hS := hF W hR; obtain ⟨hb1, hb2, hb3⟩ := hb; simp only [Free.AllDeps, Free.AllOuts, Free.At, List.getElem?_cons_succ, List.getElem?_cons_zero, Array.getD_eq_getD_getElem?, List.getElem?_toArray, Option.getD_some, and_true] at hO hD; go_simp; exact ⟨belAlloc _ _, SlI.one _ _ _⟩)
  simp only [List.nil_append, List.cons_append]
  refine Free.Chain.pr (fun v _ => v = .bool true) [(4, 9), (7, 12)] [] (by kernel_rfl) (by kernel_rfl) rfl (fun _ _ _ _ h => h) ?_ ?_
  · (intro ev W hb hR hO hD; have hS := hF W hR; obtain ⟨hb1, hb2, hb3⟩ := hb; simp only [Free.AllDeps, Free.AllOuts, Free.At, List.getElem?_cons_succ, List.getElem?_cons_zero, Array.getD_eq_getD_getElem?, List.getElem?_toArray, Option.getD_some, and_true] at hO hD; go_simp; refine (in_sl _ _ [o] true _ _ (by simp [maxLen]) h1 hD.2).mono ?_; rintro e W1 ⟨rfl, hB1⟩; exact ⟨_, rfl, hB1, rfl⟩)
  simp only [List.nil_append, List.cons_append]
  refine Free.Chain.ex ?_ [(8, 13), (8, 13)] [] (by kernel_rfl) (by kernel_rfl) rfl Free.Bel.refl ?_ ?_
  rotate_left
  · (intro ev W hb hR hO hD; have hS := hF W hR; obtain ⟨hb1, hb2, hb3⟩ := hb; simp only [Free.AllDeps, Free.AllOuts, Free.At, List.getElem?_cons_succ, List.getElem?_cons_zero, Array.getD_eq_getD_getElem?, List.getElem?_toArray, Option.getD_some, and_true] at hO hD; go_simp; rfl)
  simp only [List.nil_append, List.cons_append]
  refine Free.Chain.exG ?_ [(9, 14)] [3] 9 true 14 (by kernel_rfl) (by kernel_rfl) rfl (by kernel_rfl) Free.Bel.refl ?_ ?_
  rotate_left
  · (intro ev W hb hR hO hD; have hS := hF W hR; obtain ⟨hb1, hb2, hb3⟩ := hb; simp only [Free.AllDeps, Free.AllOuts, Free.At, List.getElem?_cons_succ, List.getElem?_cons_zero, Array.getD_eq_getD_getElem?, List.getElem?_toArray, Option.getD_some, and_true] at hO hD; refine ⟨by simp [hD], ?_⟩; go_simp; rfl)
  simp only [List.nil_append, List.cons_append]
  refine Free.Chain.exG ?_ [(10, 15), (9, 14)] [] 9 true 14 (by kernel_rfl) (by kernel_rfl) rfl (by kernel_rfl) Free.Bel.refl ?_ ?_
  rotate_left
  · (intro ev W hb hR hO hD; have hS := hF W hR; obtain ⟨hb1, hb2, hb3⟩ := hb; simp only [Free.AllDeps, Free.AllOuts, Free.At, List.getElem?_cons_succ, List.getElem?_cons_zero, Array.getD_eq_getD_getElem?, List.getElem?_toArray, Option.getD_some, and_true] at hO hD; refine ⟨by simp [hD], ?_⟩; go_simp; rfl)
  simp only [List.nil_append, List.cons_append]
  refine Free.Chain.exG ?_ [(9, 14)] [3] 9 true 14 (by kernel_rfl) (by kernel_rfl) rfl (by kernel_rfl) Free.Bel.refl ?_ ?_
  rotate_left
  · (intro ev W hb hR hO hD; have hS := hF W hR; obtain ⟨hb1, hb2, hb3⟩ := hb; simp only [Free.AllDeps, Free.AllOuts, Free.At, List.getElem?_cons_succ, List.getElem?_cons_zero, Array.getD_eq_getD_getElem?, List.getElem?_toArray, Option.getD_some, and_true] at hO hD; refine ⟨by simp [hD], ?_⟩; go_simp; rfl)
  simp only [List.nil_append, List.cons_append]
  refine Free.Chain.exG ?_ [(12, 17), (9, 14)] [] 9 true 14 (by kernel_rfl) (by kernel_rfl) rfl (by kernel_rfl) Free.Bel.refl ?_ ?_
  rotate_left
  · (intro ev W hb hR hO hD; have hS := hF W hR; obtain ⟨hb1, hb2, hb3⟩ := hb; simp only [Free.AllDeps, Free.AllOuts, Free.At, List.getElem?_cons_succ, List.getElem?_cons_zero, Array.getD_eq_getD_getElem?, List.getElem?_toArray, Option.getD_some, and_true] at hO hD; refine ⟨by simp [hD], ?_⟩; go_simp; rfl)
  simp only [List.nil_append, List.cons_append]
  refine Free.Chain.prG (SlI [f]) [(13, 18), (9, 14)] [] 9 true 14 (by kernel_rfl) (by kernel_rfl) rfl (by kernel_rfl) (SlI.stable _) ?_ ?_
  · (intro ev W hb hR hO hD; have hS := hF W hR; obtain ⟨hb1, hb2, hb3⟩ := hb; simp only [Free.AllDeps, Free.AllOuts, Free.At, List.getElem?_cons_succ, List.getElem?_cons_zero, Array.getD_eq_getD_getElem?, List.getElem?_toArray, Option.getD_some, and_true] at hO hD; refine ⟨by simp [hD], ?_⟩; go_simp; exact ⟨belAlloc _ _, SlI.one _ _ _⟩)
  simp only [List.nil_append, List.cons_append]
  refine Free.Chain.prG (fun v _ => v = .bool true) [(11, 16), (14, 19), (9, 14), (9, 14)] [] 9 true 14 (by kernel_rfl) (by kernel_rfl) rfl (by kernel_rfl) (fun _ _ _ _ h => h) ?_ ?_
  · (intro ev W hb hR hO hD; have hS := hF W hR; obtain ⟨hb1, hb2, hb3⟩ := hb; simp only [Free.AllDeps, Free.AllOuts, Free.At, List.getElem?_cons_succ, List.getElem?_cons_zero, Array.getD_eq_getD_getElem?, List.getElem?_toArray, Option.getD_some, and_true] at hO hD; refine ⟨by simp [hD], ?_⟩; go_simp; refine (in_sl _ _ [f] true _ _ (by simp [maxLen]) h2 hD.2.1).mono ?_; rintro e W1 ⟨rfl, hB1⟩; exact ⟨_, rfl, hB1, rfl⟩)
  simp only [List.nil_append, List.cons_append]
  refine Free.Chain.ex ?_ [(9, 14), (15, 20)] [] (by kernel_rfl) (by kernel_rfl) rfl Free.Bel.refl ?_ ?_
  rotate_left
  · (intro ev W hb hR hO hD; have hS := hF W hR; obtain ⟨hb1, hb2, hb3⟩ := hb; simp only [Free.AllDeps, Free.AllOuts, Free.At, List.getElem?_cons_succ, List.getElem?_cons_zero, Array.getD_eq_getD_getElem?, List.getElem?_toArray, Option.getD_some, and_true] at hO hD; go_simp; rfl)
  simp only [List.nil_append, List.cons_append]
  refine Free.Chain.pr (fun v _ => v = .int .i64 0) [(16, 21), (15, 20)] [] (by kernel_rfl) (by kernel_rfl) rfl (fun _ _ _ _ h => h) ?_ ?_
  · (intro ev W hb hR hO hD; have hS := hF W hR; obtain ⟨hb1, hb2, hb3⟩ := hb; simp only [Free.AllDeps, Free.AllOuts, Free.At, List.getElem?_cons_succ, List.getElem?_cons_zero, Array.getD_eq_getD_getElem?, List.getElem?_toArray, Option.getD_some, and_true] at hO hD; go_simp; refine (unless_any _ _ _ _ rfl).mono ?_; rintro e W1 ⟨rfl, rfl⟩; exact ⟨_, rfl, Free.Bel.refl _, rfl⟩)
  simp only [List.nil_append, List.cons_append]
  refine Free.Chain.ex ?_ [(17, 22), (17, 22), (0, 5), (1, 6), (2, 7), (3, 8), (4, 9), (5, 10), (6, 11), (7, 12), (8, 13), (9, 14), (10, 15), (11, 16), (12, 17), (13, 18), (14, 19), (15, 20), (16, 21), (17, 22)] [] (by kernel_rfl) (by kernel_rfl) rfl Free.Bel.refl ?_ ?_
  rotate_left
  · (intro ev W hb hR hO hD; have hS := hF W hR; obtain ⟨hb1, hb2, hb3⟩ := hb; simp only [Free.AllDeps, Free.AllOuts, Free.At, List.getElem?_cons_succ, List.getElem?_cons_zero, Array.getD_eq_getD_getElem?, List.getElem?_toArray, Option.getD_some, and_true] at hO hD; go_simp; rfl)
  simp only [List.nil_append, List.cons_append]
  intro xs w' hR hV
  simp only [Free.AllV, Free.At, List.length_cons, List.length_nil, Nat.reduceAdd, List.getElem?_cons_succ, List.getElem?_cons_zero, true_and] at hV
  simp only [Free.putsFrom, Act.put, hV, List.setIfInBounds_toArray, List.set_cons_succ, List.set_cons_zero]
  go_wp2_with fail
  have hbb := HBB.out
  subst hbb
  go_ret
  exact ⟨rfl, HB0.out.drew.trans (hR.mono (by simp at hsz ⊢; omega))⟩

theorem rule_any (hb : Nat) (N o f r : Int) (w : World) (h0 : w.cell? ⟨hb, 0, none⟩ = some (.int .i64 N)) (hr : (if drawB N o f then 0 else 13) = r) :
    Calls Tryd.prog 54 #[.pointer (some ⟨hb, 0, none⟩), .agg #[.int .i64 o, .int .i64 f]] w fun e w' => e = .returned (.int .i64 r) ∧ Below w.heap.size w w' := by
  subst hr
  cases h1 : inB 0 N [o]
  · simpa [drawB, h1] using rule_a hb N o f w h0 h1
  · cases h2 : inB 0 o [f]
    · simpa [drawB, h1, h2] using rule_b hb N o f w h0 h1 h2
    · simpa [drawB, h1, h2] using rule_c hb N o f w h0 h1 h2

set_option maxRecDepth 100000 in
set_option maxHeartbeats 2000000 in
theorem may_any (hb : Nat) (lo hi : Int) (l : List Int) (v : Value) (r : Int) (w : World) (hm : l.length ≤ maxLen) (h1 : w.cell? ⟨hb, 1, none⟩ = some (.int .i64 lo)) (h2 : w.cell? ⟨hb, 2, none⟩ = some (.int .i64 hi))
    (hl : SlI l v w) (hr : unlessV (inB lo hi l) 2 = r) :
    Calls Tryd.prog 55 #[.pointer (some ⟨hb, 0, none⟩), v] w fun e w' => e = .returned (.int .i64 r) ∧ Below w.heap.size w w' := by
  have HR := Lib.hid hr
  generalize hq : inB lo hi l = q at *
  have HQ := Lib.hid hq
  clear hq hr
  go_enter Tryd.func55, Tryd.ntmps55
  go_wp2_with fail
  have hF : ∀ W, Free.Bel w.drew W → W.cell? ⟨hb, 1, none⟩ = some (.int .i64 lo) ∧ W.cell? ⟨hb, 2, none⟩ = some (.int .i64 hi) :=
    fun W hW => ⟨keepsB hW h1, keepsB hW h2⟩
  refine Free.wp_free (R := Free.Bel) (by kernel_rfl) (by kernel_rfl) Free.Bel.refl Free.Bel.trans ?_
  refine Free.Chain.ex ?_ [] [0] (by kernel_rfl) (by kernel_rfl) rfl Free.Bel.refl ?_ ?_
  rotate_left
  · (intro ev W hb hR hO hD; have hS := hF W hR; obtain ⟨hb1, hb2, hb3⟩ := hb; simp only [Free.AllDeps, Free.AllOuts, Free.At, List.getElem?_cons_succ, List.getElem?_cons_zero, Array.getD_eq_getD_getElem?, List.getElem?_toArray, Option.getD_some, and_true] at hO hD; go_simp; rfl)
  simp only [List.nil_append, List.cons_append]
  refine Free.Chain.ex ?_ [(0, 5)] [] (by kernel_rfl) (by kernel_rfl) rfl Free.Bel.refl ?_ ?_
  rotate_left
  · (intro ev W hb hR hO hD; have hS := hF W hR; obtain ⟨hb1, hb2, hb3⟩ := hb; simp only [Free.AllDeps, Free.AllOuts, Free.At, List.getElem?_cons_succ, List.getElem?_cons_zero, Array.getD_eq_getD_getElem?, List.getElem?_toArray, Option.getD_some, and_true] at hO hD; go_simp; rfl)
  simp only [List.nil_append, List.cons_append]
  refine Free.Chain.ex ?_ [(1, 6)] [] (by kernel_rfl) (by kernel_rfl) rfl Free.Bel.refl ?_ ?_
  rotate_left
  · (intro ev W hb hR hO hD; have hS := hF W hR; obtain ⟨hb1, hb2, hb3⟩ := hb; simp only [Free.AllDeps, Free.AllOuts, Free.At, List.getElem?_cons_succ, List.getElem?_cons_zero, Array.getD_eq_getD_getElem?, List.getElem?_toArray, Option.getD_some, and_true] at hO hD; go_simp; rfl)
  simp only [List.nil_append, List.cons_append]
  refine Free.Chain.ex ?_ [(2, 7)] [] (by kernel_rfl) (by kernel_rfl) rfl Free.Bel.refl ?_ ?_
  rotate_left
  · (intro ev W hb hR hO hD; have hS := hF W hR; obtain ⟨hb1, hb2, hb3⟩ := hb; simp only [Free.AllDeps, Free.AllOuts, Free.At, List.getElem?_cons_succ, List.getElem?_cons_zero, Array.getD_eq_getD_getElem?, List.getElem?_toArray, Option.getD_some, and_true] at hO hD; go_simp; rfl)
  simp only [List.nil_append, List.cons_append]
  refine Free.Chain.ex ?_ [(3, 8)] [] (by kernel_rfl) (by kernel_rfl) rfl Free.Bel.refl ?_ ?_
  rotate_left
  · (intro ev W hb hR hO hD; have hS := hF W hR; obtain ⟨hb1, hb2, hb3⟩ := hb; simp only [Free.AllDeps, Free.AllOuts, Free.At, List.getElem?_cons_succ, List.getElem?_cons_zero, Array.getD_eq_getD_getElem?, List.getElem?_toArray, Option.getD_some, and_true] at hO hD; go_simp; rfl)
  simp only [List.nil_append, List.cons_append]
  refine Free.Chain.ex ?_ [(4, 9)] [] (by kernel_rfl) (by kernel_rfl) rfl Free.Bel.refl ?_ ?_
  rotate_left
  · (intro ev W hb hR hO hD; have hS := hF W hR; obtain ⟨hb1, hb2, hb3⟩ := hb; simp only [Free.AllDeps, Free.AllOuts, Free.At, List.getElem?_cons_succ, List.getElem?_cons_zero, Array.getD_eq_getD_getElem?, List.getElem?_toArray, Option.getD_some, and_true] at hO hD; go_simp; rfl)
  simp only [List.nil_append, List.cons_append]
  refine Free.Chain.ex ?_ [] [0] (by kernel_rfl) (by kernel_rfl) rfl Free.Bel.refl ?_ ?_
  rotate_left
  · (intro ev W hb hR hO hD; have hS := hF W hR; obtain ⟨hb1, hb2, hb3⟩ := hb; simp only [Free.AllDeps, Free.AllOuts, Free.At, List.getElem?_cons_succ, List.getElem?_cons_zero, Array.getD_eq_getD_getElem?, List.getElem?_toArray, Option.getD_some, and_true] at hO hD; go_simp; rfl)
  simp only [List.nil_append, List.cons_append]
  refine Free.Chain.ex ?_ [(6, 11)] [] (by kernel_rfl) (by kernel_rfl) rfl Free.Bel.refl ?_ ?_
  rotate_left
  · (intro ev W hb hR hO hD; have hS := hF W hR; obtain ⟨hb1, hb2, hb3⟩ := hb; simp only [Free.AllDeps, Free.AllOuts, Free.At, List.getElem?_cons_succ, List.getElem?_cons_zero, Array.getD_eq_getD_getElem?, List.getElem?_toArray, Option.getD_some, and_true] at hO hD; go_simp; rfl)
  simp only [List.nil_append, List.cons_append]
  refine Free.Chain.ex ?_ [(7, 12)] [] (by kernel_rfl) (by kernel_rfl) rfl Free.Bel.refl ?_ ?_
  rotate_left
  · (intro ev W hb hR hO hD; have hS := hF W hR; obtain ⟨hb1, hb2, hb3⟩ := hb; simp only [Free.AllDeps, Free.AllOuts, Free.At, List.getElem?_cons_succ, List.getElem?_cons_zero, Array.getD_eq_getD_getElem?, List.getElem?_toArray, Option.getD_some, and_true] at hO hD; go_simp; rfl)
  simp only [List.nil_append, List.cons_append]
  refine Free.Chain.ex ?_ [(8, 13)] [] (by kernel_rfl) (by kernel_rfl) rfl Free.Bel.refl ?_ ?_
  rotate_left
  · (intro ev W hb hR hO hD; have hS := hF W hR; obtain ⟨hb1, hb2, hb3⟩ := hb; simp only [Free.AllDeps, Free.AllOuts, Free.At, List.getElem?_cons_succ, List.getElem?_cons_zero, Array.getD_eq_getD_getElem?, List.getElem?_toArray, Option.getD_some, and_true] at hO hD; go_simp; rfl)
  simp only [List.nil_append, List.cons_append]
  refine Free.Chain.ex ?_ [(9, 14)] [] (by kernel_rfl) (by kernel_rfl) rfl Free.Bel.refl ?_ ?_
  rotate_left
  · (intro ev W hb hR hO hD; have hS := hF W hR; obtain ⟨hb1, hb2, hb3⟩ := hb; simp only [Free.AllDeps, Free.AllOuts, Free.At, List.getElem?_cons_succ, List.getElem?_cons_zero, Array.getD_eq_getD_getElem?, List.getElem?_toArray, Option.getD_some, and_true] at hO hD; go_simp; rfl)
  simp only [List.nil_append, List.cons_append]
  refine Free.Chain.ex ?_ [(10, 15)] [] (by kernel_rfl) (by kernel_rfl) rfl Free.Bel.refl ?_ ?_
  rotate_left
  · (intro ev W hb hR hO hD; have hS := hF W hR; obtain ⟨hb1, hb2, hb3⟩ := hb; simp only [Free.AllDeps, Free.AllOuts, Free.At, List.getElem?_cons_succ, List.getElem?_cons_zero, Array.getD_eq_getD_getElem?, List.getElem?_toArray, Option.getD_some, and_true] at hO hD; go_simp; rfl)
  simp only [List.nil_append, List.cons_append]
  refine Free.Chain.ex ?_ [] [1] (by kernel_rfl) (by kernel_rfl) rfl Free.Bel.refl ?_ ?_
  rotate_left
  · (intro ev W hb hR hO hD; have hS := hF W hR; obtain ⟨hb1, hb2, hb3⟩ := hb; simp only [Free.AllDeps, Free.AllOuts, Free.At, List.getElem?_cons_succ, List.getElem?_cons_zero, Array.getD_eq_getD_getElem?, List.getElem?_toArray, Option.getD_some, and_true] at hO hD; go_simp; rfl)
  simp only [List.nil_append, List.cons_append]
  refine Free.Chain.pr (fun v _ => v = .bool q) [(5, 10), (11, 16), (12, 17)] [] (by kernel_rfl) (by kernel_rfl) rfl (fun _ _ _ _ h => h) ?_ ?_
  · (intro ev W hb hR hO hD; have hS := hF W hR; obtain ⟨hb1, hb2, hb3⟩ := hb; simp only [Free.AllDeps, Free.AllOuts, Free.At, List.getElem?_cons_succ, List.getElem?_cons_zero, Array.getD_eq_getD_getElem?, List.getElem?_toArray, Option.getD_some, and_true] at hO hD; go_simp; refine (in_sl _ _ l q _ _ hm HQ.out (hl.keeps (w := w.drew) hR)).mono ?_; rintro e W1 ⟨rfl, hB1⟩; exact ⟨_, rfl, hB1, rfl⟩)
  simp only [List.nil_append, List.cons_append]
  refine Free.Chain.pr (fun v _ => v = .int .i64 r) [(13, 18), (13, 18)] [] (by kernel_rfl) (by kernel_rfl) rfl (fun _ _ _ _ h => h) ?_ ?_
  · (intro ev W hb hR hO hD; have hS := hF W hR; obtain ⟨hb1, hb2, hb3⟩ := hb; simp only [Free.AllDeps, Free.AllOuts, Free.At, List.getElem?_cons_succ, List.getElem?_cons_zero, Array.getD_eq_getD_getElem?, List.getElem?_toArray, Option.getD_some, and_true] at hO hD; go_simp; refine (unless_any _ _ r _ HR.out).mono ?_; rintro e W1 ⟨rfl, rfl⟩; exact ⟨_, rfl, Free.Bel.refl _, rfl⟩)
  simp only [List.nil_append, List.cons_append]
  refine Free.Chain.ex ?_ [(14, 19), (14, 19), (0, 5), (1, 6), (2, 7), (3, 8), (4, 9), (5, 10), (6, 11), (7, 12), (8, 13), (9, 14), (10, 15), (11, 16), (12, 17), (13, 18), (14, 19)] [] (by kernel_rfl) (by kernel_rfl) rfl Free.Bel.refl ?_ ?_
  rotate_left
  · (intro ev W hb hR hO hD; have hS := hF W hR; obtain ⟨hb1, hb2, hb3⟩ := hb; simp only [Free.AllDeps, Free.AllOuts, Free.At, List.getElem?_cons_succ, List.getElem?_cons_zero, Array.getD_eq_getD_getElem?, List.getElem?_toArray, Option.getD_some, and_true] at hO hD; go_simp; rfl)
  simp only [List.nil_append, List.cons_append]
  intro xs w' hR hV
  simp only [Free.AllV, Free.At, List.length_cons, List.length_nil, Nat.reduceAdd, List.getElem?_cons_succ, List.getElem?_cons_zero, true_and] at hV
  simp only [Free.putsFrom, Act.put, hV, List.setIfInBounds_toArray, List.set_cons_succ, List.set_cons_zero]
  go_wp2_with fail
  go_ret
  exact ⟨rfl, Free.Bel.first hR⟩
end Go.Proofs.YthhallnkpbgomaaDoor
