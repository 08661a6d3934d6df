/- The middle of what is found. -/
import Derived.Test.YtfdbegohjlijoaaSampExp
namespace Go.Proofs.Ytfdbegohjlijoaa
set_option linter.unusedSimpArgs false
set_option linter.unusedVariables false
open Go.RowKit Go.Proofs.Ytfdbegohjlijoaa.ML Go.Proofs.Ytfdbegohjlijoaa.Samp

/-- The error of a number of dirty bags, and of opened ones. -/
def meanE (N lo hi D o : Int) : Int := firstE [unlessV (inB lo hi [D]) 2, unlessV (inB 0 N [o]) 2]

set_option maxRecDepth 100000 in
set_option maxHeartbeats 2000000 in
theorem mean_a (N lo hi D o : Int) (w : World) (hc : cargoB N lo hi = false) :
    Calls Try.prog 12 #[.agg #[.int .i64 N, .int .i64 lo, .int .i64 hi], .int .i64 D, .int .i64 o] w fun e w' => e = .returned (.tuple #[.agg #[.int .i64 0, .int .i64 0], .int .i64 10]) ∧ Below w.heap.size w w' := by
  have hB0 : Below w.heap.size w ((w.alloc (.cells #[.int .i64 N, .int .i64 lo, .int .i64 hi] 25)).alloc (.cells #[.int .i64 0, .int .i64 0] 34)) := ((Below.refl _ w).alloc (Nat.le_refl _) _).alloc (by simp) _
  have hT : Two (w.heap.size + 1) (.int .i64 0) (.int .i64 0) ((w.alloc (.cells #[.int .i64 N, .int .i64 lo, .int .i64 hi] 25)).alloc (.cells #[.int .i64 0, .int .i64 0] 34)) := ⟨by simp [go_sem], by simp [go_sem], by simp [go_sem], by simp [go_sem]⟩
  have HT := Lib.hid hT
  have HB0 := Lib.hid hB0
  clear hT hB0
  go_enter Try.func12, Try.ntmps12
  go_wp2_with fail
  generalize ((w.alloc (.cells #[.int .i64 N, .int .i64 lo, .int .i64 hi] 25)).alloc (.cells #[.int .i64 0, .int .i64 0] 34)) = W0 at *
  generalize hbb : w.heap.size = bb at *
  have HBB := Lib.hid hbb
  clear hbb
  have hs0 : bb + 1 < W0.heap.size := lt_of_cell HT.out.c0
  refine (begun_bad N lo hi _ hc).mono ?_
  rintro e w1 ⟨rfl, hB1⟩
  have T1 := HT.out.keeps hB1
  have HB1 := Lib.hid (HB0.out.trans (hB1.mono (by omega)))
  clear hB1
  have r0 := T1.c0
  have r1 := T1.c1
  have r2 := T1.f0
  have r3 := T1.f1
  obtain ⟨s0, s1⟩ := two_stores (w := w1) (b := bb + 1) (.int .i64 0) (.int .i64 0) r0 r1
  have hB9 := Lib.hid ((HB1.out.setCell (p := ⟨bb + 1, 0, none⟩) (by show bb ≤ bb + 1; omega) (.int .i64 0)).setCell (p := ⟨bb + 1, 1, none⟩) (by show bb ≤ bb + 1; omega) (.int .i64 0))
  go_wp2_with fail
  refine bodyPost_ret (v := .tuple #[.agg #[.int .i64 0, .int .i64 0], .int .i64 10]) ?_ rfl ⟨rfl, ?_⟩
  · simp [results, Try.results12, go_sem, s0, s1]
  · have hbb := HBB.out
    subst hbb
    exact hB9.out

set_option maxRecDepth 100000 in
set_option maxHeartbeats 2000000 in
theorem mean_b (N lo hi D o : Int) (w : World) (hc : cargoB N lo hi = true) (x y z : Int) (q : Bool) (hx : Hid (unlessV (inB lo hi [D]) 2 = x)) (hq : Hid (inB 0 N [o] = q)) (hy : Hid (unlessV q 2 = y)) (hz : Hid (firstE [x, y] = z)) (hz0 : (z != 0) = true) :
    Calls Try.prog 12 #[.agg #[.int .i64 N, .int .i64 lo, .int .i64 hi], .int .i64 D, .int .i64 o] w fun e w' => e = .returned (.tuple #[.agg #[.int .i64 0, .int .i64 0], .int .i64 z]) ∧ Below w.heap.size w w' := by
  have hB0 : Below w.heap.size w ((w.alloc (.cells #[.int .i64 N, .int .i64 lo, .int .i64 hi] 25)).alloc (.cells #[.int .i64 0, .int .i64 0] 34)) := ((Below.refl _ w).alloc (Nat.le_refl _) _).alloc (by simp) _
  have hT : Two (w.heap.size + 1) (.int .i64 0) (.int .i64 0) ((w.alloc (.cells #[.int .i64 N, .int .i64 lo, .int .i64 hi] 25)).alloc (.cells #[.int .i64 0, .int .i64 0] 34)) := ⟨by simp [go_sem], by simp [go_sem], by simp [go_sem], by simp [go_sem]⟩
  have HT := Lib.hid hT
  have HB0 := Lib.hid hB0
  clear hT hB0
  go_enter Try.func12, Try.ntmps12
  go_wp2_with fail
  generalize ((w.alloc (.cells #[.int .i64 N, .int .i64 lo, .int .i64 hi] 25)).alloc (.cells #[.int .i64 0, .int .i64 0] 34)) = W0 at *
  generalize hbb : w.heap.size = bb at *
  have HBB := Lib.hid hbb
  clear hbb
  have hs0 : bb + 1 < W0.heap.size := lt_of_cell HT.out.c0
  refine (begun_ok N lo hi _ hc).mono ?_
  rintro e w1 ⟨hb, mb, kb, cb, rfl, hH, hmb, hhb, hB1⟩
  have HB1 := Lib.hid (HB0.out.trans (hB1.mono (by omega)))
  have HT1 := Lib.hid (HT.out.keeps hB1)
  have hs1 := hB1.size
  have b0 := hH.bags
  have b1 := hH.lo
  have b2 := hH.hi
  clear hB1 hH hmb hhb
  go_wp2_with fail
  have hF : ∀ W, Free.Bel w1.drew W → W.cell? ⟨hb, 0, none⟩ = some (.int .i64 N) ∧ W.cell? ⟨hb, 1, none⟩ = some (.int .i64 lo) ∧ W.cell? ⟨hb, 2, none⟩ = some (.int .i64 hi) :=
    fun W hW => ⟨keepsB hW b0, keepsB hW b1, keepsB hW b2⟩
  refine Free.wp_free (R := Free.Bel) (by kernel_rfl) (by kernel_rfl) Free.Bel.refl Free.Bel.trans ?_
  refine Free.Chain.ex ?_ [] [8] (by kernel_rfl) (by kernel_rfl) rfl Free.Bel.refl ?_ ?_
  rotate_left
  · (intro ev W hb hR hO hD; have hS := hF W hR; obtain ⟨hb1, hb2, hb3⟩ := hb; simp only [Free.AllDeps, Free.AllOuts, Free.At, List.getElem?_cons_succ, List.getElem?_cons_zero, Array.getD_eq_getD_getElem?, List.getElem?_toArray, Option.getD_some, and_true] at hO hD; go_simp; rfl)
  simp only [List.nil_append, List.cons_append]
  refine Free.Chain.ex ?_ [] [1] (by kernel_rfl) (by kernel_rfl) rfl Free.Bel.refl ?_ ?_
  rotate_left
  · (intro ev W hb hR hO hD; have hS := hF W hR; obtain ⟨hb1, hb2, hb3⟩ := hb; simp only [Free.AllDeps, Free.AllOuts, Free.At, List.getElem?_cons_succ, List.getElem?_cons_zero, Array.getD_eq_getD_getElem?, List.getElem?_toArray, Option.getD_some, and_true] at hO hD; go_simp; rfl)
  simp only [List.nil_append, List.cons_append]
  refine Free.Chain.pr (SlI [D]) [(1, 21)] [] (by kernel_rfl) (by kernel_rfl) rfl (SlI.stable _) ?_ ?_
  · (intro ev W hb hR hO hD; have hS := hF W hR; obtain ⟨hb1, hb2, hb3⟩ := hb; simp only [Free.AllDeps, Free.AllOuts, Free.At, List.getElem?_cons_succ, List.getElem?_cons_zero, Array.getD_eq_getD_getElem?, List.getElem?_toArray, Option.getD_some, and_true] at hO hD; go_simp; exact ⟨belAlloc _ _, SlI.one _ _ _⟩)
  simp only [List.nil_append, List.cons_append]
  refine Free.Chain.pr (fun v _ => v = .int .i64 x) [(0, 20), (2, 22)] [] (by kernel_rfl) (by kernel_rfl) rfl (fun _ _ _ _ h => h) ?_ ?_
  · (intro ev W hb hR hO hD; have hS := hF W hR; obtain ⟨hb1, hb2, hb3⟩ := hb; simp only [Free.AllDeps, Free.AllOuts, Free.At, List.getElem?_cons_succ, List.getElem?_cons_zero, Array.getD_eq_getD_getElem?, List.getElem?_toArray, Option.getD_some, and_true] at hO hD; go_simp; refine (may_any hb lo hi [D] _ x _ (by simp [maxLen]) hS.2.1 hS.2.2 hD.2 hx.out).mono ?_; rintro e W1 ⟨rfl, hB1⟩; exact ⟨_, rfl, hB1, rfl⟩)
  simp only [List.nil_append, List.cons_append]
  refine Free.Chain.ex ?_ [] [8] (by kernel_rfl) (by kernel_rfl) rfl Free.Bel.refl ?_ ?_
  rotate_left
  · (intro ev W hb hR hO hD; have hS := hF W hR; obtain ⟨hb1, hb2, hb3⟩ := hb; simp only [Free.AllDeps, Free.AllOuts, Free.At, List.getElem?_cons_succ, List.getElem?_cons_zero, Array.getD_eq_getD_getElem?, List.getElem?_toArray, Option.getD_some, and_true] at hO hD; go_simp; rfl)
  simp only [List.nil_append, List.cons_append]
  refine Free.Chain.ex ?_ [(4, 24)] [] (by kernel_rfl) (by kernel_rfl) rfl Free.Bel.refl ?_ ?_
  rotate_left
  · (intro ev W hb hR hO hD; have hS := hF W hR; obtain ⟨hb1, hb2, hb3⟩ := hb; simp only [Free.AllDeps, Free.AllOuts, Free.At, List.getElem?_cons_succ, List.getElem?_cons_zero, Array.getD_eq_getD_getElem?, List.getElem?_toArray, Option.getD_some, and_true] at hO hD; go_simp; rfl)
  simp only [List.nil_append, List.cons_append]
  refine Free.Chain.ex ?_ [(5, 25)] [] (by kernel_rfl) (by kernel_rfl) rfl Free.Bel.refl ?_ ?_
  rotate_left
  · (intro ev W hb hR hO hD; have hS := hF W hR; obtain ⟨hb1, hb2, hb3⟩ := hb; simp only [Free.AllDeps, Free.AllOuts, Free.At, List.getElem?_cons_succ, List.getElem?_cons_zero, Array.getD_eq_getD_getElem?, List.getElem?_toArray, Option.getD_some, and_true] at hO hD; go_simp; rfl)
  simp only [List.nil_append, List.cons_append]
  refine Free.Chain.ex ?_ [(6, 26)] [] (by kernel_rfl) (by kernel_rfl) rfl Free.Bel.refl ?_ ?_
  rotate_left
  · (intro ev W hb hR hO hD; have hS := hF W hR; obtain ⟨hb1, hb2, hb3⟩ := hb; simp only [Free.AllDeps, Free.AllOuts, Free.At, List.getElem?_cons_succ, List.getElem?_cons_zero, Array.getD_eq_getD_getElem?, List.getElem?_toArray, Option.getD_some, and_true] at hO hD; go_simp; rfl)
  simp only [List.nil_append, List.cons_append]
  refine Free.Chain.ex ?_ [(7, 27)] [] (by kernel_rfl) (by kernel_rfl) rfl Free.Bel.refl ?_ ?_
  rotate_left
  · (intro ev W hb hR hO hD; have hS := hF W hR; obtain ⟨hb1, hb2, hb3⟩ := hb; simp only [Free.AllDeps, Free.AllOuts, Free.At, List.getElem?_cons_succ, List.getElem?_cons_zero, Array.getD_eq_getD_getElem?, List.getElem?_toArray, Option.getD_some, and_true] at hO hD; go_simp; rfl)
  simp only [List.nil_append, List.cons_append]
  refine Free.Chain.ex ?_ [] [2] (by kernel_rfl) (by kernel_rfl) rfl Free.Bel.refl ?_ ?_
  rotate_left
  · (intro ev W hb hR hO hD; have hS := hF W hR; obtain ⟨hb1, hb2, hb3⟩ := hb; simp only [Free.AllDeps, Free.AllOuts, Free.At, List.getElem?_cons_succ, List.getElem?_cons_zero, Array.getD_eq_getD_getElem?, List.getElem?_toArray, Option.getD_some, and_true] at hO hD; go_simp; rfl)
  simp only [List.nil_append, List.cons_append]
  refine Free.Chain.pr (SlI [o]) [(9, 29)] [] (by kernel_rfl) (by kernel_rfl) rfl (SlI.stable _) ?_ ?_
  · (intro ev W hb hR hO hD; have hS := hF W hR; obtain ⟨hb1, hb2, hb3⟩ := hb; simp only [Free.AllDeps, Free.AllOuts, Free.At, List.getElem?_cons_succ, List.getElem?_cons_zero, Array.getD_eq_getD_getElem?, List.getElem?_toArray, Option.getD_some, and_true] at hO hD; go_simp; exact ⟨belAlloc _ _, SlI.one _ _ _⟩)
  simp only [List.nil_append, List.cons_append]
  refine Free.Chain.pr (fun v _ => v = .bool q) [(8, 28), (10, 30), (3, 23)] [] (by kernel_rfl) (by kernel_rfl) rfl (fun _ _ _ _ h => h) ?_ ?_
  · (intro ev W hb hR hO hD; have hS := hF W hR; obtain ⟨hb1, hb2, hb3⟩ := hb; simp only [Free.AllDeps, Free.AllOuts, Free.At, List.getElem?_cons_succ, List.getElem?_cons_zero, Array.getD_eq_getD_getElem?, List.getElem?_toArray, Option.getD_some, and_true] at hO hD; go_simp; refine (in_sl _ _ [o] q _ _ (by simp [maxLen]) hq.out hD.2.1).mono ?_; rintro e W1 ⟨rfl, hB1⟩; exact ⟨_, rfl, hB1, rfl⟩)
  simp only [List.nil_append, List.cons_append]
  refine Free.Chain.pr (fun v _ => v = .int .i64 y) [(11, 31), (11, 31)] [] (by kernel_rfl) (by kernel_rfl) rfl (fun _ _ _ _ h => h) ?_ ?_
  · (intro ev W hb hR hO hD; have hS := hF W hR; obtain ⟨hb1, hb2, hb3⟩ := hb; simp only [Free.AllDeps, Free.AllOuts, Free.At, List.getElem?_cons_succ, List.getElem?_cons_zero, Array.getD_eq_getD_getElem?, List.getElem?_toArray, Option.getD_some, and_true] at hO hD; go_simp; refine (unless_any q 2 y _ hy.out).mono ?_; rintro e W1 ⟨rfl, rfl⟩; exact ⟨_, rfl, Free.Bel.refl _, rfl⟩)
  simp only [List.nil_append, List.cons_append]
  refine Free.Chain.pr (SlI [x, y]) [(3, 23), (12, 32)] [] (by kernel_rfl) (by kernel_rfl) rfl (SlI.stable _) ?_ ?_
  · (intro ev W hb hR hO hD; have hS := hF W hR; obtain ⟨hb1, hb2, hb3⟩ := hb; simp only [Free.AllDeps, Free.AllOuts, Free.At, List.getElem?_cons_succ, List.getElem?_cons_zero, Array.getD_eq_getD_getElem?, List.getElem?_toArray, Option.getD_some, and_true] at hO hD; go_simp; exact ⟨belAlloc _ _, SlI.two _ _ _ _⟩)
  simp only [List.nil_append, List.cons_append]
  refine Free.Chain.pr (fun v _ => v = .int .i64 z) [(13, 33), (12, 32)] [] (by kernel_rfl) (by kernel_rfl) rfl (fun _ _ _ _ h => h) ?_ ?_
  · (intro ev W hb hR hO hD; have hS := hF W hR; obtain ⟨hb1, hb2, hb3⟩ := hb; simp only [Free.AllDeps, Free.AllOuts, Free.At, List.getElem?_cons_succ, List.getElem?_cons_zero, Array.getD_eq_getD_getElem?, List.getElem?_toArray, Option.getD_some, and_true] at hO hD; go_simp; refine (first_sl [x, y] z _ _ (by simp [maxLen]) hz.out hD.1).mono ?_; rintro e W1 ⟨rfl, rfl⟩; exact ⟨_, rfl, Free.Bel.refl _, rfl⟩)
  simp only [List.nil_append, List.cons_append]
  refine Free.Chain.ex ?_ [(14, 34), (14, 34), (0, 20), (1, 21), (2, 22), (3, 23), (4, 24), (5, 25), (6, 26), (7, 27), (8, 28), (9, 29), (10, 30), (11, 31), (12, 32), (13, 33), (14, 34)] [] (by kernel_rfl) (by kernel_rfl) rfl Free.Bel.refl ?_ ?_
  rotate_left
  · (intro ev W hb hR hO hD; have hS := hF W hR; obtain ⟨hb1, hb2, hb3⟩ := hb; simp only [Free.AllDeps, Free.AllOuts, Free.At, List.getElem?_cons_succ, List.getElem?_cons_zero, Array.getD_eq_getD_getElem?, List.getElem?_toArray, Option.getD_some, and_true] at hO hD; go_simp; rfl)
  simp only [List.nil_append, List.cons_append]
  intro xs w4 hR hV
  simp only [Free.AllV, Free.At, List.length_cons, List.length_nil, Nat.reduceAdd, List.getElem?_cons_succ, List.getElem?_cons_zero, true_and] at hV
  simp only [Free.putsFrom, Act.put, hV, List.setIfInBounds_toArray, List.set_cons_succ, List.set_cons_zero]
  have T1 := HT1.out.keeps (Free.Bel.first hR)
  have HB1 := Lib.hid (Free.Bel.behind HB1.out (by omega) hR)
  have b0 := keepsB (Free.Bel.first hR) b0
  clear hR hV HT1
  have r0 := T1.c0
  have r1 := T1.c1
  have r2 := T1.f0
  have r3 := T1.f1
  obtain ⟨s0, s1⟩ := two_stores (w := w4) (b := bb + 1) (.int .i64 0) (.int .i64 0) r0 r1
  have hB9 := Lib.hid ((HB1.out.setCell (p := ⟨bb + 1, 0, none⟩) (by show bb ≤ bb + 1; omega) (.int .i64 0)).setCell (p := ⟨bb + 1, 1, none⟩) (by show bb ≤ bb + 1; omega) (.int .i64 0))
  go_wp2_with fail
  refine bodyPost_ret (v := .tuple #[.agg #[.int .i64 0, .int .i64 0], .int .i64 z]) ?_ rfl ⟨rfl, ?_⟩
  · simp [results, Try.results12, go_sem, s0, s1]
  · have hbb := HBB.out
    subst hbb
    exact hB9.out

set_option maxRecDepth 100000 in
set_option maxHeartbeats 2000000 in
theorem mean_c (N lo hi D o : Int) (w : World) (hc : cargoB N lo hi = true) (hm : inB lo hi [D] = true) (hq0 : inB 0 N [o] = true) :
    Calls Try.prog 12 #[.agg #[.int .i64 N, .int .i64 lo, .int .i64 hi], .int .i64 D, .int .i64 o] w fun e w' => e = .returned (.tuple #[partV (D * o).toNat N.toNat, .int .i64 0]) ∧ Below w.heap.size w w' := by
  have hN := (cargoB_iff N lo hi).1 hc
  have hM : lo ≤ D ∧ D ≤ hi := by simpa [inB] using hm
  have hO : 0 ≤ o ∧ o ≤ N := by simpa [inB] using hq0
  have hx : Hid (unlessV (inB lo hi [D]) 2 = 0) := by simp [Hid, unlessV, hm]
  have hq : Hid (inB 0 N [o] = true) := hq0
  have hy : Hid (unlessV true 2 = 0) := by simp [Hid, unlessV]
  have hz : Hid (firstE [0, 0] = 0) := by simp [Hid, firstE]
  have hDo : 0 ≤ D * o ∧ D * o ≤ 1296 := ⟨Int.mul_nonneg (by omega) hO.1, Int.le_trans (Int.mul_le_mul (show D ≤ 36 by omega) (show o ≤ 36 by omega) hO.1 (by omega)) (by omega)⟩
  obtain ⟨px, py, hp⟩ : ∃ px py : Int, partV (D * o).toNat N.toNat = .agg #[.int .i64 px, .int .i64 py] := ⟨_, _, rfl⟩
  have HP := Lib.hid hp
  clear hp hq0 hm
  have hB0 : Below w.heap.size w ((w.alloc (.cells #[.int .i64 N, .int .i64 lo, .int .i64 hi] 25)).alloc (.cells #[.int .i64 0, .int .i64 0] 34)) := ((Below.refl _ w).alloc (Nat.le_refl _) _).alloc (by simp) _
  have hT : Two (w.heap.size + 1) (.int .i64 0) (.int .i64 0) ((w.alloc (.cells #[.int .i64 N, .int .i64 lo, .int .i64 hi] 25)).alloc (.cells #[.int .i64 0, .int .i64 0] 34)) := ⟨by simp [go_sem], by simp [go_sem], by simp [go_sem], by simp [go_sem]⟩
  have HT := Lib.hid hT
  have HB0 := Lib.hid hB0
  clear hT hB0
  go_enter Try.func12, Try.ntmps12
  go_wp2_with fail
  generalize ((w.alloc (.cells #[.int .i64 N, .int .i64 lo, .int .i64 hi] 25)).alloc (.cells #[.int .i64 0, .int .i64 0] 34)) = W0 at *
  generalize hbb : w.heap.size = bb at *
  have HBB := Lib.hid hbb
  clear hbb
  have hs0 : bb + 1 < W0.heap.size := lt_of_cell HT.out.c0
  refine (begun_ok N lo hi _ hc).mono ?_
  rintro e w1 ⟨hb, mb, kb, cb, rfl, hH, hmb, hhb, hB1⟩
  have HB1 := Lib.hid (HB0.out.trans (hB1.mono (by omega)))
  have HT1 := Lib.hid (HT.out.keeps hB1)
  have hs1 := hB1.size
  have b0 := hH.bags
  have b1 := hH.lo
  have b2 := hH.hi
  clear hB1 hH hmb hhb
  go_wp2_with fail
  have hF : ∀ W, Free.Bel w1.drew W → W.cell? ⟨hb, 0, none⟩ = some (.int .i64 N) ∧ W.cell? ⟨hb, 1, none⟩ = some (.int .i64 lo) ∧ W.cell? ⟨hb, 2, none⟩ = some (.int .i64 hi) :=
    fun W hW => ⟨keepsB hW b0, keepsB hW b1, keepsB hW b2⟩
  refine Free.wp_free (R := Free.Bel) (by kernel_rfl) (by kernel_rfl) Free.Bel.refl Free.Bel.trans ?_
  refine Free.Chain.ex ?_ [] [8] (by kernel_rfl) (by kernel_rfl) rfl Free.Bel.refl ?_ ?_
  rotate_left
  · (intro ev W hb hR hO hD; have hS := hF W hR; obtain ⟨hb1, hb2, hb3⟩ := hb; simp only [Free.AllDeps, Free.AllOuts, Free.At, List.getElem?_cons_succ, List.getElem?_cons_zero, Array.getD_eq_getD_getElem?, List.getElem?_toArray, Option.getD_some, and_true] at hO hD; go_simp; rfl)
  simp only [List.nil_append, List.cons_append]
  refine Free.Chain.ex ?_ [] [1] (by kernel_rfl) (by kernel_rfl) rfl Free.Bel.refl ?_ ?_
  rotate_left
  · (intro ev W hb hR hO hD; have hS := hF W hR; obtain ⟨hb1, hb2, hb3⟩ := hb; simp only [Free.AllDeps, Free.AllOuts, Free.At, List.getElem?_cons_succ, List.getElem?_cons_zero, Array.getD_eq_getD_getElem?, List.getElem?_toArray, Option.getD_some, and_true] at hO hD; go_simp; rfl)
  simp only [List.nil_append, List.cons_append]
  refine Free.Chain.pr (SlI [D]) [(1, 21)] [] (by kernel_rfl) (by kernel_rfl) rfl (SlI.stable _) ?_ ?_
  · (intro ev W hb hR hO hD; have hS := hF W hR; obtain ⟨hb1, hb2, hb3⟩ := hb; simp only [Free.AllDeps, Free.AllOuts, Free.At, List.getElem?_cons_succ, List.getElem?_cons_zero, Array.getD_eq_getD_getElem?, List.getElem?_toArray, Option.getD_some, and_true] at hO hD; go_simp; exact ⟨belAlloc _ _, SlI.one _ _ _⟩)
  simp only [List.nil_append, List.cons_append]
  refine Free.Chain.pr (fun v _ => v = .int .i64 0) [(0, 20), (2, 22)] [] (by kernel_rfl) (by kernel_rfl) rfl (fun _ _ _ _ h => h) ?_ ?_
  · (intro ev W hb hR hO hD; have hS := hF W hR; obtain ⟨hb1, hb2, hb3⟩ := hb; simp only [Free.AllDeps, Free.AllOuts, Free.At, List.getElem?_cons_succ, List.getElem?_cons_zero, Array.getD_eq_getD_getElem?, List.getElem?_toArray, Option.getD_some, and_true] at hO hD; go_simp; refine (may_any hb lo hi [D] _ 0 _ (by simp [maxLen]) hS.2.1 hS.2.2 hD.2 hx.out).mono ?_; rintro e W1 ⟨rfl, hB1⟩; exact ⟨_, rfl, hB1, rfl⟩)
  simp only [List.nil_append, List.cons_append]
  refine Free.Chain.ex ?_ [] [8] (by kernel_rfl) (by kernel_rfl) rfl Free.Bel.refl ?_ ?_
  rotate_left
  · (intro ev W hb hR hO hD; have hS := hF W hR; obtain ⟨hb1, hb2, hb3⟩ := hb; simp only [Free.AllDeps, Free.AllOuts, Free.At, List.getElem?_cons_succ, List.getElem?_cons_zero, Array.getD_eq_getD_getElem?, List.getElem?_toArray, Option.getD_some, and_true] at hO hD; go_simp; rfl)
  simp only [List.nil_append, List.cons_append]
  refine Free.Chain.ex ?_ [(4, 24)] [] (by kernel_rfl) (by kernel_rfl) rfl Free.Bel.refl ?_ ?_
  rotate_left
  · (intro ev W hb hR hO hD; have hS := hF W hR; obtain ⟨hb1, hb2, hb3⟩ := hb; simp only [Free.AllDeps, Free.AllOuts, Free.At, List.getElem?_cons_succ, List.getElem?_cons_zero, Array.getD_eq_getD_getElem?, List.getElem?_toArray, Option.getD_some, and_true] at hO hD; go_simp; rfl)
  simp only [List.nil_append, List.cons_append]
  refine Free.Chain.ex ?_ [(5, 25)] [] (by kernel_rfl) (by kernel_rfl) rfl Free.Bel.refl ?_ ?_
  rotate_left
  · (intro ev W hb hR hO hD; have hS := hF W hR; obtain ⟨hb1, hb2, hb3⟩ := hb; simp only [Free.AllDeps, Free.AllOuts, Free.At, List.getElem?_cons_succ, List.getElem?_cons_zero, Array.getD_eq_getD_getElem?, List.getElem?_toArray, Option.getD_some, and_true] at hO hD; go_simp; rfl)
  simp only [List.nil_append, List.cons_append]
  refine Free.Chain.ex ?_ [(6, 26)] [] (by kernel_rfl) (by kernel_rfl) rfl Free.Bel.refl ?_ ?_
  rotate_left
  · (intro ev W hb hR hO hD; have hS := hF W hR; obtain ⟨hb1, hb2, hb3⟩ := hb; simp only [Free.AllDeps, Free.AllOuts, Free.At, List.getElem?_cons_succ, List.getElem?_cons_zero, Array.getD_eq_getD_getElem?, List.getElem?_toArray, Option.getD_some, and_true] at hO hD; go_simp; rfl)
  simp only [List.nil_append, List.cons_append]
  refine Free.Chain.ex ?_ [(7, 27)] [] (by kernel_rfl) (by kernel_rfl) rfl Free.Bel.refl ?_ ?_
  rotate_left
  · (intro ev W hb hR hO hD; have hS := hF W hR; obtain ⟨hb1, hb2, hb3⟩ := hb; simp only [Free.AllDeps, Free.AllOuts, Free.At, List.getElem?_cons_succ, List.getElem?_cons_zero, Array.getD_eq_getD_getElem?, List.getElem?_toArray, Option.getD_some, and_true] at hO hD; go_simp; rfl)
  simp only [List.nil_append, List.cons_append]
  refine Free.Chain.ex ?_ [] [2] (by kernel_rfl) (by kernel_rfl) rfl Free.Bel.refl ?_ ?_
  rotate_left
  · (intro ev W hb hR hO hD; have hS := hF W hR; obtain ⟨hb1, hb2, hb3⟩ := hb; simp only [Free.AllDeps, Free.AllOuts, Free.At, List.getElem?_cons_succ, List.getElem?_cons_zero, Array.getD_eq_getD_getElem?, List.getElem?_toArray, Option.getD_some, and_true] at hO hD; go_simp; rfl)
  simp only [List.nil_append, List.cons_append]
  refine Free.Chain.pr (SlI [o]) [(9, 29)] [] (by kernel_rfl) (by kernel_rfl) rfl (SlI.stable _) ?_ ?_
  · (intro ev W hb hR hO hD; have hS := hF W hR; obtain ⟨hb1, hb2, hb3⟩ := hb; simp only [Free.AllDeps, Free.AllOuts, Free.At, List.getElem?_cons_succ, List.getElem?_cons_zero, Array.getD_eq_getD_getElem?, List.getElem?_toArray, Option.getD_some, and_true] at hO hD; go_simp; exact ⟨belAlloc _ _, SlI.one _ _ _⟩)
  simp only [List.nil_append, List.cons_append]
  refine Free.Chain.pr (fun v _ => v = .bool true) [(8, 28), (10, 30), (3, 23)] [] (by kernel_rfl) (by kernel_rfl) rfl (fun _ _ _ _ h => h) ?_ ?_
  · (intro ev W hb hR hO hD; have hS := hF W hR; obtain ⟨hb1, hb2, hb3⟩ := hb; simp only [Free.AllDeps, Free.AllOuts, Free.At, List.getElem?_cons_succ, List.getElem?_cons_zero, Array.getD_eq_getD_getElem?, List.getElem?_toArray, Option.getD_some, and_true] at hO hD; go_simp; refine (in_sl _ _ [o] true _ _ (by simp [maxLen]) hq.out hD.2.1).mono ?_; rintro e W1 ⟨rfl, hB1⟩; exact ⟨_, rfl, hB1, rfl⟩)
  simp only [List.nil_append, List.cons_append]
  refine Free.Chain.pr (fun v _ => v = .int .i64 0) [(11, 31), (11, 31)] [] (by kernel_rfl) (by kernel_rfl) rfl (fun _ _ _ _ h => h) ?_ ?_
  · (intro ev W hb hR hO hD; have hS := hF W hR; obtain ⟨hb1, hb2, hb3⟩ := hb; simp only [Free.AllDeps, Free.AllOuts, Free.At, List.getElem?_cons_succ, List.getElem?_cons_zero, Array.getD_eq_getD_getElem?, List.getElem?_toArray, Option.getD_some, and_true] at hO hD; go_simp; refine (unless_any true 2 0 _ hy.out).mono ?_; rintro e W1 ⟨rfl, rfl⟩; exact ⟨_, rfl, Free.Bel.refl _, rfl⟩)
  simp only [List.nil_append, List.cons_append]
  refine Free.Chain.pr (SlI [0, 0]) [(3, 23), (12, 32)] [] (by kernel_rfl) (by kernel_rfl) rfl (SlI.stable _) ?_ ?_
  · (intro ev W hb hR hO hD; have hS := hF W hR; obtain ⟨hb1, hb2, hb3⟩ := hb; simp only [Free.AllDeps, Free.AllOuts, Free.At, List.getElem?_cons_succ, List.getElem?_cons_zero, Array.getD_eq_getD_getElem?, List.getElem?_toArray, Option.getD_some, and_true] at hO hD; go_simp; exact ⟨belAlloc _ _, SlI.two _ _ _ _⟩)
  simp only [List.nil_append, List.cons_append]
  refine Free.Chain.pr (fun v _ => v = .int .i64 0) [(13, 33), (12, 32)] [] (by kernel_rfl) (by kernel_rfl) rfl (fun _ _ _ _ h => h) ?_ ?_
  · (intro ev W hb hR hO hD; have hS := hF W hR; obtain ⟨hb1, hb2, hb3⟩ := hb; simp only [Free.AllDeps, Free.AllOuts, Free.At, List.getElem?_cons_succ, List.getElem?_cons_zero, Array.getD_eq_getD_getElem?, List.getElem?_toArray, Option.getD_some, and_true] at hO hD; go_simp; refine (first_sl [0, 0] 0 _ _ (by simp [maxLen]) hz.out hD.1).mono ?_; rintro e W1 ⟨rfl, rfl⟩; exact ⟨_, rfl, Free.Bel.refl _, rfl⟩)
  simp only [List.nil_append, List.cons_append]
  refine Free.Chain.ex ?_ [(14, 34), (14, 34), (0, 20), (1, 21), (2, 22), (3, 23), (4, 24), (5, 25), (6, 26), (7, 27), (8, 28), (9, 29), (10, 30), (11, 31), (12, 32), (13, 33), (14, 34)] [] (by kernel_rfl) (by kernel_rfl) rfl Free.Bel.refl ?_ ?_
  rotate_left
  · (intro ev W hb hR hO hD; have hS := hF W hR; obtain ⟨hb1, hb2, hb3⟩ := hb; simp only [Free.AllDeps, Free.AllOuts, Free.At, List.getElem?_cons_succ, List.getElem?_cons_zero, Array.getD_eq_getD_getElem?, List.getElem?_toArray, Option.getD_some, and_true] at hO hD; go_simp; rfl)
  simp only [List.nil_append, List.cons_append]
  intro xs w4 hR hV
  simp only [Free.AllV, Free.At, List.length_cons, List.length_nil, Nat.reduceAdd, List.getElem?_cons_succ, List.getElem?_cons_zero, true_and] at hV
  simp only [Free.putsFrom, Act.put, hV, List.setIfInBounds_toArray, List.set_cons_succ, List.set_cons_zero]
  have T1 := HT1.out.keeps (Free.Bel.first hR)
  have HB1 := Lib.hid (Free.Bel.behind HB1.out (by omega) hR)
  have b0 := keepsB (Free.Bel.first hR) b0
  clear hR hV HT1
  go_wp2_with fail
  refine (part_int (D * o) N hDo.1 (by omega) (by omega) (by omega) _ HP.out _).mono ?_
  rintro e w5 ⟨rfl, hB5⟩
  have T0 := T1
  have T1 := T1.keeps hB5
  have hs4 : bb ≤ w4.heap.size := by have := lt_of_cell T0.c0; simp at this; omega
  have HB1 := Lib.hid (HB1.out.trans (hB5.mono hs4))
  clear hB5
  have r0 := T1.c0
  have r1 := T1.c1
  have r2 := T1.f0
  have r3 := T1.f1
  obtain ⟨s0, s1⟩ := two_stores (w := w5) (b := bb + 1) (.int .i64 px) (.int .i64 py) r0 r1
  have hB9 := Lib.hid ((HB1.out.setCell (p := ⟨bb + 1, 0, none⟩) (by show bb ≤ bb + 1; omega) (.int .i64 px)).setCell (p := ⟨bb + 1, 1, none⟩) (by show bb ≤ bb + 1; omega) (.int .i64 py))
  go_wp2_with fail
  refine bodyPost_ret (v := .tuple #[.agg #[.int .i64 px, .int .i64 py], .int .i64 0]) ?_ rfl ⟨by rw [HP.out], ?_⟩
  · simp [results, Try.results12, go_sem, s0, s1]
  · have hbb := HBB.out
    subst hbb
    exact hB9.out

theorem mean_any (N lo hi D o : Int) (w : World) :
    Calls Try.prog 12 #[.agg #[.int .i64 N, .int .i64 lo, .int .i64 hi], .int .i64 D, .int .i64 o] w fun e w' => e = .returned (.tuple (if cargoB N lo hi = false then #[zeroPart, .int .i64 10] else if meanE N lo hi D o ≠ 0 then #[zeroPart, .int .i64 (meanE N lo hi D o)] else #[partV (D * o).toNat N.toNat, .int .i64 0])) ∧ Below w.heap.size w w' := by
  cases hc : cargoB N lo hi
  · simpa [zeroPart] using mean_a N lo hi D o w hc
  · by_cases hz : meanE N lo hi D o = 0
    · have hm : inB lo hi [D] = true := by
        cases h : inB lo hi [D]
        · simp [meanE, h, unlessV, firstE] at hz
        · rfl
      have hq : inB 0 N [o] = true := by
        cases h : inB 0 N [o]
        · simp [meanE, hm, h, unlessV, firstE] at hz
        · rfl
      simpa [hz] using mean_c N lo hi D o w hc hm hq
    · rw [if_neg (by simp), if_pos hz]
      exact mean_b N lo hi D o w hc _ _ _ _ rfl rfl rfl rfl (by show (meanE N lo hi D o != 0) = true; simpa using hz)
end Go.Proofs.Ytfdbegohjlijoaa
