/- For every input the law SampleLeast returns true, and its arguments read behind the call as they read before; what a double rule is asked lies in the table as the program's text lays it (tied). Condition: that table. -/
/- Rules: Good, and the reference's. -/
import Derived.Test.YtdiclofeggkjcaaDoorB7
namespace Go.Proofs.YtdiclofeggkjcaaDoor
set_option linter.unusedSimpArgs false
set_option linter.unusedVariables false
open Go.RowKit Go.Proofs.YtdiclofeggkjcaaDoor.ML Go.Proofs.YtdiclofeggkjcaaDoor.Samp

set_option maxRecDepth 100000 in
set_option maxHeartbeats 2000000 in
theorem good_a (N lo hi g b o a sn sd bn bd : Int) (w : World) (hc : cargoB N lo hi = false) :
    Calls Tryd.prog 43 #[.agg #[.int .i64 N, .int .i64 lo, .int .i64 hi], .agg #[.int .i64 o, .int .i64 a], .int .i64 g, .int .i64 b, .agg #[.int .i64 sn, .int .i64 sd], .agg #[.int .i64 bn, .int .i64 bd]] w fun e w' => e = .returned (.tuple #[.bool false, .int .i64 10]) ∧ Below w.heap.size w w' := by
  have hB0 : Below w.heap.size w ((((w.alloc (.cells #[.int .i64 N, .int .i64 lo, .int .i64 hi] 26)).alloc (.cells #[.int .i64 o, .int .i64 a] 76)).alloc (.cells #[.int .i64 sn, .int .i64 sd] 29)).alloc (.cells #[.int .i64 bn, .int .i64 bd] 29)) := ((((Below.refl _ w).alloc (Nat.le_refl _) _).alloc (by simp) _).alloc (by simp; omega) _).alloc (by simp; omega) _
  have c0 : ((((w.alloc (.cells #[.int .i64 N, .int .i64 lo, .int .i64 hi] 26)).alloc (.cells #[.int .i64 o, .int .i64 a] 76)).alloc (.cells #[.int .i64 sn, .int .i64 sd] 29)).alloc (.cells #[.int .i64 bn, .int .i64 bd] 29)).cell? ⟨w.heap.size, 0, none⟩ = some (.int .i64 N) := by simp [go_sem]
  have c1 : ((((w.alloc (.cells #[.int .i64 N, .int .i64 lo, .int .i64 hi] 26)).alloc (.cells #[.int .i64 o, .int .i64 a] 76)).alloc (.cells #[.int .i64 sn, .int .i64 sd] 29)).alloc (.cells #[.int .i64 bn, .int .i64 bd] 29)).cell? ⟨w.heap.size, 1, none⟩ = some (.int .i64 lo) := by simp [go_sem]
  have c2 : ((((w.alloc (.cells #[.int .i64 N, .int .i64 lo, .int .i64 hi] 26)).alloc (.cells #[.int .i64 o, .int .i64 a] 76)).alloc (.cells #[.int .i64 sn, .int .i64 sd] 29)).alloc (.cells #[.int .i64 bn, .int .i64 bd] 29)).cell? ⟨w.heap.size, 2, none⟩ = some (.int .i64 hi) := by simp [go_sem]
  have c3 : ((((w.alloc (.cells #[.int .i64 N, .int .i64 lo, .int .i64 hi] 26)).alloc (.cells #[.int .i64 o, .int .i64 a] 76)).alloc (.cells #[.int .i64 sn, .int .i64 sd] 29)).alloc (.cells #[.int .i64 bn, .int .i64 bd] 29)).cell? ⟨w.heap.size + 1, 0, none⟩ = some (.int .i64 o) := by simp [go_sem]
  have c4 : ((((w.alloc (.cells #[.int .i64 N, .int .i64 lo, .int .i64 hi] 26)).alloc (.cells #[.int .i64 o, .int .i64 a] 76)).alloc (.cells #[.int .i64 sn, .int .i64 sd] 29)).alloc (.cells #[.int .i64 bn, .int .i64 bd] 29)).cell? ⟨w.heap.size + 1, 1, none⟩ = some (.int .i64 a) := by simp [go_sem]
  have c5 : ((((w.alloc (.cells #[.int .i64 N, .int .i64 lo, .int .i64 hi] 26)).alloc (.cells #[.int .i64 o, .int .i64 a] 76)).alloc (.cells #[.int .i64 sn, .int .i64 sd] 29)).alloc (.cells #[.int .i64 bn, .int .i64 bd] 29)).cell? ⟨w.heap.size + 1 + 1, 0, none⟩ = some (.int .i64 sn) := by simp [go_sem]
  have c6 : ((((w.alloc (.cells #[.int .i64 N, .int .i64 lo, .int .i64 hi] 26)).alloc (.cells #[.int .i64 o, .int .i64 a] 76)).alloc (.cells #[.int .i64 sn, .int .i64 sd] 29)).alloc (.cells #[.int .i64 bn, .int .i64 bd] 29)).cell? ⟨w.heap.size + 1 + 1, 1, none⟩ = some (.int .i64 sd) := by simp [go_sem]
  have c7 : ((((w.alloc (.cells #[.int .i64 N, .int .i64 lo, .int .i64 hi] 26)).alloc (.cells #[.int .i64 o, .int .i64 a] 76)).alloc (.cells #[.int .i64 sn, .int .i64 sd] 29)).alloc (.cells #[.int .i64 bn, .int .i64 bd] 29)).cell? ⟨w.heap.size + 1 + 1 + 1, 0, none⟩ = some (.int .i64 bn) := by simp [go_sem]
  have c8 : ((((w.alloc (.cells #[.int .i64 N, .int .i64 lo, .int .i64 hi] 26)).alloc (.cells #[.int .i64 o, .int .i64 a] 76)).alloc (.cells #[.int .i64 sn, .int .i64 sd] 29)).alloc (.cells #[.int .i64 bn, .int .i64 bd] 29)).cell? ⟨w.heap.size + 1 + 1 + 1, 1, none⟩ = some (.int .i64 bd) := by simp [go_sem]
  have s1 := Lib.hid (fun (W : World) (h : Below ((((w.alloc (.cells #[.int .i64 N, .int .i64 lo, .int .i64 hi] 26)).alloc (.cells #[.int .i64 o, .int .i64 a] 76)).alloc (.cells #[.int .i64 sn, .int .i64 sd] 29)).alloc (.cells #[.int .i64 bn, .int .i64 bd] 29)).heap.size ((((w.alloc (.cells #[.int .i64 N, .int .i64 lo, .int .i64 hi] 26)).alloc (.cells #[.int .i64 o, .int .i64 a] 76)).alloc (.cells #[.int .i64 sn, .int .i64 sd] 29)).alloc (.cells #[.int .i64 bn, .int .i64 bd] 29)) W) => And.intro (keepsB h c0) ( And.intro (keepsB h c1) ( And.intro (keepsB h c2) ( And.intro (keepsB h c3) ( And.intro (keepsB h c4) ( And.intro (keepsB h c5) ( And.intro (keepsB h c6) ( And.intro (keepsB h c7) (keepsB h c8)))))))))
  have HB0 := Lib.hid hB0
  clear hB0 c0 c1 c2 c3 c4 c5 c6 c7 c8
  go_enter Tryd.func43, Tryd.ntmps43
  go_wp2_with fail
  refine (begun_bad N lo hi _ hc).mono ?_
  rintro e w1 ⟨rfl, hB1⟩
  have HB1 := Lib.hid (HB0.out.trans (hB1.mono HB0.out.size))
  clear hB1
  go_wp2_with fail
  exact bodyPost_ret (v := .tuple #[.bool false, .int .i64 10]) (by simp [results, Tryd.results43, go_sem]) rfl ⟨rfl, HB1.out⟩

/-- The error of a rule, of two numbers and of two chances. -/
def goodE (N lo hi g b o a sn sd bn bd : Int) : Int := firstE [unlessV (drawB N o a) 13, riskedE lo hi g b sn sd bn bd]

set_option maxRecDepth 100000 in
set_option maxHeartbeats 2000000 in
theorem good_b (N lo hi g b o a sn sd bn bd : Int) (w : World) (hc : cargoB N lo hi = true) (x y z : Int) (hx : Hid (unlessV (drawB N o a) 13 = x)) (hy : Hid (riskedE lo hi g b sn sd bn bd = y)) (hz : Hid (firstE [x, y] = z)) (hz0 : (z != 0) = true) :
    Calls Tryd.prog 43 #[.agg #[.int .i64 N, .int .i64 lo, .int .i64 hi], .agg #[.int .i64 o, .int .i64 a], .int .i64 g, .int .i64 b, .agg #[.int .i64 sn, .int .i64 sd], .agg #[.int .i64 bn, .int .i64 bd]] w fun e w' => e = .returned (.tuple #[.bool false, .int .i64 z]) ∧ Below w.heap.size w w' := by
  have hB0 : Below w.heap.size w ((((w.alloc (.cells #[.int .i64 N, .int .i64 lo, .int .i64 hi] 26)).alloc (.cells #[.int .i64 o, .int .i64 a] 76)).alloc (.cells #[.int .i64 sn, .int .i64 sd] 29)).alloc (.cells #[.int .i64 bn, .int .i64 bd] 29)) := ((((Below.refl _ w).alloc (Nat.le_refl _) _).alloc (by simp) _).alloc (by simp; omega) _).alloc (by simp; omega) _
  have c0 : ((((w.alloc (.cells #[.int .i64 N, .int .i64 lo, .int .i64 hi] 26)).alloc (.cells #[.int .i64 o, .int .i64 a] 76)).alloc (.cells #[.int .i64 sn, .int .i64 sd] 29)).alloc (.cells #[.int .i64 bn, .int .i64 bd] 29)).cell? ⟨w.heap.size, 0, none⟩ = some (.int .i64 N) := by simp [go_sem]
  have c1 : ((((w.alloc (.cells #[.int .i64 N, .int .i64 lo, .int .i64 hi] 26)).alloc (.cells #[.int .i64 o, .int .i64 a] 76)).alloc (.cells #[.int .i64 sn, .int .i64 sd] 29)).alloc (.cells #[.int .i64 bn, .int .i64 bd] 29)).cell? ⟨w.heap.size, 1, none⟩ = some (.int .i64 lo) := by simp [go_sem]
  have c2 : ((((w.alloc (.cells #[.int .i64 N, .int .i64 lo, .int .i64 hi] 26)).alloc (.cells #[.int .i64 o, .int .i64 a] 76)).alloc (.cells #[.int .i64 sn, .int .i64 sd] 29)).alloc (.cells #[.int .i64 bn, .int .i64 bd] 29)).cell? ⟨w.heap.size, 2, none⟩ = some (.int .i64 hi) := by simp [go_sem]
  have c3 : ((((w.alloc (.cells #[.int .i64 N, .int .i64 lo, .int .i64 hi] 26)).alloc (.cells #[.int .i64 o, .int .i64 a] 76)).alloc (.cells #[.int .i64 sn, .int .i64 sd] 29)).alloc (.cells #[.int .i64 bn, .int .i64 bd] 29)).cell? ⟨w.heap.size + 1, 0, none⟩ = some (.int .i64 o) := by simp [go_sem]
  have c4 : ((((w.alloc (.cells #[.int .i64 N, .int .i64 lo, .int .i64 hi] 26)).alloc (.cells #[.int .i64 o, .int .i64 a] 76)).alloc (.cells #[.int .i64 sn, .int .i64 sd] 29)).alloc (.cells #[.int .i64 bn, .int .i64 bd] 29)).cell? ⟨w.heap.size + 1, 1, none⟩ = some (.int .i64 a) := by simp [go_sem]
  have c5 : ((((w.alloc (.cells #[.int .i64 N, .int .i64 lo, .int .i64 hi] 26)).alloc (.cells #[.int .i64 o, .int .i64 a] 76)).alloc (.cells #[.int .i64 sn, .int .i64 sd] 29)).alloc (.cells #[.int .i64 bn, .int .i64 bd] 29)).cell? ⟨w.heap.size + 1 + 1, 0, none⟩ = some (.int .i64 sn) := by simp [go_sem]
  have c6 : ((((w.alloc (.cells #[.int .i64 N, .int .i64 lo, .int .i64 hi] 26)).alloc (.cells #[.int .i64 o, .int .i64 a] 76)).alloc (.cells #[.int .i64 sn, .int .i64 sd] 29)).alloc (.cells #[.int .i64 bn, .int .i64 bd] 29)).cell? ⟨w.heap.size + 1 + 1, 1, none⟩ = some (.int .i64 sd) := by simp [go_sem]
  have c7 : ((((w.alloc (.cells #[.int .i64 N, .int .i64 lo, .int .i64 hi] 26)).alloc (.cells #[.int .i64 o, .int .i64 a] 76)).alloc (.cells #[.int .i64 sn, .int .i64 sd] 29)).alloc (.cells #[.int .i64 bn, .int .i64 bd] 29)).cell? ⟨w.heap.size + 1 + 1 + 1, 0, none⟩ = some (.int .i64 bn) := by simp [go_sem]
  have c8 : ((((w.alloc (.cells #[.int .i64 N, .int .i64 lo, .int .i64 hi] 26)).alloc (.cells #[.int .i64 o, .int .i64 a] 76)).alloc (.cells #[.int .i64 sn, .int .i64 sd] 29)).alloc (.cells #[.int .i64 bn, .int .i64 bd] 29)).cell? ⟨w.heap.size + 1 + 1 + 1, 1, none⟩ = some (.int .i64 bd) := by simp [go_sem]
  have s1 := Lib.hid (fun (W : World) (h : Below ((((w.alloc (.cells #[.int .i64 N, .int .i64 lo, .int .i64 hi] 26)).alloc (.cells #[.int .i64 o, .int .i64 a] 76)).alloc (.cells #[.int .i64 sn, .int .i64 sd] 29)).alloc (.cells #[.int .i64 bn, .int .i64 bd] 29)).heap.size ((((w.alloc (.cells #[.int .i64 N, .int .i64 lo, .int .i64 hi] 26)).alloc (.cells #[.int .i64 o, .int .i64 a] 76)).alloc (.cells #[.int .i64 sn, .int .i64 sd] 29)).alloc (.cells #[.int .i64 bn, .int .i64 bd] 29)) W) => And.intro (keepsB h c0) ( And.intro (keepsB h c1) ( And.intro (keepsB h c2) ( And.intro (keepsB h c3) ( And.intro (keepsB h c4) ( And.intro (keepsB h c5) ( And.intro (keepsB h c6) ( And.intro (keepsB h c7) (keepsB h c8)))))))))
  have HB0 := Lib.hid hB0
  clear hB0 c0 c1 c2 c3 c4 c5 c6 c7 c8
  go_enter Tryd.func43, Tryd.ntmps43
  go_wp2_with fail
  generalize ((((w.alloc (.cells #[.int .i64 N, .int .i64 lo, .int .i64 hi] 26)).alloc (.cells #[.int .i64 o, .int .i64 a] 76)).alloc (.cells #[.int .i64 sn, .int .i64 sd] 29)).alloc (.cells #[.int .i64 bn, .int .i64 bd] 29)) = W0 at *
  generalize hbb : w.heap.size = bb at *
  have HBB := Lib.hid hbb
  clear hbb
  have hs0 : bb ≤ W0.heap.size := by have h1 := HB0.out.size; have h2 := HBB.out; omega
  refine (begun_ok N lo hi _ hc).mono ?_
  rintro e w1 ⟨hb, mb, kb, cb, rfl, hH, hmb, hhb, hB1⟩
  have HB1 := Lib.hid (HB0.out.trans (hB1.mono hs0))
  have hs1 := hB1.size
  have HH := Lib.hid (And.intro hH (Nat.le_trans hs0 hmb))
  have hF0 := Lib.hid (fun (W : World) (h : Below w1.heap.size w1 W) => And.intro (hH.kept (.of_below h)) (s1.out W (Below.trans hB1 (h.mono hB1.size))))
  obtain ⟨d1_0, d1_1, d1_2, d1_3, d1_4, d1_5, d1_6, d1_7, d1_8⟩ := s1.out w1 hB1
  clear hB1 hH hmb hhb
  go_wp2_with fail
  have hF : ∀ W, Free.Bel w1.drew W → Hold hb N lo hi mb kb cb W ∧ W.cell? ⟨bb, 0, none⟩ = some (.int .i64 N) ∧ W.cell? ⟨bb, 1, none⟩ = some (.int .i64 lo) ∧ W.cell? ⟨bb, 2, none⟩ = some (.int .i64 hi) ∧ W.cell? ⟨bb + 1, 0, none⟩ = some (.int .i64 o) ∧ W.cell? ⟨bb + 1, 1, none⟩ = some (.int .i64 a) ∧ W.cell? ⟨bb + 1 + 1, 0, none⟩ = some (.int .i64 sn) ∧ W.cell? ⟨bb + 1 + 1, 1, none⟩ = some (.int .i64 sd) ∧ W.cell? ⟨bb + 1 + 1 + 1, 0, none⟩ = some (.int .i64 bn) ∧ W.cell? ⟨bb + 1 + 1 + 1, 1, none⟩ = some (.int .i64 bd) := fun W hW => hF0.out W (Free.Bel.first hW)
  refine Free.wp_free (R := Free.Bel) (by kernel_rfl) (by kernel_rfl) Free.Bel.refl Free.Bel.trans ?_
  refine Free.Chain.ex ?_ [] [14] (by kernel_rfl) (by kernel_rfl) rfl Free.Bel.refl ?_ ?_
  rotate_left
  · (intro ev W hb hR hO hD; have hS := hF W hR; obtain ⟨hb1, hb2, hb3⟩ := hb; simp only [Free.AllDeps, Free.AllOuts, Free.At, List.getElem?_cons_succ, List.getElem?_cons_zero, Array.getD_eq_getD_getElem?, List.getElem?_toArray, Option.getD_some, and_true] at hO hD; go_simp; rfl)
  simp only [List.nil_append, List.cons_append]
  refine Free.Chain.ex ?_ [] [7] (by kernel_rfl) (by kernel_rfl) rfl Free.Bel.refl ?_ ?_
  rotate_left
  · (intro ev W hb hR hO hD; have hS := hF W hR; obtain ⟨hb1, hb2, hb3⟩ := hb; simp only [Free.AllDeps, Free.AllOuts, Free.At, List.getElem?_cons_succ, List.getElem?_cons_zero, Array.getD_eq_getD_getElem?, List.getElem?_toArray, Option.getD_some, and_true] at hO hD; go_simp; rfl)
  simp only [List.nil_append, List.cons_append]
  refine Free.Chain.pr (fun v _ => v = .int .i64 x) [(0, 25), (1, 26)] [] (by kernel_rfl) (by kernel_rfl) rfl (fun _ _ _ _ h => h) ?_ ?_
  · (intro ev W hb hR hO hD; have hS := hF W hR; obtain ⟨hb1, hb2, hb3⟩ := hb; simp only [Free.AllDeps, Free.AllOuts, Free.At, List.getElem?_cons_succ, List.getElem?_cons_zero, Array.getD_eq_getD_getElem?, List.getElem?_toArray, Option.getD_some, and_true] at hO hD; go_simp; refine (rule_any hb N o a x _ hS.1.bags hx.out).mono ?_; rintro e W1 ⟨rfl, hB1⟩; exact ⟨_, rfl, hB1, rfl⟩)
  simp only [List.nil_append, List.cons_append]
  refine Free.Chain.ex ?_ [] [14] (by kernel_rfl) (by kernel_rfl) rfl Free.Bel.refl ?_ ?_
  rotate_left
  · (intro ev W hb hR hO hD; have hS := hF W hR; obtain ⟨hb1, hb2, hb3⟩ := hb; simp only [Free.AllDeps, Free.AllOuts, Free.At, List.getElem?_cons_succ, List.getElem?_cons_zero, Array.getD_eq_getD_getElem?, List.getElem?_toArray, Option.getD_some, and_true] at hO hD; go_simp; rfl)
  simp only [List.nil_append, List.cons_append]
  refine Free.Chain.ex ?_ [] [2] (by kernel_rfl) (by kernel_rfl) rfl Free.Bel.refl ?_ ?_
  rotate_left
  · (intro ev W hb hR hO hD; have hS := hF W hR; obtain ⟨hb1, hb2, hb3⟩ := hb; simp only [Free.AllDeps, Free.AllOuts, Free.At, List.getElem?_cons_succ, List.getElem?_cons_zero, Array.getD_eq_getD_getElem?, List.getElem?_toArray, Option.getD_some, and_true] at hO hD; go_simp; rfl)
  simp only [List.nil_append, List.cons_append]
  refine Free.Chain.ex ?_ [] [3] (by kernel_rfl) (by kernel_rfl) rfl Free.Bel.refl ?_ ?_
  rotate_left
  · (intro ev W hb hR hO hD; have hS := hF W hR; obtain ⟨hb1, hb2, hb3⟩ := hb; simp only [Free.AllDeps, Free.AllOuts, Free.At, List.getElem?_cons_succ, List.getElem?_cons_zero, Array.getD_eq_getD_getElem?, List.getElem?_toArray, Option.getD_some, and_true] at hO hD; go_simp; rfl)
  simp only [List.nil_append, List.cons_append]
  refine Free.Chain.ex ?_ [] [10] (by kernel_rfl) (by kernel_rfl) rfl Free.Bel.refl ?_ ?_
  rotate_left
  · (intro ev W hb hR hO hD; have hS := hF W hR; obtain ⟨hb1, hb2, hb3⟩ := hb; simp only [Free.AllDeps, Free.AllOuts, Free.At, List.getElem?_cons_succ, List.getElem?_cons_zero, Array.getD_eq_getD_getElem?, List.getElem?_toArray, Option.getD_some, and_true] at hO hD; go_simp; rfl)
  simp only [List.nil_append, List.cons_append]
  refine Free.Chain.ex ?_ [] [11] (by kernel_rfl) (by kernel_rfl) rfl Free.Bel.refl ?_ ?_
  rotate_left
  · (intro ev W hb hR hO hD; have hS := hF W hR; obtain ⟨hb1, hb2, hb3⟩ := hb; simp only [Free.AllDeps, Free.AllOuts, Free.At, List.getElem?_cons_succ, List.getElem?_cons_zero, Array.getD_eq_getD_getElem?, List.getElem?_toArray, Option.getD_some, and_true] at hO hD; go_simp; rfl)
  simp only [List.nil_append, List.cons_append]
  refine Free.Chain.pr (fun v _ => v = .int .i64 y) [(3, 28), (4, 29), (5, 30), (6, 31), (7, 32), (2, 27)] [] (by kernel_rfl) (by kernel_rfl) rfl (fun _ _ _ _ h => h) ?_ ?_
  · (intro ev W hb hR hO hD; have hS := hF W hR; obtain ⟨hb1, hb2, hb3⟩ := hb; simp only [Free.AllDeps, Free.AllOuts, Free.At, List.getElem?_cons_succ, List.getElem?_cons_zero, Array.getD_eq_getD_getElem?, List.getElem?_toArray, Option.getD_some, and_true] at hO hD; go_simp; refine (risked_any hb lo hi g b sn sd bn bd _ _ _ y _ hS.1.lo hS.1.hi rfl rfl rfl hy.out).mono ?_; rintro e W1 ⟨rfl, hB1⟩; exact ⟨_, rfl, hB1, rfl⟩)
  simp only [List.nil_append, List.cons_append]
  refine Free.Chain.pr (SlI [x, y]) [(2, 27), (8, 33)] [] (by kernel_rfl) (by kernel_rfl) rfl (SlI.stable _) ?_ ?_
  · (intro ev W hb hR hO hD; have hS := hF W hR; obtain ⟨hb1, hb2, hb3⟩ := hb; simp only [Free.AllDeps, Free.AllOuts, Free.At, List.getElem?_cons_succ, List.getElem?_cons_zero, Array.getD_eq_getD_getElem?, List.getElem?_toArray, Option.getD_some, and_true] at hO hD; go_simp; exact ⟨belAlloc _ _, SlI.two _ _ _ _⟩)
  simp only [List.nil_append, List.cons_append]
  refine Free.Chain.pr (fun v _ => v = .int .i64 z) [(9, 34), (8, 33)] [] (by kernel_rfl) (by kernel_rfl) rfl (fun _ _ _ _ h => h) ?_ ?_
  · (intro ev W hb hR hO hD; have hS := hF W hR; obtain ⟨hb1, hb2, hb3⟩ := hb; simp only [Free.AllDeps, Free.AllOuts, Free.At, List.getElem?_cons_succ, List.getElem?_cons_zero, Array.getD_eq_getD_getElem?, List.getElem?_toArray, Option.getD_some, and_true] at hO hD; go_simp; refine (first_sl [x, y] z _ _ (by simp [maxLen]) hz.out hD.1).mono ?_; rintro e W1 ⟨rfl, rfl⟩; exact ⟨_, rfl, Free.Bel.refl _, rfl⟩)
  simp only [List.nil_append, List.cons_append]
  refine Free.Chain.ex ?_ [(10, 35), (10, 35), (0, 25), (1, 26), (2, 27), (3, 28), (4, 29), (5, 30), (6, 31), (7, 32), (8, 33), (9, 34), (10, 35)] [] (by kernel_rfl) (by kernel_rfl) rfl Free.Bel.refl ?_ ?_
  rotate_left
  · (intro ev W hb hR hO hD; have hS := hF W hR; obtain ⟨hb1, hb2, hb3⟩ := hb; simp only [Free.AllDeps, Free.AllOuts, Free.At, List.getElem?_cons_succ, List.getElem?_cons_zero, Array.getD_eq_getD_getElem?, List.getElem?_toArray, Option.getD_some, and_true] at hO hD; go_simp; rfl)
  simp only [List.nil_append, List.cons_append]
  intro xs w' hR hV
  simp only [Free.AllV, Free.At, List.length_cons, List.length_nil, Nat.reduceAdd, List.getElem?_cons_succ, List.getElem?_cons_zero, true_and] at hV
  simp only [Free.putsFrom, Act.put, hV, List.setIfInBounds_toArray, List.set_cons_succ, List.set_cons_zero]
  have HB2 := Lib.hid (HB1.out.trans ((Free.Bel.first hR).mono (Nat.le_trans hs0 hs1)))
  clear hR hV hF
  go_wp2_with fail
  have hbb := HBB.out
  subst hbb
  exact bodyPost_ret (v := .tuple #[.bool false, .int .i64 z]) (by simp [results, Tryd.results43, go_sem]) rfl ⟨rfl, HB2.out⟩

set_option maxRecDepth 100000 in
set_option maxHeartbeats 2000000 in
theorem good_c (N lo hi g b o a sn sd bn bd : Int) (w : World) (q : Bool) (hc : cargoB N lo hi = true) (hd : drawB N o a = true) (he : riskedE lo hi g b sn sd bn bd = 0) (hr : fineB N g b o a sn sd bn bd = q) :
    Calls Tryd.prog 43 #[.agg #[.int .i64 N, .int .i64 lo, .int .i64 hi], .agg #[.int .i64 o, .int .i64 a], .int .i64 g, .int .i64 b, .agg #[.int .i64 sn, .int .i64 sd], .agg #[.int .i64 bn, .int .i64 bd]] w fun e w' => e = .returned (.tuple #[.bool q, .int .i64 0]) ∧ Below w.heap.size w w' := by
  have hN := (cargoB_iff N lo hi).1 hc
  have hD := (drawB_iff N o a).1 hd
  have hM := riskedE_zero he
  have hx : Hid (unlessV (drawB N o a) 13 = 0) := by simp [Hid, unlessV, hd]
  have hy : Hid (riskedE lo hi g b sn sd bn bd = 0) := he
  have hz : Hid (firstE [0, 0] = 0) := by simp [Hid, firstE]
  have hfine := Lib.hid (fun (hb mb kb cb : Nat) (W : World) (hH : Hold hb N lo hi mb kb cb W) => fine_any hb N lo hi g b o a sn sd bn bd mb kb cb q W hH (by omega) (by omega) (by omega) (by omega) hM.2.2.2.1 hM.2.2.2.2 hr)
  clear hN hD hM hd he hr
  have hB0 : Below w.heap.size w ((((w.alloc (.cells #[.int .i64 N, .int .i64 lo, .int .i64 hi] 26)).alloc (.cells #[.int .i64 o, .int .i64 a] 76)).alloc (.cells #[.int .i64 sn, .int .i64 sd] 29)).alloc (.cells #[.int .i64 bn, .int .i64 bd] 29)) := ((((Below.refl _ w).alloc (Nat.le_refl _) _).alloc (by simp) _).alloc (by simp; omega) _).alloc (by simp; omega) _
  have c0 : ((((w.alloc (.cells #[.int .i64 N, .int .i64 lo, .int .i64 hi] 26)).alloc (.cells #[.int .i64 o, .int .i64 a] 76)).alloc (.cells #[.int .i64 sn, .int .i64 sd] 29)).alloc (.cells #[.int .i64 bn, .int .i64 bd] 29)).cell? ⟨w.heap.size, 0, none⟩ = some (.int .i64 N) := by simp [go_sem]
  have c1 : ((((w.alloc (.cells #[.int .i64 N, .int .i64 lo, .int .i64 hi] 26)).alloc (.cells #[.int .i64 o, .int .i64 a] 76)).alloc (.cells #[.int .i64 sn, .int .i64 sd] 29)).alloc (.cells #[.int .i64 bn, .int .i64 bd] 29)).cell? ⟨w.heap.size, 1, none⟩ = some (.int .i64 lo) := by simp [go_sem]
  have c2 : ((((w.alloc (.cells #[.int .i64 N, .int .i64 lo, .int .i64 hi] 26)).alloc (.cells #[.int .i64 o, .int .i64 a] 76)).alloc (.cells #[.int .i64 sn, .int .i64 sd] 29)).alloc (.cells #[.int .i64 bn, .int .i64 bd] 29)).cell? ⟨w.heap.size, 2, none⟩ = some (.int .i64 hi) := by simp [go_sem]
  have c3 : ((((w.alloc (.cells #[.int .i64 N, .int .i64 lo, .int .i64 hi] 26)).alloc (.cells #[.int .i64 o, .int .i64 a] 76)).alloc (.cells #[.int .i64 sn, .int .i64 sd] 29)).alloc (.cells #[.int .i64 bn, .int .i64 bd] 29)).cell? ⟨w.heap.size + 1, 0, none⟩ = some (.int .i64 o) := by simp [go_sem]
  have c4 : ((((w.alloc (.cells #[.int .i64 N, .int .i64 lo, .int .i64 hi] 26)).alloc (.cells #[.int .i64 o, .int .i64 a] 76)).alloc (.cells #[.int .i64 sn, .int .i64 sd] 29)).alloc (.cells #[.int .i64 bn, .int .i64 bd] 29)).cell? ⟨w.heap.size + 1, 1, none⟩ = some (.int .i64 a) := by simp [go_sem]
  have c5 : ((((w.alloc (.cells #[.int .i64 N, .int .i64 lo, .int .i64 hi] 26)).alloc (.cells #[.int .i64 o, .int .i64 a] 76)).alloc (.cells #[.int .i64 sn, .int .i64 sd] 29)).alloc (.cells #[.int .i64 bn, .int .i64 bd] 29)).cell? ⟨w.heap.size + 1 + 1, 0, none⟩ = some (.int .i64 sn) := by simp [go_sem]
  have c6 : ((((w.alloc (.cells #[.int .i64 N, .int .i64 lo, .int .i64 hi] 26)).alloc (.cells #[.int .i64 o, .int .i64 a] 76)).alloc (.cells #[.int .i64 sn, .int .i64 sd] 29)).alloc (.cells #[.int .i64 bn, .int .i64 bd] 29)).cell? ⟨w.heap.size + 1 + 1, 1, none⟩ = some (.int .i64 sd) := by simp [go_sem]
  have c7 : ((((w.alloc (.cells #[.int .i64 N, .int .i64 lo, .int .i64 hi] 26)).alloc (.cells #[.int .i64 o, .int .i64 a] 76)).alloc (.cells #[.int .i64 sn, .int .i64 sd] 29)).alloc (.cells #[.int .i64 bn, .int .i64 bd] 29)).cell? ⟨w.heap.size + 1 + 1 + 1, 0, none⟩ = some (.int .i64 bn) := by simp [go_sem]
  have c8 : ((((w.alloc (.cells #[.int .i64 N, .int .i64 lo, .int .i64 hi] 26)).alloc (.cells #[.int .i64 o, .int .i64 a] 76)).alloc (.cells #[.int .i64 sn, .int .i64 sd] 29)).alloc (.cells #[.int .i64 bn, .int .i64 bd] 29)).cell? ⟨w.heap.size + 1 + 1 + 1, 1, none⟩ = some (.int .i64 bd) := by simp [go_sem]
  have s1 := Lib.hid (fun (W : World) (h : Below ((((w.alloc (.cells #[.int .i64 N, .int .i64 lo, .int .i64 hi] 26)).alloc (.cells #[.int .i64 o, .int .i64 a] 76)).alloc (.cells #[.int .i64 sn, .int .i64 sd] 29)).alloc (.cells #[.int .i64 bn, .int .i64 bd] 29)).heap.size ((((w.alloc (.cells #[.int .i64 N, .int .i64 lo, .int .i64 hi] 26)).alloc (.cells #[.int .i64 o, .int .i64 a] 76)).alloc (.cells #[.int .i64 sn, .int .i64 sd] 29)).alloc (.cells #[.int .i64 bn, .int .i64 bd] 29)) W) => And.intro (keepsB h c0) ( And.intro (keepsB h c1) ( And.intro (keepsB h c2) ( And.intro (keepsB h c3) ( And.intro (keepsB h c4) ( And.intro (keepsB h c5) ( And.intro (keepsB h c6) ( And.intro (keepsB h c7) (keepsB h c8)))))))))
  have HB0 := Lib.hid hB0
  clear hB0 c0 c1 c2 c3 c4 c5 c6 c7 c8
  go_enter Tryd.func43, Tryd.ntmps43
  go_wp2_with fail
  generalize ((((w.alloc (.cells #[.int .i64 N, .int .i64 lo, .int .i64 hi] 26)).alloc (.cells #[.int .i64 o, .int .i64 a] 76)).alloc (.cells #[.int .i64 sn, .int .i64 sd] 29)).alloc (.cells #[.int .i64 bn, .int .i64 bd] 29)) = W0 at *
  generalize hbb : w.heap.size = bb at *
  have HBB := Lib.hid hbb
  clear hbb
  have hs0 : bb ≤ W0.heap.size := by have h1 := HB0.out.size; have h2 := HBB.out; omega
  refine (begun_ok N lo hi _ hc).mono ?_
  rintro e w1 ⟨hb, mb, kb, cb, rfl, hH, hmb, hhb, hB1⟩
  have HB1 := Lib.hid (HB0.out.trans (hB1.mono hs0))
  have hs1 := hB1.size
  have HH := Lib.hid (And.intro hH (Nat.le_trans hs0 hmb))
  have hF0 := Lib.hid (fun (W : World) (h : Below w1.heap.size w1 W) => And.intro (hH.kept (.of_below h)) (s1.out W (Below.trans hB1 (h.mono hB1.size))))
  obtain ⟨d1_0, d1_1, d1_2, d1_3, d1_4, d1_5, d1_6, d1_7, d1_8⟩ := s1.out w1 hB1
  clear hB1 hH hmb hhb
  go_wp2_with fail
  have hF : ∀ W, Free.Bel w1.drew W → Hold hb N lo hi mb kb cb W ∧ W.cell? ⟨bb, 0, none⟩ = some (.int .i64 N) ∧ W.cell? ⟨bb, 1, none⟩ = some (.int .i64 lo) ∧ W.cell? ⟨bb, 2, none⟩ = some (.int .i64 hi) ∧ W.cell? ⟨bb + 1, 0, none⟩ = some (.int .i64 o) ∧ W.cell? ⟨bb + 1, 1, none⟩ = some (.int .i64 a) ∧ W.cell? ⟨bb + 1 + 1, 0, none⟩ = some (.int .i64 sn) ∧ W.cell? ⟨bb + 1 + 1, 1, none⟩ = some (.int .i64 sd) ∧ W.cell? ⟨bb + 1 + 1 + 1, 0, none⟩ = some (.int .i64 bn) ∧ W.cell? ⟨bb + 1 + 1 + 1, 1, none⟩ = some (.int .i64 bd) := fun W hW => hF0.out W (Free.Bel.first hW)
  refine Free.wp_free (R := Free.Bel) (by kernel_rfl) (by kernel_rfl) Free.Bel.refl Free.Bel.trans ?_
  refine Free.Chain.ex ?_ [] [14] (by kernel_rfl) (by kernel_rfl) rfl Free.Bel.refl ?_ ?_
  rotate_left
  · (intro ev W hb hR hO hD; have hS := hF W hR; obtain ⟨hb1, hb2, hb3⟩ := hb; simp only [Free.AllDeps, Free.AllOuts, Free.At, List.getElem?_cons_succ, List.getElem?_cons_zero, Array.getD_eq_getD_getElem?, List.getElem?_toArray, Option.getD_some, and_true] at hO hD; go_simp; rfl)
  simp only [List.nil_append, List.cons_append]
  refine Free.Chain.ex ?_ [] [7] (by kernel_rfl) (by kernel_rfl) rfl Free.Bel.refl ?_ ?_
  rotate_left
  · (intro ev W hb hR hO hD; have hS := hF W hR; obtain ⟨hb1, hb2, hb3⟩ := hb; simp only [Free.AllDeps, Free.AllOuts, Free.At, List.getElem?_cons_succ, List.getElem?_cons_zero, Array.getD_eq_getD_getElem?, List.getElem?_toArray, Option.getD_some, and_true] at hO hD; go_simp; rfl)
  simp only [List.nil_append, List.cons_append]
  refine Free.Chain.pr (fun v _ => v = .int .i64 0) [(0, 25), (1, 26)] [] (by kernel_rfl) (by kernel_rfl) rfl (fun _ _ _ _ h => h) ?_ ?_
  · (intro ev W hb hR hO hD; have hS := hF W hR; obtain ⟨hb1, hb2, hb3⟩ := hb; simp only [Free.AllDeps, Free.AllOuts, Free.At, List.getElem?_cons_succ, List.getElem?_cons_zero, Array.getD_eq_getD_getElem?, List.getElem?_toArray, Option.getD_some, and_true] at hO hD; go_simp; refine (rule_any hb N o a 0 _ hS.1.bags hx.out).mono ?_; rintro e W1 ⟨rfl, hB1⟩; exact ⟨_, rfl, hB1, rfl⟩)
  simp only [List.nil_append, List.cons_append]
  refine Free.Chain.ex ?_ [] [14] (by kernel_rfl) (by kernel_rfl) rfl Free.Bel.refl ?_ ?_
  rotate_left
  · (intro ev W hb hR hO hD; have hS := hF W hR; obtain ⟨hb1, hb2, hb3⟩ := hb; simp only [Free.AllDeps, Free.AllOuts, Free.At, List.getElem?_cons_succ, List.getElem?_cons_zero, Array.getD_eq_getD_getElem?, List.getElem?_toArray, Option.getD_some, and_true] at hO hD; go_simp; rfl)
  simp only [List.nil_append, List.cons_append]
  refine Free.Chain.ex ?_ [] [2] (by kernel_rfl) (by kernel_rfl) rfl Free.Bel.refl ?_ ?_
  rotate_left
  · (intro ev W hb hR hO hD; have hS := hF W hR; obtain ⟨hb1, hb2, hb3⟩ := hb; simp only [Free.AllDeps, Free.AllOuts, Free.At, List.getElem?_cons_succ, List.getElem?_cons_zero, Array.getD_eq_getD_getElem?, List.getElem?_toArray, Option.getD_some, and_true] at hO hD; go_simp; rfl)
  simp only [List.nil_append, List.cons_append]
  refine Free.Chain.ex ?_ [] [3] (by kernel_rfl) (by kernel_rfl) rfl Free.Bel.refl ?_ ?_
  rotate_left
  · (intro ev W hb hR hO hD; have hS := hF W hR; obtain ⟨hb1, hb2, hb3⟩ := hb; simp only [Free.AllDeps, Free.AllOuts, Free.At, List.getElem?_cons_succ, List.getElem?_cons_zero, Array.getD_eq_getD_getElem?, List.getElem?_toArray, Option.getD_some, and_true] at hO hD; go_simp; rfl)
  simp only [List.nil_append, List.cons_append]
  refine Free.Chain.ex ?_ [] [10] (by kernel_rfl) (by kernel_rfl) rfl Free.Bel.refl ?_ ?_
  rotate_left
  · (intro ev W hb hR hO hD; have hS := hF W hR; obtain ⟨hb1, hb2, hb3⟩ := hb; simp only [Free.AllDeps, Free.AllOuts, Free.At, List.getElem?_cons_succ, List.getElem?_cons_zero, Array.getD_eq_getD_getElem?, List.getElem?_toArray, Option.getD_some, and_true] at hO hD; go_simp; rfl)
  simp only [List.nil_append, List.cons_append]
  refine Free.Chain.ex ?_ [] [11] (by kernel_rfl) (by kernel_rfl) rfl Free.Bel.refl ?_ ?_
  rotate_left
  · (intro ev W hb hR hO hD; have hS := hF W hR; obtain ⟨hb1, hb2, hb3⟩ := hb; simp only [Free.AllDeps, Free.AllOuts, Free.At, List.getElem?_cons_succ, List.getElem?_cons_zero, Array.getD_eq_getD_getElem?, List.getElem?_toArray, Option.getD_some, and_true] at hO hD; go_simp; rfl)
  simp only [List.nil_append, List.cons_append]
  refine Free.Chain.pr (fun v _ => v = .int .i64 0) [(3, 28), (4, 29), (5, 30), (6, 31), (7, 32), (2, 27)] [] (by kernel_rfl) (by kernel_rfl) rfl (fun _ _ _ _ h => h) ?_ ?_
  · (intro ev W hb hR hO hD; have hS := hF W hR; obtain ⟨hb1, hb2, hb3⟩ := hb; simp only [Free.AllDeps, Free.AllOuts, Free.At, List.getElem?_cons_succ, List.getElem?_cons_zero, Array.getD_eq_getD_getElem?, List.getElem?_toArray, Option.getD_some, and_true] at hO hD; go_simp; refine (risked_any hb lo hi g b sn sd bn bd _ _ _ 0 _ hS.1.lo hS.1.hi rfl rfl rfl hy.out).mono ?_; rintro e W1 ⟨rfl, hB1⟩; exact ⟨_, rfl, hB1, rfl⟩)
  simp only [List.nil_append, List.cons_append]
  refine Free.Chain.pr (SlI [0, 0]) [(2, 27), (8, 33)] [] (by kernel_rfl) (by kernel_rfl) rfl (SlI.stable _) ?_ ?_
  · (intro ev W hb hR hO hD; have hS := hF W hR; obtain ⟨hb1, hb2, hb3⟩ := hb; simp only [Free.AllDeps, Free.AllOuts, Free.At, List.getElem?_cons_succ, List.getElem?_cons_zero, Array.getD_eq_getD_getElem?, List.getElem?_toArray, Option.getD_some, and_true] at hO hD; go_simp; exact ⟨belAlloc _ _, SlI.two _ _ _ _⟩)
  simp only [List.nil_append, List.cons_append]
  refine Free.Chain.pr (fun v _ => v = .int .i64 0) [(9, 34), (8, 33)] [] (by kernel_rfl) (by kernel_rfl) rfl (fun _ _ _ _ h => h) ?_ ?_
  · (intro ev W hb hR hO hD; have hS := hF W hR; obtain ⟨hb1, hb2, hb3⟩ := hb; simp only [Free.AllDeps, Free.AllOuts, Free.At, List.getElem?_cons_succ, List.getElem?_cons_zero, Array.getD_eq_getD_getElem?, List.getElem?_toArray, Option.getD_some, and_true] at hO hD; go_simp; refine (first_sl [0, 0] 0 _ _ (by simp [maxLen]) hz.out hD.1).mono ?_; rintro e W1 ⟨rfl, rfl⟩; exact ⟨_, rfl, Free.Bel.refl _, rfl⟩)
  simp only [List.nil_append, List.cons_append]
  refine Free.Chain.ex ?_ [(10, 35), (10, 35), (0, 25), (1, 26), (2, 27), (3, 28), (4, 29), (5, 30), (6, 31), (7, 32), (8, 33), (9, 34), (10, 35)] [] (by kernel_rfl) (by kernel_rfl) rfl Free.Bel.refl ?_ ?_
  rotate_left
  · (intro ev W hb hR hO hD; have hS := hF W hR; obtain ⟨hb1, hb2, hb3⟩ := hb; simp only [Free.AllDeps, Free.AllOuts, Free.At, List.getElem?_cons_succ, List.getElem?_cons_zero, Array.getD_eq_getD_getElem?, List.getElem?_toArray, Option.getD_some, and_true] at hO hD; go_simp; rfl)
  simp only [List.nil_append, List.cons_append]
  intro xs w' hR hV
  simp only [Free.AllV, Free.At, List.length_cons, List.length_nil, Nat.reduceAdd, List.getElem?_cons_succ, List.getElem?_cons_zero, true_and] at hV
  simp only [Free.putsFrom, Act.put, hV, List.setIfInBounds_toArray, List.set_cons_succ, List.set_cons_zero]
  have HB2 := Lib.hid (HB1.out.trans ((Free.Bel.first hR).mono (Nat.le_trans hs0 hs1)))
  obtain ⟨hH2, d2_0, d2_1, d2_2, d2_3, d2_4, d2_5, d2_6, d2_7, d2_8⟩ := hF0.out w' (Free.Bel.first hR)
  have HH2 := Lib.hid hH2
  clear hR hV hF hH2
  go_wp2_with fail
  refine (hfine.out hb mb kb cb _ HH2.out).mono ?_
  rintro e w3 ⟨rfl, hK3⟩
  have hbb := HBB.out
  have HB3 := Lib.hid (hK3.below_of HB2.out HH.out.2 (by have h1 := HB2.out.size; omega))
  clear hK3
  go_wp2_with fail
  subst hbb
  exact bodyPost_ret (v := .tuple #[.bool q, .int .i64 0]) (by simp [results, Tryd.results43, go_sem]) rfl ⟨rfl, HB3.out⟩

theorem good_any (N lo hi g b o a sn sd bn bd : Int) (w : World) :
    Calls Tryd.prog 43 #[.agg #[.int .i64 N, .int .i64 lo, .int .i64 hi], .agg #[.int .i64 o, .int .i64 a], .int .i64 g, .int .i64 b, .agg #[.int .i64 sn, .int .i64 sd], .agg #[.int .i64 bn, .int .i64 bd]] w fun e w' => e = .returned (.tuple (if cargoB N lo hi = false then #[.bool false, .int .i64 10] else if goodE N lo hi g b o a sn sd bn bd ≠ 0 then #[.bool false, .int .i64 (goodE N lo hi g b o a sn sd bn bd)] else #[.bool (fineB N g b o a sn sd bn bd), .int .i64 0])) ∧ Below w.heap.size w w' := by
  cases hc : cargoB N lo hi
  · simpa using good_a N lo hi g b o a sn sd bn bd w hc
  · by_cases hz : goodE N lo hi g b o a sn sd bn bd = 0
    · have hd : drawB N o a = true := by
        cases h : drawB N o a
        · simp [goodE, h, unlessV, firstE] at hz
        · rfl
      have he : riskedE lo hi g b sn sd bn bd = 0 := by
        have := hz
        simp only [goodE, hd, unlessV, firstE, if_true] at this
        by_cases h : riskedE lo hi g b sn sd bn bd = 0
        · exact h
        · simp [h] at this
      simpa [hz] using good_c N lo hi g b o a sn sd bn bd w _ hc hd he rfl
    · rw [if_neg (by simp), if_pos hz]
      exact good_b N lo hi g b o a sn sd bn bd w hc _ _ _ rfl rfl rfl (by show (goodE N lo hi g b o a sn sd bn bd != 0) = true; simpa using hz)
end Go.Proofs.YtdiclofeggkjcaaDoor

/- The law about the rule that opens the fewest bags: its walk. -/
namespace Go.Proofs.YtdiclofeggkjcaaDoor
set_option linter.unusedSimpArgs false
set_option linter.unusedVariables false
open Go.RowKit Go.Proofs.YtdiclofeggkjcaaDoor.ML Go.Proofs.YtdiclofeggkjcaaDoor.Samp

theorem riskedE_ok {lo hi g b sn sd bn bd : Int} (h : lo ≤ g ∧ g < b ∧ b ≤ hi) (hs : 1 ≤ sd ∧ sd ≤ 1000 ∧ 0 ≤ sn ∧ sn ≤ sd) (hb : 1 ≤ bd ∧ bd ≤ 1000 ∧ 0 ≤ bn ∧ bn ≤ bd) : riskedE lo hi g b sn sd bn bd = 0 := by
  have h1 : inB lo hi [g, b] = true := by simp [inB]; omega
  have h2 : givenB sn sd = true := (givenB_iff sn sd).2 hs
  have h3 : givenB bn bd = true := (givenB_iff bn bd).2 hb
  simp [riskedE, h1, h2, h3, unlessV, firstE]
  omega
theorem good_ok (N lo hi g b o a sn sd bn bd : Int) (r : Bool) (w : World) (hc : 1 ≤ N ∧ N ≤ 36 ∧ 0 ≤ lo ∧ lo ≤ hi ∧ hi ≤ N) (hd : 0 ≤ o ∧ o ≤ N ∧ 0 ≤ a ∧ a ≤ o) (h : lo ≤ g ∧ g < b ∧ b ≤ hi) (hs : 1 ≤ sd ∧ sd ≤ 1000 ∧ 0 ≤ sn ∧ sn ≤ sd) (hb : 1 ≤ bd ∧ bd ≤ 1000 ∧ 0 ≤ bn ∧ bn ≤ bd) (hr : Hid (fineB N g b o a sn sd bn bd = r)) :
    Calls Tryd.prog 43 #[.agg #[.int .i64 N, .int .i64 lo, .int .i64 hi], i2 o a, .int .i64 g, .int .i64 b, i2 sn sd, i2 bn bd] w fun e w' => e = .returned (.tuple #[.bool r, .int .i64 0]) ∧ Below w.heap.size w w' := by
  have h0 := good_any N lo hi g b o a sn sd bn bd w
  rw [if_neg (by simp [cargoB_ok hc]), if_neg (by simp [goodE, drawB_ok hd, riskedE_ok h hs hb, unlessV, firstE]), hr.out] at h0
  exact h0
theorem least_ok (N lo hi g b sn sd bn bd : Int) (w : World) (hc : 1 ≤ N ∧ N ≤ 36 ∧ 0 ≤ lo ∧ lo ≤ hi ∧ hi ≤ N) (h : lo ≤ g ∧ g < b ∧ b ≤ hi) (hs : 1 ≤ sd ∧ sd ≤ 1000 ∧ 0 ≤ sn ∧ sn ≤ sd) (hb : 1 ≤ bd ∧ bd ≤ 1000 ∧ 0 ≤ bn ∧ bn ≤ bd) :
    Calls Tryd.prog 42 #[.agg #[.int .i64 N, .int .i64 lo, .int .i64 hi], .int .i64 g, .int .i64 b, i2 sn sd, i2 bn bd] w fun e w' => (∃ o a q, e = .returned (.tuple #[i2 o a, .int .i64 q]) ∧ LeastIs (fun o a => fineB N g b o a sn sd bn bd) N o a q) ∧ Below w.heap.size w w' := by
  refine (least_all N lo hi g b sn sd bn bd w).mono ?_
  rintro e w' ⟨⟨o, a, q, he, h0⟩, hB⟩
  rw [LeastAll, if_neg (by simp [cargoB_ok hc]), if_neg (by simp [riskedE_ok h hs hb])] at h0
  exact ⟨⟨o, a, q, he, h0⟩, hB⟩
theorem most_all (N D a : Int) (h0 : 0 ≤ D) (h1 : D ≤ N) (ha : 0 ≤ a) (haN : a ≤ N) : mostI N D N a = if D ≤ a then 1 else 0 := by
  have hw : ∀ k : Nat, waysI N D N k = if (k : Int) = D then 1 else 0 := fun k => by
    by_cases e : (k : Int) = D
    · rw [if_pos e, waysI, e, chI_natT D D h0 h0, chI_natT (N - D) (N - D) (by omega) (by omega), nCk_self, nCk_self]; rfl
    · rw [if_neg e]
      by_cases hz : waysI N D N k = 0
      · exact hz
      · have := ways_ne N D N k h0 h1 hz
        omega
  have key : ∀ n : Nat, fewI N D N n = if D < n then 1 else 0 := by
    intro n
    induction n with
    | zero => rw [if_neg (by omega)]; rfl
    | succ n ih =>
      rw [fewI_succ, ih, hw]
      by_cases h2 : (n : Int) = D
      · rw [if_neg (by omega), if_pos h2, if_pos (by omega)]; rfl
      · by_cases h3 : D < n
        · rw [if_pos h3, if_neg h2, if_pos (by omega)]; rfl
        · rw [if_neg h3, if_neg h2, if_neg (by omega)]; rfl
  rw [mostI_few N D N a ha haN, key]
  by_cases h : D ≤ a
  · rw [if_pos h, if_pos (by omega)]
  · rw [if_neg h, if_neg (by omega)]
/-- The rule that opens all bags is good. -/
theorem fine_all (N g b sn sd bn bd : Int) (hN : 1 ≤ N) (hg : 0 ≤ g) (hgb : g < b) (hb : b ≤ N) (hs : 1 ≤ sd ∧ 0 ≤ sn) (hbb : 1 ≤ bd ∧ 0 ≤ bn) : fineB N g b N g sn sd bn bd = true := by
  have hc : chI N N = 1 := by rw [chI_natT N N (by omega) (by omega), nCk_self]; rfl
  unfold fineB
  rw [most_all N g g hg (by omega) hg (by omega), most_all N b g (by omega) hb hg (by omega), if_pos (Int.le_refl _), if_neg (by omega), hc]
  simp
  omega

set_option maxRecDepth 100000 in
set_option maxHeartbeats 8000000 in
theorem leastL_walk (N lo hi x1 x2 sl by0 op ac : Int) (w : World) (hT : TabD w) (hx1 : 0 ≤ x1 ∧ x1 ≤ 255) (hx2 : 0 ≤ x2 ∧ x2 ≤ 255) (hsl : 0 ≤ sl ∧ sl ≤ 65535) (hby : 0 ≤ by0 ∧ by0 ≤ 65535) (hop : 0 ≤ op ∧ op ≤ 255) (hac : 0 ≤ ac ∧ ac ≤ 255) :
    Calls Tryd.prog 13 #[.agg #[.int .i64 N, .int .i64 lo, .int .i64 hi], .int .u8 x1, .int .u8 x2, .int .u16 sl, .int .u16 by0, .int .u8 op, .int .u8 ac] w fun e w' => e = .returned (.bool true) ∧ Below w.heap.size w w' := by
  have hB0 : Below w.heap.size w (w.alloc (.cells #[.int .i64 N, .int .i64 lo, .int .i64 hi] 26)) := (Below.refl _ w).alloc (Nat.le_refl _) _
  have c0_0 : (w.alloc (.cells #[.int .i64 N, .int .i64 lo, .int .i64 hi] 26)).cell? ⟨w.heap.size, 0, none⟩ = some (.int .i64 N) := by simp [go_sem]
  have c0_1 : (w.alloc (.cells #[.int .i64 N, .int .i64 lo, .int .i64 hi] 26)).cell? ⟨w.heap.size, 1, none⟩ = some (.int .i64 lo) := by simp [go_sem]
  have c0_2 : (w.alloc (.cells #[.int .i64 N, .int .i64 lo, .int .i64 hi] 26)).cell? ⟨w.heap.size, 2, none⟩ = some (.int .i64 hi) := by simp [go_sem]
  have t0 := keepsB hB0 hT.1
  have t1 := keepsB hB0 hT.2.1
  have t2 := keepsB hB0 hT.2.2
  clear hT
  go_enter Tryd.func13, Tryd.ntmps13
  go_wp2_with fail
  refine (alive_any _ (tabD_mk t0 t1 t2)).mono ?_
  rintro e w1 ⟨rfl, hB1⟩
  have hBz : Below w.heap.size w w1 := hB0.trans (hB1.mono (by simp))
  have hzz : w.heap.size ≤ w1.heap.size := hBz.size
  have hzn : w.heap.size + 1 ≤ w1.heap.size := by have := hB1.size; simp at this; omega
  have kc0_0 := keepsB hB1 c0_0
  have kc0_1 := keepsB hB1 c0_1
  have kc0_2 := keepsB hB1 c0_2
  have kt0 := keepsB hB1 t0
  have kt1 := keepsB hB1 t1
  have kt2 := keepsB hB1 t2
  clear hB0 hB1 t0 t1 t2 c0_0 c0_1 c0_2
  generalize hbb : w.heap.size = bb at *
  have HBB := Lib.hid hbb
  clear hbb
  have HB_w1 := Lib.hid (show Below bb w w1 from hBz)
  have hz_w1 : bb ≤ w1.heap.size := hzz
  have FA : ∀ W, Free.Bel w1 W → W.cell? ⟨0, 0, none⟩ = some (dblF 130) ∧ W.cell? ⟨0, 1, none⟩ = some (dblF 131) ∧ W.cell? ⟨0, 2, none⟩ = some (dblF 132) ∧ W.cell? ⟨bb, 0, none⟩ = some (.int .i64 N) ∧ W.cell? ⟨bb, 1, none⟩ = some (.int .i64 lo) ∧ W.cell? ⟨bb, 2, none⟩ = some (.int .i64 hi) ∧ bb + 1 ≤ W.heap.size ∧ bb ≤ W.heap.size := fun W hW => ⟨keepsB hW kt0, keepsB hW kt1, keepsB hW kt2, keepsB hW kc0_0, keepsB hW kc0_1, keepsB hW kc0_2, Nat.le_trans hzn hW.size, Nat.le_trans hz_w1 hW.size⟩
  have KR : Free.Bel w1 w1 := Free.Bel.refl _
  clear hBz hzz kt0 kt1 kt2 kc0_0 kc0_1 kc0_2 hzn
  go_wp2_with fail
  cases hc0 : cargoB N lo hi
  · have HC0 := hc0
    refine (cargoR_any N lo hi false _ hc0).mono ?_
    rintro e w2 ⟨rfl, hB⟩
    have HB_w2 := Lib.hid (HB_w1.out.trans ((hB).mono hz_w1))
    have hz_w2 : bb ≤ w2.heap.size := Nat.le_trans hz_w1 (hB).size
    have FN : ∀ W, Free.Bel w2 W → W.cell? ⟨0, 0, none⟩ = some (dblF 130) ∧ W.cell? ⟨0, 1, none⟩ = some (dblF 131) ∧ W.cell? ⟨0, 2, none⟩ = some (dblF 132) ∧ W.cell? ⟨bb, 0, none⟩ = some (.int .i64 N) ∧ W.cell? ⟨bb, 1, none⟩ = some (.int .i64 lo) ∧ W.cell? ⟨bb, 2, none⟩ = some (.int .i64 hi) ∧ bb + 1 ≤ W.heap.size ∧ bb ≤ W.heap.size := fun W hW => by
      obtain ⟨a0, a1, a2, a3, a4, a5, a6, a7⟩ := FA W (Free.Bel.trans _ _ _ (hB) hW)
      exact ⟨a0, a1, a2, a3, a4, a5, a6, a7⟩
    clear FA HB_w1 hz_w1 KR
    have FA := FN
    clear FN
    have KR : Free.Bel w2 w2 := Free.Bel.refl _
    clear hB
    go_wp2_with fail
    go_ret
    have hbb := HBB.out
    subst hbb
    exact ⟨rfl, HB_w2.out⟩
  · have hc := (cargoB_iff N lo hi).1 hc0
    refine (cargoR_any N lo hi true _ hc0).mono ?_
    rintro e w3 ⟨rfl, hB⟩
    have HB_w3 := Lib.hid (HB_w1.out.trans ((hB).mono hz_w1))
    have hz_w3 : bb ≤ w3.heap.size := Nat.le_trans hz_w1 (hB).size
    have FN : ∀ W, Free.Bel w3 W → W.cell? ⟨0, 0, none⟩ = some (dblF 130) ∧ W.cell? ⟨0, 1, none⟩ = some (dblF 131) ∧ W.cell? ⟨0, 2, none⟩ = some (dblF 132) ∧ W.cell? ⟨bb, 0, none⟩ = some (.int .i64 N) ∧ W.cell? ⟨bb, 1, none⟩ = some (.int .i64 lo) ∧ W.cell? ⟨bb, 2, none⟩ = some (.int .i64 hi) ∧ bb + 1 ≤ W.heap.size ∧ bb ≤ W.heap.size := fun W hW => by
      obtain ⟨a0, a1, a2, a3, a4, a5, a6, a7⟩ := FA W (Free.Bel.trans _ _ _ (hB) hW)
      exact ⟨a0, a1, a2, a3, a4, a5, a6, a7⟩
    clear FA HB_w1 hz_w1 KR
    have FA := FN
    clear FN
    have KR : Free.Bel w3 w3 := Free.Bel.refl _
    clear hB
    clear hc0
    by_cases hlh : lo = hi
    · have k0 : (lo == hi) = true := by simp [hlh]
      go_wp2_with fail
      go_ret
      have hbb := HBB.out
      subst hbb
      exact ⟨rfl, HB_w3.out⟩
    · have k0 : (lo == hi) = false := by simp [hlh]
      have v1 : IntKind.i64.wrap (hi - lo) = hi - lo := IntWalk.i64_in _ (by omega)
      have v2 : (hi - lo != 0) = true := by simp; omega
      have v2b : ¬ (hi - lo = 0) := by omega
      have mr10 : 0 ≤ x1 % (hi - lo) := Int.emod_nonneg _ (by omega)
      have mr11 : x1 % (hi - lo) < (hi - lo) := Int.emod_lt_of_pos _ (by omega)
      have cr1 : IntKind.i64.wrap x1 = x1 := IntWalk.i64_in _ (by omega)
      have dr1 : x1.tmod (hi - lo) = x1 % (hi - lo) := Int.tmod_eq_emod_of_nonneg (by omega)
      obtain ⟨r1, hr1⟩ : ∃ v9, x1 % (hi - lo) = v9 := ⟨_, rfl⟩
      rw [hr1] at mr10 mr11 dr1
      clear hr1
      have er1 : IntKind.i64.wrap r1 = r1 := IntWalk.i64_in _ (by omega)
      have v3 : IntKind.i64.wrap (lo + r1) = lo + r1 := IntWalk.i64_in _ (by omega)
      obtain ⟨g, hg⟩ : ∃ v9, lo + r1 = v9 := ⟨_, rfl⟩
      have hgb : lo ≤ g ∧ g < hi := by omega
      rw [hg] at v3
      have v3 : IntKind.i64.wrap (lo + r1) = g := by rw [hg]; exact v3
      have v4 : IntKind.i64.wrap (g + 1) = g + 1 := IntWalk.i64_in _ (by omega)
      have v5 : IntKind.i64.wrap (hi - g) = hi - g := IntWalk.i64_in _ (by omega)
      have v6 : (hi - g != 0) = true := by simp; omega
      have v6b : ¬ (hi - g = 0) := by omega
      have mr20 : 0 ≤ x2 % (hi - g) := Int.emod_nonneg _ (by omega)
      have mr21 : x2 % (hi - g) < (hi - g) := Int.emod_lt_of_pos _ (by omega)
      have cr2 : IntKind.i64.wrap x2 = x2 := IntWalk.i64_in _ (by omega)
      have dr2 : x2.tmod (hi - g) = x2 % (hi - g) := Int.tmod_eq_emod_of_nonneg (by omega)
      obtain ⟨r2, hr2⟩ : ∃ v9, x2 % (hi - g) = v9 := ⟨_, rfl⟩
      rw [hr2] at mr20 mr21 dr2
      clear hr2
      have er2 : IntKind.i64.wrap r2 = r2 := IntWalk.i64_in _ (by omega)
      obtain ⟨b, hb⟩ : ∃ v9, g + 1 + r2 = v9 := ⟨_, rfl⟩
      have hbb : g < b ∧ b ≤ hi := by omega
      have v7 : IntKind.i64.wrap (g + 1 + r2) = b := by rw [hb]; exact IntWalk.i64_in _ (by omega)
      have msn0 : 0 ≤ sl % 1001 := Int.emod_nonneg _ (by omega)
      have msn1 : sl % 1001 < 1001 := Int.emod_lt_of_pos _ (by omega)
      have csn : IntKind.i64.wrap sl = sl := IntWalk.i64_in _ (by omega)
      have dsn : sl.tmod 1001 = sl % 1001 := Int.tmod_eq_emod_of_nonneg (by omega)
      obtain ⟨sn, hsn⟩ : ∃ v9, sl % 1001 = v9 := ⟨_, rfl⟩
      rw [hsn] at msn0 msn1 dsn
      clear hsn
      have esn : IntKind.i64.wrap sn = sn := IntWalk.i64_in _ (by omega)
      have mbn0 : 0 ≤ by0 % 1001 := Int.emod_nonneg _ (by omega)
      have mbn1 : by0 % 1001 < 1001 := Int.emod_lt_of_pos _ (by omega)
      have cbn : IntKind.i64.wrap by0 = by0 := IntWalk.i64_in _ (by omega)
      have dbn : by0.tmod 1001 = by0 % 1001 := Int.tmod_eq_emod_of_nonneg (by omega)
      obtain ⟨bn, hbn⟩ : ∃ v9, by0 % 1001 = v9 := ⟨_, rfl⟩
      rw [hbn] at mbn0 mbn1 dbn
      clear hbn
      have ebn : IntKind.i64.wrap bn = bn := IntWalk.i64_in _ (by omega)
      clear hg hb
      go_wp2_with fail
      obtain ⟨z0, z1, z2, z3, z4, z5, z6, z7⟩ := FA w3 (Free.Bel.refl _)
      go_quiet (fail)
      clear z0 z1 z2 z3 z4 z5 z6 z7
      generalize hqe : World.drewN w3 _ = w4 at *
      have hN : Free.Bel w3 w4 := by rw [← hqe]; exact belDrewN (Below.refl _ _) _
      clear hqe
      have HB_w4 := Lib.hid (HB_w3.out.trans ((hN).mono hz_w3))
      have hz_w4 : bb ≤ w4.heap.size := Nat.le_trans hz_w3 (hN).size
      have FN : ∀ W, Free.Bel w4 W → W.cell? ⟨0, 0, none⟩ = some (dblF 130) ∧ W.cell? ⟨0, 1, none⟩ = some (dblF 131) ∧ W.cell? ⟨0, 2, none⟩ = some (dblF 132) ∧ W.cell? ⟨bb, 0, none⟩ = some (.int .i64 N) ∧ W.cell? ⟨bb, 1, none⟩ = some (.int .i64 lo) ∧ W.cell? ⟨bb, 2, none⟩ = some (.int .i64 hi) ∧ bb + 1 ≤ W.heap.size ∧ bb ≤ W.heap.size := fun W hW => by
        obtain ⟨a0, a1, a2, a3, a4, a5, a6, a7⟩ := FA W (Free.Bel.trans _ _ _ (hN) hW)
        exact ⟨a0, a1, a2, a3, a4, a5, a6, a7⟩
      clear FA HB_w3 hz_w3 KR
      have FA := FN
      clear FN
      have KR : Free.Bel w4 w4 := Free.Bel.refl _
      clear hN
      go_wp2_with fail
      refine (partL_any sn 1000 _).mono ?_
      rintro e w5 ⟨rfl, hB⟩
      have HB_w5 := Lib.hid (HB_w4.out.trans ((hB).mono hz_w4))
      have hz_w5 : bb ≤ w5.heap.size := Nat.le_trans hz_w4 (hB).size
      have FN : ∀ W, Free.Bel w5 W → W.cell? ⟨0, 0, none⟩ = some (dblF 130) ∧ W.cell? ⟨0, 1, none⟩ = some (dblF 131) ∧ W.cell? ⟨0, 2, none⟩ = some (dblF 132) ∧ W.cell? ⟨bb, 0, none⟩ = some (.int .i64 N) ∧ W.cell? ⟨bb, 1, none⟩ = some (.int .i64 lo) ∧ W.cell? ⟨bb, 2, none⟩ = some (.int .i64 hi) ∧ bb + 1 ≤ W.heap.size ∧ bb ≤ W.heap.size := fun W hW => by
        obtain ⟨a0, a1, a2, a3, a4, a5, a6, a7⟩ := FA W (Free.Bel.trans _ _ _ (hB) hW)
        exact ⟨a0, a1, a2, a3, a4, a5, a6, a7⟩
      clear FA HB_w4 hz_w4 KR
      have FA := FN
      clear FN
      have KR : Free.Bel w5 w5 := Free.Bel.refl _
      clear hB
      go_wp2_with fail
      refine (partL_any bn 1000 _).mono ?_
      rintro e w6 ⟨rfl, hB⟩
      have HB_w6 := Lib.hid (HB_w5.out.trans ((hB).mono hz_w5))
      have hz_w6 : bb ≤ w6.heap.size := Nat.le_trans hz_w5 (hB).size
      have FN : ∀ W, Free.Bel w6 W → W.cell? ⟨0, 0, none⟩ = some (dblF 130) ∧ W.cell? ⟨0, 1, none⟩ = some (dblF 131) ∧ W.cell? ⟨0, 2, none⟩ = some (dblF 132) ∧ W.cell? ⟨bb, 0, none⟩ = some (.int .i64 N) ∧ W.cell? ⟨bb, 1, none⟩ = some (.int .i64 lo) ∧ W.cell? ⟨bb, 2, none⟩ = some (.int .i64 hi) ∧ bb + 1 ≤ W.heap.size ∧ bb ≤ W.heap.size := fun W hW => by
        obtain ⟨a0, a1, a2, a3, a4, a5, a6, a7⟩ := FA W (Free.Bel.trans _ _ _ (hB) hW)
        exact ⟨a0, a1, a2, a3, a4, a5, a6, a7⟩
      clear FA HB_w5 hz_w5 KR
      have FA := FN
      clear FN
      have KR : Free.Bel w6 w6 := Free.Bel.refl _
      clear hB
      have KA0 : Free.Bel w6 (w6.alloc (.cells #[.int .i64 sn, .int .i64 1000] 29)) := Bel.allocT (Free.Bel.refl _) _
      have KA1 : Free.Bel w6 ((w6.alloc (.cells #[.int .i64 sn, .int .i64 1000] 29)).alloc (.cells #[.int .i64 bn, .int .i64 1000] 29)) := Bel.allocT KA0 _
      go_wp2_with fail
      clear KA0 KA1
      have hN : Free.Bel w6 ((w6.alloc (.cells #[.int .i64 sn, .int .i64 1000] 29)).alloc (.cells #[.int .i64 bn, .int .i64 1000] 29)) := (Bel.allocT (Bel.allocT (Free.Bel.refl w6) _) _)
      have n_g60_0 : ((w6.alloc (.cells #[.int .i64 sn, .int .i64 1000] 29)).alloc (.cells #[.int .i64 bn, .int .i64 1000] 29)).cell? ⟨w6.heap.size, 0, none⟩ = some (.int .i64 sn) := by simp [go_sem]
      have n_g60_1 : ((w6.alloc (.cells #[.int .i64 sn, .int .i64 1000] 29)).alloc (.cells #[.int .i64 bn, .int .i64 1000] 29)).cell? ⟨w6.heap.size, 1, none⟩ = some (.int .i64 1000) := by simp [go_sem]
      have n_g61_0 : ((w6.alloc (.cells #[.int .i64 sn, .int .i64 1000] 29)).alloc (.cells #[.int .i64 bn, .int .i64 1000] 29)).cell? ⟨w6.heap.size + 1, 0, none⟩ = some (.int .i64 bn) := by simp [go_sem]
      have n_g61_1 : ((w6.alloc (.cells #[.int .i64 sn, .int .i64 1000] 29)).alloc (.cells #[.int .i64 bn, .int .i64 1000] 29)).cell? ⟨w6.heap.size + 1, 1, none⟩ = some (.int .i64 1000) := by simp [go_sem]
      generalize ((w6.alloc (.cells #[.int .i64 sn, .int .i64 1000] 29)).alloc (.cells #[.int .i64 bn, .int .i64 1000] 29)) = w7 at *
      obtain ⟨g60, hgz⟩ : ∃ x, x = w6.heap.size := ⟨_, rfl⟩
      rw [← hgz] at n_g60_0 n_g60_1 n_g61_0 n_g61_1 ⊢
      clear hgz
      have HB_w7 := Lib.hid (HB_w6.out.trans ((hN).mono hz_w6))
      have hz_w7 : bb ≤ w7.heap.size := Nat.le_trans hz_w6 (hN).size
      have FN : ∀ W, Free.Bel w7 W → W.cell? ⟨0, 0, none⟩ = some (dblF 130) ∧ W.cell? ⟨0, 1, none⟩ = some (dblF 131) ∧ W.cell? ⟨0, 2, none⟩ = some (dblF 132) ∧ W.cell? ⟨bb, 0, none⟩ = some (.int .i64 N) ∧ W.cell? ⟨bb, 1, none⟩ = some (.int .i64 lo) ∧ W.cell? ⟨bb, 2, none⟩ = some (.int .i64 hi) ∧ bb + 1 ≤ W.heap.size ∧ bb ≤ W.heap.size ∧ W.cell? ⟨g60, 0, none⟩ = some (.int .i64 sn) ∧ W.cell? ⟨g60, 1, none⟩ = some (.int .i64 1000) ∧ W.cell? ⟨g60 + 1, 0, none⟩ = some (.int .i64 bn) ∧ W.cell? ⟨g60 + 1, 1, none⟩ = some (.int .i64 1000) := fun W hW => by
        obtain ⟨a0, a1, a2, a3, a4, a5, a6, a7⟩ := FA W (Free.Bel.trans _ _ _ (hN) hW)
        exact ⟨a0, a1, a2, a3, a4, a5, a6, a7, keepsB hW n_g60_0, keepsB hW n_g60_1, keepsB hW n_g61_0, keepsB hW n_g61_1⟩
      clear FA HB_w6 hz_w6 KR
      have FA := FN
      clear FN
      have KR : Free.Bel w7 w7 := Free.Bel.refl _
      clear hN n_g60_0 n_g60_1 n_g61_0 n_g61_1
      refine (least_ok N lo hi g b sn 1000 bn 1000 _ hc (by omega) (by omega) (by omega)).mono ?_
      rintro e w8 ⟨⟨o, a, e0, rfl, hL⟩, hB⟩
      have HB_w8 := Lib.hid (HB_w7.out.trans ((hB).mono hz_w7))
      have hz_w8 : bb ≤ w8.heap.size := Nat.le_trans hz_w7 (hB).size
      have FN : ∀ W, Free.Bel w8 W → W.cell? ⟨0, 0, none⟩ = some (dblF 130) ∧ W.cell? ⟨0, 1, none⟩ = some (dblF 131) ∧ W.cell? ⟨0, 2, none⟩ = some (dblF 132) ∧ W.cell? ⟨bb, 0, none⟩ = some (.int .i64 N) ∧ W.cell? ⟨bb, 1, none⟩ = some (.int .i64 lo) ∧ W.cell? ⟨bb, 2, none⟩ = some (.int .i64 hi) ∧ bb + 1 ≤ W.heap.size ∧ bb ≤ W.heap.size ∧ W.cell? ⟨g60, 0, none⟩ = some (.int .i64 sn) ∧ W.cell? ⟨g60, 1, none⟩ = some (.int .i64 1000) ∧ W.cell? ⟨g60 + 1, 0, none⟩ = some (.int .i64 bn) ∧ W.cell? ⟨g60 + 1, 1, none⟩ = some (.int .i64 1000) := fun W hW => by
        obtain ⟨a0, a1, a2, a3, a4, a5, a6, a7, a8, a9, a10, a11⟩ := FA W (Free.Bel.trans _ _ _ (hB) hW)
        exact ⟨a0, a1, a2, a3, a4, a5, a6, a7, a8, a9, a10, a11⟩
      clear FA HB_w7 hz_w7 KR
      have FA := FN
      clear FN
      have KR : Free.Bel w8 w8 := Free.Bel.refl _
      clear hB
      have hfa := fine_all N g b sn 1000 bn 1000 (by omega) (by omega) (by omega) (by omega) (by omega) (by omega)
      have hfa2 := fine_all N g b 0 1 0 1 (by omega) (by omega) (by omega) (by omega) (by omega) (by omega)
      rcases hL with ⟨rfl, ha0, hao, hoN, hP, hsm, hsm2⟩ | ⟨_, _, _, hno⟩
      rotate_left
      · have := hno N g (by omega) (by omega) (Int.le_refl _)
        simp only at this
        rw [hfa] at this
        cases this
      have HP := Lib.hid hP
      have HFA := Lib.hid hfa2
      have HSM := Lib.hid (And.intro hsm hsm2)
      clear hfa hfa2 hP hsm hsm2
      have d1 : decide (o < 0) = false := decide_eq_false (by omega)
      have d2 : decide (N < o) = false := decide_eq_false (by omega)
      have KA0 : Free.Bel w8 (w8.alloc (.cells #[.int .i64 o, .int .i64 a] 76)) := Bel.allocT (Free.Bel.refl _) _
      go_wp2_with fail
      clear KA0
      have hN : Free.Bel w8 (w8.alloc (.cells #[.int .i64 o, .int .i64 a] 76)) := (Bel.allocT (Free.Bel.refl w8) _)
      have n_g80_0 : (w8.alloc (.cells #[.int .i64 o, .int .i64 a] 76)).cell? ⟨w8.heap.size, 0, none⟩ = some (.int .i64 o) := by simp [go_sem]
      have n_g80_1 : (w8.alloc (.cells #[.int .i64 o, .int .i64 a] 76)).cell? ⟨w8.heap.size, 1, none⟩ = some (.int .i64 a) := by simp [go_sem]
      generalize (w8.alloc (.cells #[.int .i64 o, .int .i64 a] 76)) = w9 at *
      obtain ⟨g80, hgz⟩ : ∃ x, x = w8.heap.size := ⟨_, rfl⟩
      rw [← hgz] at n_g80_0 n_g80_1 ⊢
      clear hgz
      have HB_w9 := Lib.hid (HB_w8.out.trans ((hN).mono hz_w8))
      have hz_w9 : bb ≤ w9.heap.size := Nat.le_trans hz_w8 (hN).size
      have FN : ∀ W, Free.Bel w9 W → W.cell? ⟨0, 0, none⟩ = some (dblF 130) ∧ W.cell? ⟨0, 1, none⟩ = some (dblF 131) ∧ W.cell? ⟨0, 2, none⟩ = some (dblF 132) ∧ W.cell? ⟨bb, 0, none⟩ = some (.int .i64 N) ∧ W.cell? ⟨bb, 1, none⟩ = some (.int .i64 lo) ∧ W.cell? ⟨bb, 2, none⟩ = some (.int .i64 hi) ∧ bb + 1 ≤ W.heap.size ∧ bb ≤ W.heap.size ∧ W.cell? ⟨g60, 0, none⟩ = some (.int .i64 sn) ∧ W.cell? ⟨g60, 1, none⟩ = some (.int .i64 1000) ∧ W.cell? ⟨g60 + 1, 0, none⟩ = some (.int .i64 bn) ∧ W.cell? ⟨g60 + 1, 1, none⟩ = some (.int .i64 1000) ∧ W.cell? ⟨g80, 0, none⟩ = some (.int .i64 o) ∧ W.cell? ⟨g80, 1, none⟩ = some (.int .i64 a) := fun W hW => by
        obtain ⟨a0, a1, a2, a3, a4, a5, a6, a7, a8, a9, a10, a11⟩ := FA W (Free.Bel.trans _ _ _ (hN) hW)
        exact ⟨a0, a1, a2, a3, a4, a5, a6, a7, a8, a9, a10, a11, keepsB hW n_g80_0, keepsB hW n_g80_1⟩
      clear FA HB_w8 hz_w8 KR
      have FA := FN
      clear FN
      have KR : Free.Bel w9 w9 := Free.Bel.refl _
      clear hN n_g80_0 n_g80_1
      refine (good_ok N lo hi g b o a sn 1000 bn 1000 true _ hc (by omega) (by omega) (by omega) (by omega) HP).mono ?_
      rintro e w10 ⟨rfl, hB⟩
      have HB_w10 := Lib.hid (HB_w9.out.trans ((hB).mono hz_w9))
      have hz_w10 : bb ≤ w10.heap.size := Nat.le_trans hz_w9 (hB).size
      have FN : ∀ W, Free.Bel w10 W → W.cell? ⟨0, 0, none⟩ = some (dblF 130) ∧ W.cell? ⟨0, 1, none⟩ = some (dblF 131) ∧ W.cell? ⟨0, 2, none⟩ = some (dblF 132) ∧ W.cell? ⟨bb, 0, none⟩ = some (.int .i64 N) ∧ W.cell? ⟨bb, 1, none⟩ = some (.int .i64 lo) ∧ W.cell? ⟨bb, 2, none⟩ = some (.int .i64 hi) ∧ bb + 1 ≤ W.heap.size ∧ bb ≤ W.heap.size ∧ W.cell? ⟨g60, 0, none⟩ = some (.int .i64 sn) ∧ W.cell? ⟨g60, 1, none⟩ = some (.int .i64 1000) ∧ W.cell? ⟨g60 + 1, 0, none⟩ = some (.int .i64 bn) ∧ W.cell? ⟨g60 + 1, 1, none⟩ = some (.int .i64 1000) ∧ W.cell? ⟨g80, 0, none⟩ = some (.int .i64 o) ∧ W.cell? ⟨g80, 1, none⟩ = some (.int .i64 a) := fun W hW => by
        obtain ⟨a0, a1, a2, a3, a4, a5, a6, a7, a8, a9, a10, a11, a12, a13⟩ := FA W (Free.Bel.trans _ _ _ (hB) hW)
        exact ⟨a0, a1, a2, a3, a4, a5, a6, a7, a8, a9, a10, a11, a12, a13⟩
      clear FA HB_w9 hz_w9 KR
      have FA := FN
      clear FN
      have KR : Free.Bel w10 w10 := Free.Bel.refl _
      clear hB
      go_wp2_with fail
      have hF : ∀ W, Free.Bel w10.drew W → Free.Bel w10 W := fun W hW => Free.Bel.trans _ _ _ (Bel.drewT (Free.Bel.refl _)) hW
      refine Free.wp_free (R := Free.Bel) (by kernel_rfl) (by kernel_rfl) Free.Bel.refl Free.Bel.trans ?_
      refine Free.Chain.ex ?_ [] [7] (by kernel_rfl) (by kernel_rfl) rfl Free.Bel.refl ?_ ?_
      rotate_left
      · (intro ev W hb hR hO hD; have hS := hF W hR; obtain ⟨hb1, hb2, hb3⟩ := hb; simp only [Free.AllDeps, Free.AllOuts, Free.At, List.getElem?_cons_succ, List.getElem?_cons_zero, Array.getD_eq_getD_getElem?, List.getElem?_toArray, Option.getD_some, and_true] at hO hD; go_simp; rfl)
      simp only [List.nil_append, List.cons_append]
      refine Free.Chain.ex ?_ [] [7] (by kernel_rfl) (by kernel_rfl) rfl Free.Bel.refl ?_ ?_
      rotate_left
      · (intro ev W hb hR hO hD; have hS := hF W hR; obtain ⟨hb1, hb2, hb3⟩ := hb; simp only [Free.AllDeps, Free.AllOuts, Free.At, List.getElem?_cons_succ, List.getElem?_cons_zero, Array.getD_eq_getD_getElem?, List.getElem?_toArray, Option.getD_some, and_true] at hO hD; go_simp; rfl)
      simp only [List.nil_append, List.cons_append]
      refine Free.Chain.ex ?_ [(1, 110)] [] (by kernel_rfl) (by kernel_rfl) rfl Free.Bel.refl ?_ ?_
      rotate_left
      · (intro ev W hb hR hO hD; have hS := hF W hR; obtain ⟨hb1, hb2, hb3⟩ := hb; simp only [Free.AllDeps, Free.AllOuts, Free.At, List.getElem?_cons_succ, List.getElem?_cons_zero, Array.getD_eq_getD_getElem?, List.getElem?_toArray, Option.getD_some, and_true] at hO hD; go_simp; rfl)
      simp only [List.nil_append, List.cons_append]
      refine Free.Chain.ex ?_ [] [16] (by kernel_rfl) (by kernel_rfl) rfl Free.Bel.refl ?_ ?_
      rotate_left
      · (intro ev W hb hR hO hD; have hS := hF W hR; obtain ⟨hb1, hb2, hb3⟩ := hb; simp only [Free.AllDeps, Free.AllOuts, Free.At, List.getElem?_cons_succ, List.getElem?_cons_zero, Array.getD_eq_getD_getElem?, List.getElem?_toArray, Option.getD_some, and_true] at hO hD; go_simp; rfl)
      simp only [List.nil_append, List.cons_append]
      refine Free.Chain.ex ?_ [(2, 111), (3, 112)] [] (by kernel_rfl) (by kernel_rfl) rfl Free.Bel.refl ?_ ?_
      rotate_left
      · (intro ev W hb hR hO hD; have hS := hF W hR; obtain ⟨hb1, hb2, hb3⟩ := hb; simp only [Free.AllDeps, Free.AllOuts, Free.At, List.getElem?_cons_succ, List.getElem?_cons_zero, Array.getD_eq_getD_getElem?, List.getElem?_toArray, Option.getD_some, and_true] at hO hD; go_simp; rfl)
      simp only [List.nil_append, List.cons_append]
      refine Free.Chain.ex ?_ [] [16] (by kernel_rfl) (by kernel_rfl) rfl Free.Bel.refl ?_ ?_
      rotate_left
      · (intro ev W hb hR hO hD; have hS := hF W hR; obtain ⟨hb1, hb2, hb3⟩ := hb; simp only [Free.AllDeps, Free.AllOuts, Free.At, List.getElem?_cons_succ, List.getElem?_cons_zero, Array.getD_eq_getD_getElem?, List.getElem?_toArray, Option.getD_some, and_true] at hO hD; go_simp; rfl)
      simp only [List.nil_append, List.cons_append]
      refine Free.Chain.ex ?_ [] [17] (by kernel_rfl) (by kernel_rfl) rfl Free.Bel.refl ?_ ?_
      rotate_left
      · (intro ev W hb hR hO hD; have hS := hF W hR; obtain ⟨hb1, hb2, hb3⟩ := hb; simp only [Free.AllDeps, Free.AllOuts, Free.At, List.getElem?_cons_succ, List.getElem?_cons_zero, Array.getD_eq_getD_getElem?, List.getElem?_toArray, Option.getD_some, and_true] at hO hD; go_simp; rfl)
      simp only [List.nil_append, List.cons_append]
      refine Free.Chain.pr (fun v _ => v = i2 0 1) [] [] (by kernel_rfl) (by kernel_rfl) rfl (fun _ _ _ _ h => h) ?_ ?_
      · (intro ev W hb hR hO hD; have hS := hF W hR; obtain ⟨hb1, hb2, hb3⟩ := hb; simp only [Free.AllDeps, Free.AllOuts, Free.At, List.getElem?_cons_succ, List.getElem?_cons_zero, Array.getD_eq_getD_getElem?, List.getElem?_toArray, Option.getD_some, and_true] at hO hD; go_simp; refine yields_enter ?_; (with_reducible refine (partL_any 0 1 _).mono ?_); rintro e W2 ⟨rfl, hB2⟩; exact ⟨_, rfl, hB2, rfl⟩)
      simp only [List.nil_append, List.cons_append]
      refine Free.Chain.pr (fun v _ => v = i2 0 1) [(7, 116)] [] (by kernel_rfl) (by kernel_rfl) rfl (fun _ _ _ _ h => h) ?_ ?_
      · (intro ev W hb hR hO hD; have hS := hF W hR; obtain ⟨hb1, hb2, hb3⟩ := hb; simp only [Free.AllDeps, Free.AllOuts, Free.At, List.getElem?_cons_succ, List.getElem?_cons_zero, Array.getD_eq_getD_getElem?, List.getElem?_toArray, Option.getD_some, and_true] at hO hD; go_simp; refine yields_enter ?_; (with_reducible refine (partL_any 0 1 _).mono ?_); rintro e W2 ⟨rfl, hB2⟩; exact ⟨_, rfl, hB2, rfl⟩)
      simp only [List.nil_append, List.cons_append]
      refine Free.Chain.pr (fun v _ => v = .tuple #[.bool true, .int .i64 0]) [(0, 109), (4, 113), (5, 114), (6, 115), (7, 116), (8, 117), (8, 117)] [] (by kernel_rfl) (by kernel_rfl) rfl (fun _ _ _ _ h => h) ?_ ?_
      · (intro ev W hb hR hO hD; have hS := hF W hR; obtain ⟨hb1, hb2, hb3⟩ := hb; simp only [Free.AllDeps, Free.AllOuts, Free.At, List.getElem?_cons_succ, List.getElem?_cons_zero, Array.getD_eq_getD_getElem?, List.getElem?_toArray, Option.getD_some, and_true] at hO hD; go_simp; refine yields_enter ?_; (with_reducible refine (good_ok N lo hi g b N g 0 1 0 1 true _ hc ⟨(show (0 : Int) ≤ N from by omega), Int.le_refl _, (show (0 : Int) ≤ g from by omega), (show g ≤ N from by omega)⟩ ⟨hgb.1, hbb.1, hbb.2⟩ (by decide) (by decide) HFA).mono ?_); rintro e W2 ⟨rfl, hB2⟩; exact ⟨_, rfl, hB2, rfl⟩)
      simp only [List.nil_append, List.cons_append]
      refine Free.Chain.ex ?_ [(9, 118)] [] (by kernel_rfl) (by kernel_rfl) rfl Free.Bel.refl ?_ ?_
      rotate_left
      · (intro ev W hb hR hO hD; have hS := hF W hR; obtain ⟨hb1, hb2, hb3⟩ := hb; simp only [Free.AllDeps, Free.AllOuts, Free.At, List.getElem?_cons_succ, List.getElem?_cons_zero, Array.getD_eq_getD_getElem?, List.getElem?_toArray, Option.getD_some, and_true] at hO hD; go_simp; rfl)
      simp only [List.nil_append, List.cons_append]
      refine Free.Chain.ex ?_ [(10, 108)] [] (by kernel_rfl) (by kernel_rfl) rfl Free.Bel.refl ?_ ?_
      rotate_left
      · (intro ev W hb hR hO hD; have hS := hF W hR; obtain ⟨hb1, hb2, hb3⟩ := hb; simp only [Free.AllDeps, Free.AllOuts, Free.At, List.getElem?_cons_succ, List.getElem?_cons_zero, Array.getD_eq_getD_getElem?, List.getElem?_toArray, Option.getD_some, and_true] at hO hD; go_simp; rfl)
      simp only [List.nil_append, List.cons_append]
      refine Free.Chain.ex ?_ [(10, 108)] [] (by kernel_rfl) (by kernel_rfl) rfl Free.Bel.refl ?_ ?_
      rotate_left
      · (intro ev W hb hR hO hD; have hS := hF W hR; obtain ⟨hb1, hb2, hb3⟩ := hb; simp only [Free.AllDeps, Free.AllOuts, Free.At, List.getElem?_cons_succ, List.getElem?_cons_zero, Array.getD_eq_getD_getElem?, List.getElem?_toArray, Option.getD_some, and_true] at hO hD; go_simp; rfl)
      simp only [List.nil_append, List.cons_append]
      refine Free.Chain.ex ?_ [(11, 119), (9, 118), (0, 109), (1, 110), (2, 111), (3, 112), (4, 113), (5, 114), (6, 115), (7, 116), (8, 117), (9, 118), (10, 108), (11, 119)] [] (by kernel_rfl) (by kernel_rfl) rfl Free.Bel.refl ?_ ?_
      rotate_left
      · (intro ev W hb hR hO hD; have hS := hF W hR; obtain ⟨hb1, hb2, hb3⟩ := hb; simp only [Free.AllDeps, Free.AllOuts, Free.At, List.getElem?_cons_succ, List.getElem?_cons_zero, Array.getD_eq_getD_getElem?, List.getElem?_toArray, Option.getD_some, and_true] at hO hD; go_simp; rfl)
      simp only [List.nil_append, List.cons_append]
      refine Free.Chain.ex ?_ [(12, 120), (13, 24), (0, 109), (1, 110), (2, 111), (3, 112), (4, 113), (5, 114), (6, 115), (7, 116), (8, 117), (9, 118), (10, 108), (11, 119), (12, 120), (13, 24)] [] (by kernel_rfl) (by kernel_rfl) rfl Free.Bel.refl ?_ ?_
      rotate_left
      · (intro ev W hb hR hO hD; have hS := hF W hR; obtain ⟨hb1, hb2, hb3⟩ := hb; simp only [Free.AllDeps, Free.AllOuts, Free.At, List.getElem?_cons_succ, List.getElem?_cons_zero, Array.getD_eq_getD_getElem?, List.getElem?_toArray, Option.getD_some, and_true] at hO hD; go_simp; rfl)
      simp only [List.nil_append, List.cons_append]
      intro xs w11 hR hV
      simp only [Free.AllV, Free.At, List.length_cons, List.length_nil, Nat.reduceAdd, List.getElem?_cons_succ, List.getElem?_cons_zero, true_and, and_true] at hV
      simp only [Free.putsFrom, Act.put, Nat.zero_add, Nat.reduceAdd, hV, List.setIfInBounds_toArray, List.set_cons_succ, List.set_cons_zero]
      have hN := hF w11 hR
      clear hR hF
      have HB_w11 := Lib.hid (HB_w10.out.trans ((hN).mono hz_w10))
      have hz_w11 : bb ≤ w11.heap.size := Nat.le_trans hz_w10 (hN).size
      have FN : ∀ W, Free.Bel w11 W → W.cell? ⟨0, 0, none⟩ = some (dblF 130) ∧ W.cell? ⟨0, 1, none⟩ = some (dblF 131) ∧ W.cell? ⟨0, 2, none⟩ = some (dblF 132) ∧ W.cell? ⟨bb, 0, none⟩ = some (.int .i64 N) ∧ W.cell? ⟨bb, 1, none⟩ = some (.int .i64 lo) ∧ W.cell? ⟨bb, 2, none⟩ = some (.int .i64 hi) ∧ bb + 1 ≤ W.heap.size ∧ bb ≤ W.heap.size ∧ W.cell? ⟨g60, 0, none⟩ = some (.int .i64 sn) ∧ W.cell? ⟨g60, 1, none⟩ = some (.int .i64 1000) ∧ W.cell? ⟨g60 + 1, 0, none⟩ = some (.int .i64 bn) ∧ W.cell? ⟨g60 + 1, 1, none⟩ = some (.int .i64 1000) ∧ W.cell? ⟨g80, 0, none⟩ = some (.int .i64 o) ∧ W.cell? ⟨g80, 1, none⟩ = some (.int .i64 a) := fun W hW => by
        obtain ⟨a0, a1, a2, a3, a4, a5, a6, a7, a8, a9, a10, a11, a12, a13⟩ := FA W (Free.Bel.trans _ _ _ (hN) hW)
        exact ⟨a0, a1, a2, a3, a4, a5, a6, a7, a8, a9, a10, a11, a12, a13⟩
      clear FA HB_w10 hz_w10 KR
      have FA := FN
      clear FN
      have KR : Free.Bel w11 w11 := Free.Bel.refl _
      clear hN hV
      have v8 : IntKind.i64.wrap (o + 1) = o + 1 := IntWalk.i64_in _ (by omega)
      have v9 : (o + 1 != 0) = true := by simp; omega
      have v9b : ¬ (o + 1 = 0) := by omega
      have mxo0 : 0 ≤ op % (o + 1) := Int.emod_nonneg _ (by omega)
      have mxo1 : op % (o + 1) < (o + 1) := Int.emod_lt_of_pos _ (by omega)
      have cxo : IntKind.i64.wrap op = op := IntWalk.i64_in _ (by omega)
      have dxo : op.tmod (o + 1) = op % (o + 1) := Int.tmod_eq_emod_of_nonneg (by omega)
      obtain ⟨xo, hxo⟩ : ∃ v9, op % (o + 1) = v9 := ⟨_, rfl⟩
      rw [hxo] at mxo0 mxo1 dxo
      clear hxo
      have exo : IntKind.i64.wrap xo = xo := IntWalk.i64_in _ (by omega)
      have v10 : IntKind.i64.wrap (xo + 1) = xo + 1 := IntWalk.i64_in _ (by omega)
      have v11 : (xo + 1 != 0) = true := by simp; omega
      have v11b : ¬ (xo + 1 = 0) := by omega
      have mxa0 : 0 ≤ ac % (xo + 1) := Int.emod_nonneg _ (by omega)
      have mxa1 : ac % (xo + 1) < (xo + 1) := Int.emod_lt_of_pos _ (by omega)
      have cxa : IntKind.i64.wrap ac = ac := IntWalk.i64_in _ (by omega)
      have dxa : ac.tmod (xo + 1) = ac % (xo + 1) := Int.tmod_eq_emod_of_nonneg (by omega)
      obtain ⟨xa, hxa⟩ : ∃ v9, ac % (xo + 1) = v9 := ⟨_, rfl⟩
      rw [hxa] at mxa0 mxa1 dxa
      clear hxa
      have exa : IntKind.i64.wrap xa = xa := IntWalk.i64_in _ (by omega)
      have KA0 : Free.Bel w11 (w11.alloc (.cells #[.int .i64 xo, .int .i64 xa] 76)) := Bel.allocT (Free.Bel.refl _) _
      go_wp2_with fail
      clear KA0
      have hN : Free.Bel w11 (w11.alloc (.cells #[.int .i64 xo, .int .i64 xa] 76)) := (Bel.allocT (Free.Bel.refl w11) _)
      have n_g110_0 : (w11.alloc (.cells #[.int .i64 xo, .int .i64 xa] 76)).cell? ⟨w11.heap.size, 0, none⟩ = some (.int .i64 xo) := by simp [go_sem]
      have n_g110_1 : (w11.alloc (.cells #[.int .i64 xo, .int .i64 xa] 76)).cell? ⟨w11.heap.size, 1, none⟩ = some (.int .i64 xa) := by simp [go_sem]
      generalize (w11.alloc (.cells #[.int .i64 xo, .int .i64 xa] 76)) = w12 at *
      obtain ⟨g110, hgz⟩ : ∃ x, x = w11.heap.size := ⟨_, rfl⟩
      rw [← hgz] at n_g110_0 n_g110_1 ⊢
      clear hgz
      have HB_w12 := Lib.hid (HB_w11.out.trans ((hN).mono hz_w11))
      have hz_w12 : bb ≤ w12.heap.size := Nat.le_trans hz_w11 (hN).size
      have FN : ∀ W, Free.Bel w12 W → W.cell? ⟨0, 0, none⟩ = some (dblF 130) ∧ W.cell? ⟨0, 1, none⟩ = some (dblF 131) ∧ W.cell? ⟨0, 2, none⟩ = some (dblF 132) ∧ W.cell? ⟨bb, 0, none⟩ = some (.int .i64 N) ∧ W.cell? ⟨bb, 1, none⟩ = some (.int .i64 lo) ∧ W.cell? ⟨bb, 2, none⟩ = some (.int .i64 hi) ∧ bb + 1 ≤ W.heap.size ∧ bb ≤ W.heap.size ∧ W.cell? ⟨g60, 0, none⟩ = some (.int .i64 sn) ∧ W.cell? ⟨g60, 1, none⟩ = some (.int .i64 1000) ∧ W.cell? ⟨g60 + 1, 0, none⟩ = some (.int .i64 bn) ∧ W.cell? ⟨g60 + 1, 1, none⟩ = some (.int .i64 1000) ∧ W.cell? ⟨g80, 0, none⟩ = some (.int .i64 o) ∧ W.cell? ⟨g80, 1, none⟩ = some (.int .i64 a) ∧ W.cell? ⟨g110, 0, none⟩ = some (.int .i64 xo) ∧ W.cell? ⟨g110, 1, none⟩ = some (.int .i64 xa) := fun W hW => by
        obtain ⟨a0, a1, a2, a3, a4, a5, a6, a7, a8, a9, a10, a11, a12, a13⟩ := FA W (Free.Bel.trans _ _ _ (hN) hW)
        exact ⟨a0, a1, a2, a3, a4, a5, a6, a7, a8, a9, a10, a11, a12, a13, keepsB hW n_g110_0, keepsB hW n_g110_1⟩
      clear FA HB_w11 hz_w11 KR
      have FA := FN
      clear FN
      have KR : Free.Bel w12 w12 := Free.Bel.refl _
      clear hN n_g110_0 n_g110_1
      obtain ⟨so, hso⟩ : ∃ so, fineB N g b xo xa sn 1000 bn 1000 = so := ⟨_, rfl⟩
      have HSO := Lib.hid hso
      obtain ⟨p1, q1, hpq⟩ : ∃ p q, mostV N g xo xa = i2 p q := ⟨_, _, rfl⟩
      obtain ⟨p2, q2, hrs⟩ : ∃ p q, mostV N b xo xa = i2 p q := ⟨_, _, rfl⟩
      have ml := mostI_le N g xo xa (by omega) (by omega) (by omega) (by omega)
      have ml2 := mostI_le N b xo xa (by omega) (by omega) (by omega) (by omega)
      have cp := chI_pos N xo (by omega) (by omega) (by omega) (by omega)
      have hfb : so = (decide ((chI N xo - mostI N g xo xa) * 1000 ≤ chI N xo * sn) && decide (mostI N b xo xa * 1000 ≤ chI N xo * bn)) := by rw [← hso]; rfl
      have o1 := over_spec _ _ p1 q1 ml.1 ml.2 (by omega) hpq
      have o2 := over_spec _ _ p2 q2 ml2.1 ml2.2 (by omega) hrs
      have HP1 := Lib.hid hpq
      have HP2 := Lib.hid hrs
      have HO1 := Lib.hid (show partV (mostI N g xo xa).toNat (chI N xo).toNat = .agg #[.int .i64 p1, .int .i64 q1] from hpq)
      have HO2 := Lib.hid (show partV (mostI N b xo xa).toNat (chI N xo).toNat = .agg #[.int .i64 p2, .int .i64 q2] from hrs)
      obtain ⟨al, hal⟩ : ∃ x, chI N xo = x := ⟨_, rfl⟩
      obtain ⟨m1, hm1⟩ : ∃ x, mostI N g xo xa = x := ⟨_, rfl⟩
      obtain ⟨m2, hm2⟩ : ∃ x, mostI N b xo xa = x := ⟨_, rfl⟩
      have HAL := Lib.hid hal
      rw [hal, hm1] at ml HO1 o1
      rw [hal, hm2] at ml2 HO2 o2
      rw [hal] at cp
      rw [hal, hm1, hm2] at hfb
      have d3 : decide (q1 < 1) = false := decide_eq_false (by omega)
      have d4 : decide (q2 < 1) = false := decide_eq_false (by omega)
      clear hpq hrs hal hm1 hm2 hso o1 o2
      have z1 : 0 ≤ (al - m1) * 1000 ∧ (al - m1) * 1000 ≤ 68719476736 * 1000 := by omega
      have z2 : 0 ≤ al * sn := Int.mul_nonneg (by omega) (by omega)
      have z3 : al * sn ≤ 68719476736 * 1000 := Int.mul_le_mul (by omega) (by omega) (by omega) (by omega)
      have z4 : 0 ≤ al * bn := Int.mul_nonneg (by omega) (by omega)
      have z5 : al * bn ≤ 68719476736 * 1000 := Int.mul_le_mul (by omega) (by omega) (by omega) (by omega)
      have u1 : IntKind.i64.wrap (al - m1) = al - m1 := IntWalk.i64_in _ (by omega)
      have u2 : IntKind.i64.wrap ((al - m1) * 1000) = (al - m1) * 1000 := IntWalk.i64_in _ (by omega)
      have u3 : IntKind.i64.wrap (al * sn) = al * sn := IntWalk.i64_in _ (by omega)
      have u4 : IntKind.i64.wrap (al * bn) = al * bn := IntWalk.i64_in _ (by omega)
      have u5 : IntKind.i64.wrap (m2 * 1000) = m2 * 1000 := IntWalk.i64_in _ (by omega)
      have hlast : so = true → xo = o ∧ a ≤ xa := fun h => by
        have h2 := HSO.out
        rw [h] at h2
        have h3 : ¬ xo < o := fun h4 => by
          have := HSM.out.1 xo xa (by omega) (by omega) h4
          rw [h2] at this
          cases this
        have h5 : xo = o := by omega
        refine ⟨h5, ?_⟩
        by_cases h6 : a ≤ xa
        · exact h6
        · have := HSM.out.2 xa (by omega) (by omega)
          rw [← h5, h2] at this
          cases this
      refine (good_ok N lo hi g b xo xa sn 1000 bn 1000 so _ hc (by omega) (by omega) (by omega) (by omega) HSO).mono ?_
      rintro e w13 ⟨rfl, hB⟩
      have HB_w13 := Lib.hid (HB_w12.out.trans ((hB).mono hz_w12))
      have hz_w13 : bb ≤ w13.heap.size := Nat.le_trans hz_w12 (hB).size
      have FN : ∀ W, Free.Bel w13 W → W.cell? ⟨0, 0, none⟩ = some (dblF 130) ∧ W.cell? ⟨0, 1, none⟩ = some (dblF 131) ∧ W.cell? ⟨0, 2, none⟩ = some (dblF 132) ∧ W.cell? ⟨bb, 0, none⟩ = some (.int .i64 N) ∧ W.cell? ⟨bb, 1, none⟩ = some (.int .i64 lo) ∧ W.cell? ⟨bb, 2, none⟩ = some (.int .i64 hi) ∧ bb + 1 ≤ W.heap.size ∧ bb ≤ W.heap.size ∧ W.cell? ⟨g60, 0, none⟩ = some (.int .i64 sn) ∧ W.cell? ⟨g60, 1, none⟩ = some (.int .i64 1000) ∧ W.cell? ⟨g60 + 1, 0, none⟩ = some (.int .i64 bn) ∧ W.cell? ⟨g60 + 1, 1, none⟩ = some (.int .i64 1000) ∧ W.cell? ⟨g80, 0, none⟩ = some (.int .i64 o) ∧ W.cell? ⟨g80, 1, none⟩ = some (.int .i64 a) ∧ W.cell? ⟨g110, 0, none⟩ = some (.int .i64 xo) ∧ W.cell? ⟨g110, 1, none⟩ = some (.int .i64 xa) := fun W hW => by
        obtain ⟨a0, a1, a2, a3, a4, a5, a6, a7, a8, a9, a10, a11, a12, a13, a14, a15⟩ := FA W (Free.Bel.trans _ _ _ (hB) hW)
        exact ⟨a0, a1, a2, a3, a4, a5, a6, a7, a8, a9, a10, a11, a12, a13, a14, a15⟩
      clear FA HB_w12 hz_w12 KR
      have FA := FN
      clear FN
      have KR : Free.Bel w13 w13 := Free.Bel.refl _
      clear hB
      go_wp2_with fail
      refine (accept_ok N lo hi g xo xa p1 q1 _ hc (by omega) (by omega) HP1).mono ?_
      rintro e w14 ⟨rfl, hB⟩
      have HB_w14 := Lib.hid (HB_w13.out.trans ((hB).mono hz_w13))
      have hz_w14 : bb ≤ w14.heap.size := Nat.le_trans hz_w13 (hB).size
      have FN : ∀ W, Free.Bel w14 W → W.cell? ⟨0, 0, none⟩ = some (dblF 130) ∧ W.cell? ⟨0, 1, none⟩ = some (dblF 131) ∧ W.cell? ⟨0, 2, none⟩ = some (dblF 132) ∧ W.cell? ⟨bb, 0, none⟩ = some (.int .i64 N) ∧ W.cell? ⟨bb, 1, none⟩ = some (.int .i64 lo) ∧ W.cell? ⟨bb, 2, none⟩ = some (.int .i64 hi) ∧ bb + 1 ≤ W.heap.size ∧ bb ≤ W.heap.size ∧ W.cell? ⟨g60, 0, none⟩ = some (.int .i64 sn) ∧ W.cell? ⟨g60, 1, none⟩ = some (.int .i64 1000) ∧ W.cell? ⟨g60 + 1, 0, none⟩ = some (.int .i64 bn) ∧ W.cell? ⟨g60 + 1, 1, none⟩ = some (.int .i64 1000) ∧ W.cell? ⟨g80, 0, none⟩ = some (.int .i64 o) ∧ W.cell? ⟨g80, 1, none⟩ = some (.int .i64 a) ∧ W.cell? ⟨g110, 0, none⟩ = some (.int .i64 xo) ∧ W.cell? ⟨g110, 1, none⟩ = some (.int .i64 xa) := fun W hW => by
        obtain ⟨a0, a1, a2, a3, a4, a5, a6, a7, a8, a9, a10, a11, a12, a13, a14, a15⟩ := FA W (Free.Bel.trans _ _ _ (hB) hW)
        exact ⟨a0, a1, a2, a3, a4, a5, a6, a7, a8, a9, a10, a11, a12, a13, a14, a15⟩
      clear FA HB_w13 hz_w13 KR
      have FA := FN
      clear FN
      have KR : Free.Bel w14 w14 := Free.Bel.refl _
      clear hB
      have KA0 : Free.Bel w14 (w14.alloc (.cells #[.int .i64 p1, .int .i64 q1] 29)) := Bel.allocT (Free.Bel.refl _) _
      go_wp2_with fail
      clear KA0
      have hN : Free.Bel w14 (w14.alloc (.cells #[.int .i64 p1, .int .i64 q1] 29)) := (Bel.allocT (Free.Bel.refl w14) _)
      have n_g140_0 : (w14.alloc (.cells #[.int .i64 p1, .int .i64 q1] 29)).cell? ⟨w14.heap.size, 0, none⟩ = some (.int .i64 p1) := by simp [go_sem]
      have n_g140_1 : (w14.alloc (.cells #[.int .i64 p1, .int .i64 q1] 29)).cell? ⟨w14.heap.size, 1, none⟩ = some (.int .i64 q1) := by simp [go_sem]
      generalize (w14.alloc (.cells #[.int .i64 p1, .int .i64 q1] 29)) = w15 at *
      obtain ⟨g140, hgz⟩ : ∃ x, x = w14.heap.size := ⟨_, rfl⟩
      rw [← hgz] at n_g140_0 n_g140_1 ⊢
      clear hgz
      have HB_w15 := Lib.hid (HB_w14.out.trans ((hN).mono hz_w14))
      have hz_w15 : bb ≤ w15.heap.size := Nat.le_trans hz_w14 (hN).size
      have FN : ∀ W, Free.Bel w15 W → W.cell? ⟨0, 0, none⟩ = some (dblF 130) ∧ W.cell? ⟨0, 1, none⟩ = some (dblF 131) ∧ W.cell? ⟨0, 2, none⟩ = some (dblF 132) ∧ W.cell? ⟨bb, 0, none⟩ = some (.int .i64 N) ∧ W.cell? ⟨bb, 1, none⟩ = some (.int .i64 lo) ∧ W.cell? ⟨bb, 2, none⟩ = some (.int .i64 hi) ∧ bb + 1 ≤ W.heap.size ∧ bb ≤ W.heap.size ∧ W.cell? ⟨g60, 0, none⟩ = some (.int .i64 sn) ∧ W.cell? ⟨g60, 1, none⟩ = some (.int .i64 1000) ∧ W.cell? ⟨g60 + 1, 0, none⟩ = some (.int .i64 bn) ∧ W.cell? ⟨g60 + 1, 1, none⟩ = some (.int .i64 1000) ∧ W.cell? ⟨g80, 0, none⟩ = some (.int .i64 o) ∧ W.cell? ⟨g80, 1, none⟩ = some (.int .i64 a) ∧ W.cell? ⟨g110, 0, none⟩ = some (.int .i64 xo) ∧ W.cell? ⟨g110, 1, none⟩ = some (.int .i64 xa) ∧ W.cell? ⟨g140, 0, none⟩ = some (.int .i64 p1) ∧ W.cell? ⟨g140, 1, none⟩ = some (.int .i64 q1) := fun W hW => by
        obtain ⟨a0, a1, a2, a3, a4, a5, a6, a7, a8, a9, a10, a11, a12, a13, a14, a15⟩ := FA W (Free.Bel.trans _ _ _ (hN) hW)
        exact ⟨a0, a1, a2, a3, a4, a5, a6, a7, a8, a9, a10, a11, a12, a13, a14, a15, keepsB hW n_g140_0, keepsB hW n_g140_1⟩
      clear FA HB_w14 hz_w14 KR
      have FA := FN
      clear FN
      have KR : Free.Bel w15 w15 := Free.Bel.refl _
      clear hN n_g140_0 n_g140_1
      refine (accept_ok N lo hi b xo xa p2 q2 _ hc (by omega) (by omega) HP2).mono ?_
      rintro e w16 ⟨rfl, hB⟩
      have HB_w16 := Lib.hid (HB_w15.out.trans ((hB).mono hz_w15))
      have hz_w16 : bb ≤ w16.heap.size := Nat.le_trans hz_w15 (hB).size
      have FN : ∀ W, Free.Bel w16 W → W.cell? ⟨0, 0, none⟩ = some (dblF 130) ∧ W.cell? ⟨0, 1, none⟩ = some (dblF 131) ∧ W.cell? ⟨0, 2, none⟩ = some (dblF 132) ∧ W.cell? ⟨bb, 0, none⟩ = some (.int .i64 N) ∧ W.cell? ⟨bb, 1, none⟩ = some (.int .i64 lo) ∧ W.cell? ⟨bb, 2, none⟩ = some (.int .i64 hi) ∧ bb + 1 ≤ W.heap.size ∧ bb ≤ W.heap.size ∧ W.cell? ⟨g60, 0, none⟩ = some (.int .i64 sn) ∧ W.cell? ⟨g60, 1, none⟩ = some (.int .i64 1000) ∧ W.cell? ⟨g60 + 1, 0, none⟩ = some (.int .i64 bn) ∧ W.cell? ⟨g60 + 1, 1, none⟩ = some (.int .i64 1000) ∧ W.cell? ⟨g80, 0, none⟩ = some (.int .i64 o) ∧ W.cell? ⟨g80, 1, none⟩ = some (.int .i64 a) ∧ W.cell? ⟨g110, 0, none⟩ = some (.int .i64 xo) ∧ W.cell? ⟨g110, 1, none⟩ = some (.int .i64 xa) ∧ W.cell? ⟨g140, 0, none⟩ = some (.int .i64 p1) ∧ W.cell? ⟨g140, 1, none⟩ = some (.int .i64 q1) := fun W hW => by
        obtain ⟨a0, a1, a2, a3, a4, a5, a6, a7, a8, a9, a10, a11, a12, a13, a14, a15, a16, a17⟩ := FA W (Free.Bel.trans _ _ _ (hB) hW)
        exact ⟨a0, a1, a2, a3, a4, a5, a6, a7, a8, a9, a10, a11, a12, a13, a14, a15, a16, a17⟩
      clear FA HB_w15 hz_w15 KR
      have FA := FN
      clear FN
      have KR : Free.Bel w16 w16 := Free.Bel.refl _
      clear hB
      have KA0 : Free.Bel w16 (w16.alloc (.cells #[.int .i64 p2, .int .i64 q2] 29)) := Bel.allocT (Free.Bel.refl _) _
      go_wp2_with fail
      clear KA0
      have hN : Free.Bel w16 (w16.alloc (.cells #[.int .i64 p2, .int .i64 q2] 29)) := (Bel.allocT (Free.Bel.refl w16) _)
      have n_g160_0 : (w16.alloc (.cells #[.int .i64 p2, .int .i64 q2] 29)).cell? ⟨w16.heap.size, 0, none⟩ = some (.int .i64 p2) := by simp [go_sem]
      have n_g160_1 : (w16.alloc (.cells #[.int .i64 p2, .int .i64 q2] 29)).cell? ⟨w16.heap.size, 1, none⟩ = some (.int .i64 q2) := by simp [go_sem]
      generalize (w16.alloc (.cells #[.int .i64 p2, .int .i64 q2] 29)) = w17 at *
      obtain ⟨g160, hgz⟩ : ∃ x, x = w16.heap.size := ⟨_, rfl⟩
      rw [← hgz] at n_g160_0 n_g160_1 ⊢
      clear hgz
      have HB_w17 := Lib.hid (HB_w16.out.trans ((hN).mono hz_w16))
      have hz_w17 : bb ≤ w17.heap.size := Nat.le_trans hz_w16 (hN).size
      have FN : ∀ W, Free.Bel w17 W → W.cell? ⟨0, 0, none⟩ = some (dblF 130) ∧ W.cell? ⟨0, 1, none⟩ = some (dblF 131) ∧ W.cell? ⟨0, 2, none⟩ = some (dblF 132) ∧ W.cell? ⟨bb, 0, none⟩ = some (.int .i64 N) ∧ W.cell? ⟨bb, 1, none⟩ = some (.int .i64 lo) ∧ W.cell? ⟨bb, 2, none⟩ = some (.int .i64 hi) ∧ bb + 1 ≤ W.heap.size ∧ bb ≤ W.heap.size ∧ W.cell? ⟨g60, 0, none⟩ = some (.int .i64 sn) ∧ W.cell? ⟨g60, 1, none⟩ = some (.int .i64 1000) ∧ W.cell? ⟨g60 + 1, 0, none⟩ = some (.int .i64 bn) ∧ W.cell? ⟨g60 + 1, 1, none⟩ = some (.int .i64 1000) ∧ W.cell? ⟨g80, 0, none⟩ = some (.int .i64 o) ∧ W.cell? ⟨g80, 1, none⟩ = some (.int .i64 a) ∧ W.cell? ⟨g110, 0, none⟩ = some (.int .i64 xo) ∧ W.cell? ⟨g110, 1, none⟩ = some (.int .i64 xa) ∧ W.cell? ⟨g140, 0, none⟩ = some (.int .i64 p1) ∧ W.cell? ⟨g140, 1, none⟩ = some (.int .i64 q1) ∧ W.cell? ⟨g160, 0, none⟩ = some (.int .i64 p2) ∧ W.cell? ⟨g160, 1, none⟩ = some (.int .i64 q2) := fun W hW => by
        obtain ⟨a0, a1, a2, a3, a4, a5, a6, a7, a8, a9, a10, a11, a12, a13, a14, a15, a16, a17⟩ := FA W (Free.Bel.trans _ _ _ (hN) hW)
        exact ⟨a0, a1, a2, a3, a4, a5, a6, a7, a8, a9, a10, a11, a12, a13, a14, a15, a16, a17, keepsB hW n_g160_0, keepsB hW n_g160_1⟩
      clear FA HB_w16 hz_w16 KR
      have FA := FN
      clear FN
      have KR : Free.Bel w17 w17 := Free.Bel.refl _
      clear hN n_g160_0 n_g160_1
      refine (choose_any N xo _ (by omega) (by omega) (by omega)).mono ?_
      rintro e _ ⟨rfl, rfl⟩
      rw [HAL.out]
      go_wp2_with fail
      refine (over_any m1 al p1 q1 _ (by omega) (by omega) (by omega) (by omega) HO1).mono ?_
      rintro e w18 ⟨rfl, hB⟩
      have HB_w18 := Lib.hid (HB_w17.out.trans ((hB).mono hz_w17))
      have hz_w18 : bb ≤ w18.heap.size := Nat.le_trans hz_w17 (hB).size
      have FN : ∀ W, Free.Bel w18 W → W.cell? ⟨0, 0, none⟩ = some (dblF 130) ∧ W.cell? ⟨0, 1, none⟩ = some (dblF 131) ∧ W.cell? ⟨0, 2, none⟩ = some (dblF 132) ∧ W.cell? ⟨bb, 0, none⟩ = some (.int .i64 N) ∧ W.cell? ⟨bb, 1, none⟩ = some (.int .i64 lo) ∧ W.cell? ⟨bb, 2, none⟩ = some (.int .i64 hi) ∧ bb + 1 ≤ W.heap.size ∧ bb ≤ W.heap.size ∧ W.cell? ⟨g60, 0, none⟩ = some (.int .i64 sn) ∧ W.cell? ⟨g60, 1, none⟩ = some (.int .i64 1000) ∧ W.cell? ⟨g60 + 1, 0, none⟩ = some (.int .i64 bn) ∧ W.cell? ⟨g60 + 1, 1, none⟩ = some (.int .i64 1000) ∧ W.cell? ⟨g80, 0, none⟩ = some (.int .i64 o) ∧ W.cell? ⟨g80, 1, none⟩ = some (.int .i64 a) ∧ W.cell? ⟨g110, 0, none⟩ = some (.int .i64 xo) ∧ W.cell? ⟨g110, 1, none⟩ = some (.int .i64 xa) ∧ W.cell? ⟨g140, 0, none⟩ = some (.int .i64 p1) ∧ W.cell? ⟨g140, 1, none⟩ = some (.int .i64 q1) ∧ W.cell? ⟨g160, 0, none⟩ = some (.int .i64 p2) ∧ W.cell? ⟨g160, 1, none⟩ = some (.int .i64 q2) := fun W hW => by
        obtain ⟨a0, a1, a2, a3, a4, a5, a6, a7, a8, a9, a10, a11, a12, a13, a14, a15, a16, a17, a18, a19⟩ := FA W (Free.Bel.trans _ _ _ (hB) hW)
        exact ⟨a0, a1, a2, a3, a4, a5, a6, a7, a8, a9, a10, a11, a12, a13, a14, a15, a16, a17, a18, a19⟩
      clear FA HB_w17 hz_w17 KR
      have FA := FN
      clear FN
      have KR : Free.Bel w18 w18 := Free.Bel.refl _
      clear hB
      go_wp2_with fail
      refine (over_any m2 al p2 q2 _ (by omega) (by omega) (by omega) (by omega) HO2).mono ?_
      rintro e w19 ⟨rfl, hB⟩
      have HB_w19 := Lib.hid (HB_w18.out.trans ((hB).mono hz_w18))
      have hz_w19 : bb ≤ w19.heap.size := Nat.le_trans hz_w18 (hB).size
      have FN : ∀ W, Free.Bel w19 W → W.cell? ⟨0, 0, none⟩ = some (dblF 130) ∧ W.cell? ⟨0, 1, none⟩ = some (dblF 131) ∧ W.cell? ⟨0, 2, none⟩ = some (dblF 132) ∧ W.cell? ⟨bb, 0, none⟩ = some (.int .i64 N) ∧ W.cell? ⟨bb, 1, none⟩ = some (.int .i64 lo) ∧ W.cell? ⟨bb, 2, none⟩ = some (.int .i64 hi) ∧ bb + 1 ≤ W.heap.size ∧ bb ≤ W.heap.size ∧ W.cell? ⟨g60, 0, none⟩ = some (.int .i64 sn) ∧ W.cell? ⟨g60, 1, none⟩ = some (.int .i64 1000) ∧ W.cell? ⟨g60 + 1, 0, none⟩ = some (.int .i64 bn) ∧ W.cell? ⟨g60 + 1, 1, none⟩ = some (.int .i64 1000) ∧ W.cell? ⟨g80, 0, none⟩ = some (.int .i64 o) ∧ W.cell? ⟨g80, 1, none⟩ = some (.int .i64 a) ∧ W.cell? ⟨g110, 0, none⟩ = some (.int .i64 xo) ∧ W.cell? ⟨g110, 1, none⟩ = some (.int .i64 xa) ∧ W.cell? ⟨g140, 0, none⟩ = some (.int .i64 p1) ∧ W.cell? ⟨g140, 1, none⟩ = some (.int .i64 q1) ∧ W.cell? ⟨g160, 0, none⟩ = some (.int .i64 p2) ∧ W.cell? ⟨g160, 1, none⟩ = some (.int .i64 q2) := fun W hW => by
        obtain ⟨a0, a1, a2, a3, a4, a5, a6, a7, a8, a9, a10, a11, a12, a13, a14, a15, a16, a17, a18, a19⟩ := FA W (Free.Bel.trans _ _ _ (hB) hW)
        exact ⟨a0, a1, a2, a3, a4, a5, a6, a7, a8, a9, a10, a11, a12, a13, a14, a15, a16, a17, a18, a19⟩
      clear FA HB_w18 hz_w18 KR
      have FA := FN
      clear FN
      have KR : Free.Bel w19 w19 := Free.Bel.refl _
      clear hB
      by_cases h1 : (al - m1) * 1000 ≤ al * sn
      · have k1 : decide ((al - m1) * 1000 ≤ al * sn) = true := decide_eq_true h1
        by_cases h2 : m2 * 1000 ≤ al * bn
        · have k2 : decide (m2 * 1000 ≤ al * bn) = true := decide_eq_true h2
          rw [k1, k2] at hfb
          obtain rfl : so = true := hfb
          obtain ⟨h3, h4⟩ := hlast rfl
          clear hlast
          subst h3
          have k4 : decide (a ≤ xa) = true := decide_eq_true h4
          (go_wp2_with fail; go_ret; have hbb := HBB.out; subst hbb; exact ⟨rfl, HB_w19.out⟩)
        · have k2 : decide (m2 * 1000 ≤ al * bn) = false := decide_eq_false h2
          rw [k1, k2] at hfb
          obtain rfl : so = false := hfb
          clear hlast
          (go_wp2_with fail; go_ret; have hbb := HBB.out; subst hbb; exact ⟨rfl, HB_w19.out⟩)
      · have k1 : decide ((al - m1) * 1000 ≤ al * sn) = false := decide_eq_false h1
        rw [k1] at hfb
        obtain rfl : so = false := by rw [hfb]; rfl
        clear hlast hfb
        (go_wp2_with fail; go_ret; have hbb := HBB.out; subst hbb; exact ⟨rfl, HB_w19.out⟩)
end Go.Proofs.YtdiclofeggkjcaaDoor

/- For every input the law SampleLeast returns true, and its arguments read behind the call as they read before; what a double rule is asked lies in the table as the program's text lays it (tied). Condition: that table. -/
namespace Go.Proofs.YtdiclofeggkjcaaDoor.lawSampleLeast
open Go Go.ChangeShapes Go.WideShapes Go.ChangeAt Go.RowKit
set_option linter.unusedVariables false
set_option linter.unusedSimpArgs false

set_option maxRecDepth 100000 in
theorem contract (H : Type) (enc : TypeId × Value → H) (W : World) (base : Nat) (args : Array Value) (ds gs : List (DataW H)) (before : List MemPlace)
    (hval : ∀ (j : Nat) t v, Tryd.f13.params[j]? = some t → args[j]? = some v → Value.okWide Tryd.prog W .any base t v)
    (hW : DataW.Whole enc Tryd.prog Tryd.f13.params.toList Rows.sampleLeastSpec.vars false W args.toList ds gs before) (hL : laidMetH Tryd.prog Rows.sampleLeastRow.laid W) :
    Calls Tryd.prog 13 args W fun e W' => ∃ v, e = .returned v ∧ Rows.sampleLeastSpec.post enc Tryd.prog Tryd.f13 false true false false W args v W' := by
  have hW' := hW
  obtain ⟨p, q, hA0, hV, rfl, hfz, hnd⟩ := hW
  have hA : DataW.TrodAll enc Tryd.prog W 0 (fun _ => true) true Tryd.f13.params.toList args.toList ds p := hA0
  have hAk := hA
  rw [Tryd.params13] at hA hval
  obtain ⟨v0, vs0, d0, ds0, p0, q0, hargs, rfl, rfl, h0, r0⟩ := trodAll_cons hA
  obtain ⟨v1, vs1, d1, ds1, p1, q1, rfl, rfl, rfl, h1, r1⟩ := trodAll_cons r0
  obtain ⟨v2, vs2, d2, ds2, p2, q2, rfl, rfl, rfl, h2, r2⟩ := trodAll_cons r1
  obtain ⟨v3, vs3, d3, ds3, p3, q3, rfl, rfl, rfl, h3, r3⟩ := trodAll_cons r2
  obtain ⟨v4, vs4, d4, ds4, p4, q4, rfl, rfl, rfl, h4, r4⟩ := trodAll_cons r3
  obtain ⟨v5, vs5, d5, ds5, p5, q5, rfl, rfl, rfl, h5, r5⟩ := trodAll_cons r4
  obtain ⟨v6, vs6, d6, ds6, p6, q6, rfl, rfl, rfl, h6, r6⟩ := trodAll_cons r5
  obtain ⟨rfl, rfl, rfl⟩ := trodAll_nil r6
  obtain rfl : args = #[v0, v1, v2, v3, v4, v5, v6] := by cases args; simp_all
  obtain ⟨rfl, rfl⟩ := trodVars_none hV
  have hlt : ∀ x ∈ p0 ++ (p1 ++ (p2 ++ (p3 ++ (p4 ++ (p5 ++ (p6 ++ ([]))))))), x.block < W.heap.size := fun x hx => by
    have := hW'.lt x (by simpa using hx)
    simpa using this
  obtain ⟨N, lo, hi, rfl⟩ := Law.shape12 Tryd.underlying26 (by kernel_rfl) Tryd.underlying3 rfl (by kernel_rfl) rfl (by kernel_rfl) Tryd.underlying24 Tryd.underlying3 Tryd.underlying3 rfl rfl (by kernel_rfl) (by kernel_rfl) (hval 0 26 _ rfl rfl) h0
  obtain ⟨x1, rfl, _, hwf1⟩ := open_int Tryd.underlying5 (hval 1 5 _ rfl rfl) h1
  obtain ⟨x2, rfl, _, hwf2⟩ := open_int Tryd.underlying5 (hval 2 5 _ rfl rfl) h2
  obtain ⟨sl, rfl, _, hwf3⟩ := open_int Tryd.underlying37 (hval 3 37 _ rfl rfl) h3
  obtain ⟨by0, rfl, _, hwf4⟩ := open_int Tryd.underlying37 (hval 4 37 _ rfl rfl) h4
  obtain ⟨op, rfl, _, hwf5⟩ := open_int Tryd.underlying5 (hval 5 5 _ rfl rfl) h5
  obtain ⟨ac, rfl, _, hwf6⟩ := open_int Tryd.underlying5 (hval 6 5 _ rfl rfl) h6
  refine (leastL_walk N lo hi x1 x2 sl by0 op ac W (Tab.of_laid hL) (u8_wf hwf1.2) (u8_wf hwf2.2) (u16_wf hwf3.2) (u16_wf hwf4.2) (u8_wf hwf5.2) (u8_wf hwf6.2)).mono fun e W' ⟨he, hg⟩ => ?_
  subst he
  refine ⟨_, rfl, _, _, _, [], p0 ++ (p1 ++ (p2 ++ (p3 ++ (p4 ++ (p5 ++ (p6 ++ ([]))))))), [], hW', ?_, ?_, ?_, hg.frame _, fun h => by cases h⟩
  · exact trodAll_cons_mk (shut_bool Tryd.underlying4 true) trodAll_mk0
  · exact Law.args_below Tab.laidOut (by kernel_rfl) hg hAk hlt
  · rfl

set_option maxRecDepth 100000 in
theorem lifted (os : Os) (started : os.Started) (H : Type) (enc : TypeId × Value → H) :
    ReturnsInHanded {} Tryd.checked os 13 .any (fun w args => (Rows.sampleLeastSpec.pre enc Tryd.prog Tryd.f13 [] false w args ∧ laidMetH Tryd.prog Rows.sampleLeastRow.laid w) ∧ sizedMet enc Tryd.prog Tryd.f13 (OpenSpec.ofChange Rows.sampleLeastSpec) false w args) (Rows.sampleLeastSpec.post enc Tryd.prog Tryd.f13 false true false false) := by
  refine returnsInHanded_of_change_and (C := Tryd.checked) (X := fun w _ => laidMetH Tryd.prog Rows.sampleLeastRow.laid w) (fun _ _ _ hh h => h.of_heap hh) Tab.own started (by kernel_rfl) Tryd.func13
    (ChangeSpec.witness_shaped (enc := enc) (C := Tryd.checked) (os := os) (X := fun w _ => laidMetH Tryd.prog Rows.sampleLeastRow.laid w) false (World.doorLaid Tryd.prog 17 os) #[.agg #[.int .i64 0, .int .i64 0, .int .i64 0], .int .u8 0, .int .u8 0, .int .u16 0, .int .u16 0, .int .u8 0, .int .u8 0] 8 rfl (World.shaped_of_RefB (by kernel_rfl) (by kernel_rfl)) (by kernel_rfl) (by kernel_rfl) (by kernel_rfl) (Tab.door_met os _)) ?_
  intro W base args ds gs before hval hW _ _ hL _
  exact contract H enc W base args ds gs before hval hW hL

theorem said : Rows.SampleLeastSaid :=
  OpenClaim.holds_of_wide 13 Tryd.f13 rfl rfl rfl rfl rfl rfl rfl ⟨rfl, rfl, rfl, rfl, rfl⟩ rfl rfl rfl rfl rfl (by kernel_rfl) Tryd.func13 (by kernel_rfl)
    (of_decide_eq_true (by kernel_rfl)) (by unfold Func.isWrapper; first | (rw [if_pos (by decide +kernel)]; kernel_rfl) | (rw [if_neg (by decide +kernel)]; exact ⟨rfl, rfl⟩))
    (fun os started H enc _ => lifted os started H enc)

theorem plain (f : FuncId) (fn : Func) (hf : Tryd.pinned.checked.prog.funcNamed "oilcake/oilcakelaw01.SampleLeast" = some f) (hfn : Tryd.pinned.checked.prog.funcs[f]? = some fn) :
    false = Tryd.pinned.checked.prog.looks [] ∧ ∀ (j : Nat) t, fn.params[j]? = some t → Tryd.pinned.checked.prog.wantsStandIn t = false := by
  obtain rfl : f = 13 := Option.some.inj ((show Tryd.prog.funcNamed "oilcake/oilcakelaw01.SampleLeast" = some 13 by kernel_rfl).symm.trans hf) |>.symm
  obtain rfl : fn = Tryd.f13 := (Option.some.inj (Tryd.func13.symm.trans hfn)).symm
  refine ⟨by kernel_rfl, fun j t ht => ?_⟩
  rw [Tryd.params13] at ht
  have hm := Array.mem_of_getElem? ht
  have hall : (Tryd.f13.params.toList.all fun u => !Tryd.prog.wantsStandIn u) = true := by kernel_rfl
  rw [Tryd.params13] at hall
  exact (show Tryd.prog.wantsStandIn t = false by simpa using List.all_eq_true.1 hall t (by simpa using hm))

theorem card : Rows.SampleLeastCardSaid :=
  Claim7.holds_tied_plain_at .later [] _ _ _ _ said (fun _ h => by cases h) (by kernel_rfl) (fun _ h => by cases h) sampleLeast_row_tie rfl ⟨rfl, rfl⟩ (by kernel_rfl) rfl plain (by kernel_rfl)
#print axioms card
end Go.Proofs.YtdiclofeggkjcaaDoor.lawSampleLeast

