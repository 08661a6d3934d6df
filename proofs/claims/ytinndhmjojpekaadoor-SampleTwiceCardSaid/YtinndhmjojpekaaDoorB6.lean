/- What terms take off for a draw: Off. -/
import Derived.Test.YtinndhmjojpekaaDoorB5
import Derived.IntWalk
import Derived.Deep.QuietTactic
import Derived.BigQuiet
namespace Go.Proofs.YtinndhmjojpekaaDoor
set_option linter.unusedSimpArgs false
set_option linter.unusedVariables false
open Go.RowKit Go.Proofs.YtinndhmjojpekaaDoor.ML Go.Proofs.YtinndhmjojpekaaDoor.Samp

theorem agreedFrom_mem : ∀ (xs : List (Int × Int)) (f p : Int), 0 ≤ f + 1 → agreedFrom f p xs = true → ∀ t ∈ xs, 0 ≤ t.1 ∧ t.1 ≤ 100
  | [], _, _, _, _, t, h => by cases h
  | x :: r, f, p, h0, h, t, ht => by
    simp only [agreedFrom, Bool.and_eq_true] at h
    have h1 : f + 1 ≤ x.1 ∧ x.1 ≤ 100 := by simpa [inB] using h.1
    rcases List.mem_cons.1 ht with rfl | ht
    · omega
    · exact agreedFrom_mem r x.1 x.2 (by omega) h.2.2 t ht
theorem agreedE_mem {xs : List (Int × Int)} (h : agreedE xs = 0) : ∀ t ∈ xs, 0 ≤ t.1 ∧ t.1 ≤ 100 := by
  unfold agreedE at h
  split at h
  · simp at h
  · rename_i h'
    exact agreedFrom_mem xs 0 0 (by omega) (by simpa using h')
def offE (xs : List (Int × Int)) (o f : Int) : Int := firstE [agreedE xs, unlessV (drawB 36 o f) 11]
/-- What Off returns. -/
def offAll (xs : List (Int × Int)) (o f : Int) : Value := if offE xs o f ≠ 0 then .tuple #[.int .i64 0, .int .i64 (offE xs o f)] else .tuple #[.int .i64 (offV xs o f), .int .i64 0]
theorem offE_zero {xs : List (Int × Int)} {o f : Int} (h : offE xs o f = 0) : agreedE xs = 0 ∧ drawB 36 o f = true := by
  unfold offE at h
  have h1 : agreedE xs = 0 := by
    by_cases hm : agreedE xs = 0
    · exact hm
    · simp [firstE, hm] at h
  refine ⟨h1, ?_⟩
  cases hm : drawB 36 o f
  · rw [hm, h1] at h; simp [firstE, unlessV] at h
  · rfl

set_option maxRecDepth 100000 in
set_option maxHeartbeats 4000000 in
theorem offA_a (ts : List (Int × Int)) (v : Value) (o f : Int) (w : World) (hv : PL ts v w) (h1 : inB 0 36 [o] = false) (x z : Int) (hx : Hid (agreedE ts = x)) (hz : Hid (firstE [x, 11] = z)) (hz0 : (z != 0) = true) :
    Calls Tryd.prog 22 #[v, .agg #[.int .i64 o, .int .i64 f]] w fun e w' => e = .returned (.tuple #[.int .i64 0, .int .i64 z]) ∧ Below w.heap.size w w' := by
  have hB0 : Below w.heap.size w (w.alloc (.cells #[.int .i64 o, .int .i64 f] 49)) := (Below.refl _ w).alloc (Nat.le_refl _) _
  have c0_0 : (w.alloc (.cells #[.int .i64 o, .int .i64 f] 49)).cell? ⟨w.heap.size, 0, none⟩ = some (.int .i64 o) := by simp [go_sem]
  have c0_1 : (w.alloc (.cells #[.int .i64 o, .int .i64 f] 49)).cell? ⟨w.heap.size, 1, none⟩ = some (.int .i64 f) := by simp [go_sem]
  have HV0 := Lib.hid (fun (W : World) (hW : Free.Bel (w.alloc (.cells #[.int .i64 o, .int .i64 f] 49)) W) => (hv.keeps hB0).keeps hW)
  clear hv
  go_enter Tryd.func22, Tryd.ntmps22
  go_wp2_with fail
  have hq : w.heap.size + 1 = (w.alloc (.cells #[.int .i64 o, .int .i64 f] 49)).heap.size := by simp
  generalize (w.alloc (.cells #[.int .i64 o, .int .i64 f] 49)) = W0 at *
  generalize hbb : w.heap.size = bb at *
  have HBB := Lib.hid hbb
  clear hbb
  have HB0 := Lib.hid hB0
  have hq0 : bb + 1 ≤ W0.heap.size := by omega
  clear hB0 hq
  have FA : ∀ W, Free.Bel W0 W → W.cell? ⟨bb, 0, none⟩ = some (.int .i64 o) ∧ W.cell? ⟨bb, 1, none⟩ = some (.int .i64 f) ∧ bb + 1 ≤ W.heap.size := fun W hW => ⟨keepsB hW c0_0, keepsB hW c0_1, Nat.le_trans hq0 hW.size⟩
  clear c0_0 c0_1
  have hF : ∀ W, Free.Bel W0.drew W → Free.Bel W0 W := fun W hW => Free.Bel.trans _ _ _ (Bel.drewT (Free.Bel.refl _)) hW
  refine Free.wp_free (R := Free.Bel) (by kernel_rfl) (by kernel_rfl) Free.Bel.refl Free.Bel.trans ?_
  refine Free.Chain.ex ?_ [] [0] (by kernel_rfl) (by kernel_rfl) rfl Free.Bel.refl ?_ ?_
  rotate_left
  · (intro ev W hb hR hO hD; have hS := hF W hR; obtain ⟨hb1, hb2, hb3⟩ := hb; simp only [Free.AllDeps, Free.AllOuts, Free.At, List.getElem?_cons_succ, List.getElem?_cons_zero, Array.getD_eq_getD_getElem?, List.getElem?_toArray, Option.getD_some, and_true] at hO hD; go_simp; rfl)
  simp only [List.nil_append, List.cons_append]
  refine Free.Chain.pr (fun v _ => v = .int .i64 x) [(0, 7)] [] (by kernel_rfl) (by kernel_rfl) rfl (fun _ _ _ _ h => h) ?_ ?_
  · (intro ev W hb hR hO hD; have hS := hF W hR; obtain ⟨hb1, hb2, hb3⟩ := hb; simp only [Free.AllDeps, Free.AllOuts, Free.At, List.getElem?_cons_succ, List.getElem?_cons_zero, Array.getD_eq_getD_getElem?, List.getElem?_toArray, Option.getD_some, and_true] at hO hD; go_simp; refine yields_enter ?_; (with_reducible refine (agreed_v ts v _ (HV0.out _ hS) x hx).mono ?_); rintro e W2 ⟨rfl, hB2⟩; exact ⟨_, rfl, hB2, rfl⟩)
  simp only [List.nil_append, List.cons_append]
  refine Free.Chain.ex ?_ [] [3] (by kernel_rfl) (by kernel_rfl) rfl Free.Bel.refl ?_ ?_
  rotate_left
  · (intro ev W hb hR hO hD; have hS := hF W hR; obtain ⟨hb1, hb2, hb3⟩ := hb; simp only [Free.AllDeps, Free.AllOuts, Free.At, List.getElem?_cons_succ, List.getElem?_cons_zero, Array.getD_eq_getD_getElem?, List.getElem?_toArray, Option.getD_some, and_true] at hO hD; go_simp; rfl)
  simp only [List.nil_append, List.cons_append]
  refine Free.Chain.ex ?_ [(2, 9)] [] (by kernel_rfl) (by kernel_rfl) rfl Free.Bel.refl ?_ ?_
  rotate_left
  · (intro ev W hb hR hO hD; have hS := hF W hR; obtain ⟨hb1, hb2, hb3⟩ := hb; simp only [Free.AllDeps, Free.AllOuts, Free.At, List.getElem?_cons_succ, List.getElem?_cons_zero, Array.getD_eq_getD_getElem?, List.getElem?_toArray, Option.getD_some, and_true] at hO hD; go_simp; rfl)
  simp only [List.nil_append, List.cons_append]
  refine Free.Chain.pr (SlI [o]) [(3, 10)] [] (by kernel_rfl) (by kernel_rfl) rfl (SlI.stable _) ?_ ?_
  · (intro ev W hb hR hO hD; have hS := hF W hR; obtain ⟨hb1, hb2, hb3⟩ := hb; simp only [Free.AllDeps, Free.AllOuts, Free.At, List.getElem?_cons_succ, List.getElem?_cons_zero, Array.getD_eq_getD_getElem?, List.getElem?_toArray, Option.getD_some, and_true] at hO hD; go_simp; exact ⟨belAlloc _ _, SlI.one _ _ _⟩)
  simp only [List.nil_append, List.cons_append]
  refine Free.Chain.pr (fun v _ => v = .bool false) [(4, 11), (1, 8)] [] (by kernel_rfl) (by kernel_rfl) rfl (fun _ _ _ _ h => h) ?_ ?_
  · (intro ev W hb hR hO hD; have hS := hF W hR; obtain ⟨hb1, hb2, hb3⟩ := hb; simp only [Free.AllDeps, Free.AllOuts, Free.At, List.getElem?_cons_succ, List.getElem?_cons_zero, Array.getD_eq_getD_getElem?, List.getElem?_toArray, Option.getD_some, and_true] at hO hD; go_simp; refine yields_enter ?_; (with_reducible refine (in_sl 0 36 [o] false _ _ (by simp [maxLen]) h1 hD.1).mono ?_); rintro e W2 ⟨rfl, hB2⟩; exact ⟨_, rfl, hB2, rfl⟩)
  simp only [List.nil_append, List.cons_append]
  refine Free.Chain.ex ?_ [(5, 12), (5, 12)] [] (by kernel_rfl) (by kernel_rfl) rfl Free.Bel.refl ?_ ?_
  rotate_left
  · (intro ev W hb hR hO hD; have hS := hF W hR; obtain ⟨hb1, hb2, hb3⟩ := hb; simp only [Free.AllDeps, Free.AllOuts, Free.At, List.getElem?_cons_succ, List.getElem?_cons_zero, Array.getD_eq_getD_getElem?, List.getElem?_toArray, Option.getD_some, and_true] at hO hD; go_simp; rfl)
  simp only [List.nil_append, List.cons_append]
  refine Free.Chain.no [(6, 13)] [3] 6 true 13 (by kernel_rfl) (by kernel_rfl) rfl (by kernel_rfl) ?_ ?_
  · (intro ev W hR hD; simp only [Free.AllDeps, Free.At, List.getElem?_cons_succ, List.getElem?_cons_zero, and_true] at hD; simp [hD])
  simp only [List.nil_append, List.cons_append]
  refine Free.Chain.no [(7, 14), (6, 13)] [] 6 true 13 (by kernel_rfl) (by kernel_rfl) rfl (by kernel_rfl) ?_ ?_
  · (intro ev W hR hD; simp only [Free.AllDeps, Free.At, List.getElem?_cons_succ, List.getElem?_cons_zero, and_true] at hD; simp [hD])
  simp only [List.nil_append, List.cons_append]
  refine Free.Chain.no [(6, 13)] [3] 6 true 13 (by kernel_rfl) (by kernel_rfl) rfl (by kernel_rfl) ?_ ?_
  · (intro ev W hR hD; simp only [Free.AllDeps, Free.At, List.getElem?_cons_succ, List.getElem?_cons_zero, and_true] at hD; simp [hD])
  simp only [List.nil_append, List.cons_append]
  refine Free.Chain.no [(9, 16), (6, 13)] [] 6 true 13 (by kernel_rfl) (by kernel_rfl) rfl (by kernel_rfl) ?_ ?_
  · (intro ev W hR hD; simp only [Free.AllDeps, Free.At, List.getElem?_cons_succ, List.getElem?_cons_zero, and_true] at hD; simp [hD])
  simp only [List.nil_append, List.cons_append]
  refine Free.Chain.no [(10, 17), (6, 13)] [] 6 true 13 (by kernel_rfl) (by kernel_rfl) rfl (by kernel_rfl) ?_ ?_
  · (intro ev W hR hD; simp only [Free.AllDeps, Free.At, List.getElem?_cons_succ, List.getElem?_cons_zero, and_true] at hD; simp [hD])
  simp only [List.nil_append, List.cons_append]
  refine Free.Chain.no [(8, 15), (11, 18), (6, 13), (6, 13)] [] 6 true 13 (by kernel_rfl) (by kernel_rfl) rfl (by kernel_rfl) ?_ ?_
  · (intro ev W hR hD; simp only [Free.AllDeps, Free.At, List.getElem?_cons_succ, List.getElem?_cons_zero, and_true] at hD; simp [hD])
  simp only [List.nil_append, List.cons_append]
  refine Free.Chain.ex ?_ [(6, 13), (12, 19)] [] (by kernel_rfl) (by kernel_rfl) rfl Free.Bel.refl ?_ ?_
  rotate_left
  · (intro ev W hb hR hO hD; have hS := hF W hR; obtain ⟨hb1, hb2, hb3⟩ := hb; simp only [Free.AllDeps, Free.AllOuts, Free.At, List.getElem?_cons_succ, List.getElem?_cons_zero, Array.getD_eq_getD_getElem?, List.getElem?_toArray, Option.getD_some, and_true] at hO hD; go_simp; rfl)
  simp only [List.nil_append, List.cons_append]
  refine Free.Chain.pr (fun v _ => v = .int .i64 11) [(13, 20), (12, 19)] [] (by kernel_rfl) (by kernel_rfl) rfl (fun _ _ _ _ h => h) ?_ ?_
  · (intro ev W hb hR hO hD; have hS := hF W hR; obtain ⟨hb1, hb2, hb3⟩ := hb; simp only [Free.AllDeps, Free.AllOuts, Free.At, List.getElem?_cons_succ, List.getElem?_cons_zero, Array.getD_eq_getD_getElem?, List.getElem?_toArray, Option.getD_some, and_true] at hO hD; go_simp; refine yields_enter ?_; (with_reducible refine (unless_any _ _ 11 _ rfl).mono ?_); rintro e W2 ⟨rfl, rfl⟩; exact ⟨_, rfl, Free.Bel.refl _, rfl⟩)
  simp only [List.nil_append, List.cons_append]
  refine Free.Chain.pr (SlI [x, 11]) [(1, 8), (14, 21)] [] (by kernel_rfl) (by kernel_rfl) rfl (SlI.stable _) ?_ ?_
  · (intro ev W hb hR hO hD; have hS := hF W hR; obtain ⟨hb1, hb2, hb3⟩ := hb; simp only [Free.AllDeps, Free.AllOuts, Free.At, List.getElem?_cons_succ, List.getElem?_cons_zero, Array.getD_eq_getD_getElem?, List.getElem?_toArray, Option.getD_some, and_true] at hO hD; go_simp; exact ⟨belAlloc _ _, SlI.two _ _ _ _⟩)
  simp only [List.nil_append, List.cons_append]
  refine Free.Chain.pr (fun v _ => v = .int .i64 z) [(15, 22), (14, 21)] [] (by kernel_rfl) (by kernel_rfl) rfl (fun _ _ _ _ h => h) ?_ ?_
  · (intro ev W hb hR hO hD; have hS := hF W hR; obtain ⟨hb1, hb2, hb3⟩ := hb; simp only [Free.AllDeps, Free.AllOuts, Free.At, List.getElem?_cons_succ, List.getElem?_cons_zero, Array.getD_eq_getD_getElem?, List.getElem?_toArray, Option.getD_some, and_true] at hO hD; go_simp; refine yields_enter ?_; (with_reducible refine (first_sl [x, 11] z _ _ (by simp [maxLen]) hz.out hD.1).mono ?_); rintro e W2 ⟨rfl, rfl⟩; exact ⟨_, rfl, Free.Bel.refl _, rfl⟩)
  simp only [List.nil_append, List.cons_append]
  refine Free.Chain.ex ?_ [(16, 23), (16, 23), (0, 7), (1, 8), (2, 9), (3, 10), (4, 11), (5, 12), (6, 13), (7, 14), (8, 15), (9, 16), (10, 17), (11, 18), (12, 19), (13, 20), (14, 21), (15, 22), (16, 23)] [] (by kernel_rfl) (by kernel_rfl) rfl Free.Bel.refl ?_ ?_
  rotate_left
  · (intro ev W hb hR hO hD; have hS := hF W hR; obtain ⟨hb1, hb2, hb3⟩ := hb; simp only [Free.AllDeps, Free.AllOuts, Free.At, List.getElem?_cons_succ, List.getElem?_cons_zero, Array.getD_eq_getD_getElem?, List.getElem?_toArray, Option.getD_some, and_true] at hO hD; go_simp; rfl)
  simp only [List.nil_append, List.cons_append]
  intro xs w2 hR hV
  simp only [Free.AllV, Free.At, List.length_cons, List.length_nil, Nat.reduceAdd, List.getElem?_cons_succ, List.getElem?_cons_zero, true_and] at hV
  simp only [Free.putsFrom, Act.put, Nat.zero_add, Nat.reduceAdd, hV, List.setIfInBounds_toArray, List.set_cons_succ, List.set_cons_zero]
  have HK2 := hF w2 hR
  clear hR hV hF
  go_wp2_with fail
  go_ret2
  have hbb := HBB.out
  subst hbb
  exact ⟨rfl, HB0.out.trans (HK2.mono (by omega))⟩

set_option maxRecDepth 100000 in
set_option maxHeartbeats 4000000 in
theorem offA_b (ts : List (Int × Int)) (v : Value) (o f : Int) (w : World) (hv : PL ts v w) (h1 : inB 0 36 [o] = true) (h2 : inB 0 o [f] = false) (x z : Int) (hx : Hid (agreedE ts = x)) (hz : Hid (firstE [x, 11] = z)) (hz0 : (z != 0) = true) :
    Calls Tryd.prog 22 #[v, .agg #[.int .i64 o, .int .i64 f]] w fun e w' => e = .returned (.tuple #[.int .i64 0, .int .i64 z]) ∧ Below w.heap.size w w' := by
  have hB0 : Below w.heap.size w (w.alloc (.cells #[.int .i64 o, .int .i64 f] 49)) := (Below.refl _ w).alloc (Nat.le_refl _) _
  have c0_0 : (w.alloc (.cells #[.int .i64 o, .int .i64 f] 49)).cell? ⟨w.heap.size, 0, none⟩ = some (.int .i64 o) := by simp [go_sem]
  have c0_1 : (w.alloc (.cells #[.int .i64 o, .int .i64 f] 49)).cell? ⟨w.heap.size, 1, none⟩ = some (.int .i64 f) := by simp [go_sem]
  have HV0 := Lib.hid (fun (W : World) (hW : Free.Bel (w.alloc (.cells #[.int .i64 o, .int .i64 f] 49)) W) => (hv.keeps hB0).keeps hW)
  clear hv
  go_enter Tryd.func22, Tryd.ntmps22
  go_wp2_with fail
  have hq : w.heap.size + 1 = (w.alloc (.cells #[.int .i64 o, .int .i64 f] 49)).heap.size := by simp
  generalize (w.alloc (.cells #[.int .i64 o, .int .i64 f] 49)) = W0 at *
  generalize hbb : w.heap.size = bb at *
  have HBB := Lib.hid hbb
  clear hbb
  have HB0 := Lib.hid hB0
  have hq0 : bb + 1 ≤ W0.heap.size := by omega
  clear hB0 hq
  have FA : ∀ W, Free.Bel W0 W → W.cell? ⟨bb, 0, none⟩ = some (.int .i64 o) ∧ W.cell? ⟨bb, 1, none⟩ = some (.int .i64 f) ∧ bb + 1 ≤ W.heap.size := fun W hW => ⟨keepsB hW c0_0, keepsB hW c0_1, Nat.le_trans hq0 hW.size⟩
  clear c0_0 c0_1
  have hF : ∀ W, Free.Bel W0.drew W → Free.Bel W0 W := fun W hW => Free.Bel.trans _ _ _ (Bel.drewT (Free.Bel.refl _)) hW
  refine Free.wp_free (R := Free.Bel) (by kernel_rfl) (by kernel_rfl) Free.Bel.refl Free.Bel.trans ?_
  refine Free.Chain.ex ?_ [] [0] (by kernel_rfl) (by kernel_rfl) rfl Free.Bel.refl ?_ ?_
  rotate_left
  · (intro ev W hb hR hO hD; have hS := hF W hR; obtain ⟨hb1, hb2, hb3⟩ := hb; simp only [Free.AllDeps, Free.AllOuts, Free.At, List.getElem?_cons_succ, List.getElem?_cons_zero, Array.getD_eq_getD_getElem?, List.getElem?_toArray, Option.getD_some, and_true] at hO hD; go_simp; rfl)
  simp only [List.nil_append, List.cons_append]
  refine Free.Chain.pr (fun v _ => v = .int .i64 x) [(0, 7)] [] (by kernel_rfl) (by kernel_rfl) rfl (fun _ _ _ _ h => h) ?_ ?_
  · (intro ev W hb hR hO hD; have hS := hF W hR; obtain ⟨hb1, hb2, hb3⟩ := hb; simp only [Free.AllDeps, Free.AllOuts, Free.At, List.getElem?_cons_succ, List.getElem?_cons_zero, Array.getD_eq_getD_getElem?, List.getElem?_toArray, Option.getD_some, and_true] at hO hD; go_simp; refine yields_enter ?_; (with_reducible refine (agreed_v ts v _ (HV0.out _ hS) x hx).mono ?_); rintro e W2 ⟨rfl, hB2⟩; exact ⟨_, rfl, hB2, rfl⟩)
  simp only [List.nil_append, List.cons_append]
  refine Free.Chain.ex ?_ [] [3] (by kernel_rfl) (by kernel_rfl) rfl Free.Bel.refl ?_ ?_
  rotate_left
  · (intro ev W hb hR hO hD; have hS := hF W hR; obtain ⟨hb1, hb2, hb3⟩ := hb; simp only [Free.AllDeps, Free.AllOuts, Free.At, List.getElem?_cons_succ, List.getElem?_cons_zero, Array.getD_eq_getD_getElem?, List.getElem?_toArray, Option.getD_some, and_true] at hO hD; go_simp; rfl)
  simp only [List.nil_append, List.cons_append]
  refine Free.Chain.ex ?_ [(2, 9)] [] (by kernel_rfl) (by kernel_rfl) rfl Free.Bel.refl ?_ ?_
  rotate_left
  · (intro ev W hb hR hO hD; have hS := hF W hR; obtain ⟨hb1, hb2, hb3⟩ := hb; simp only [Free.AllDeps, Free.AllOuts, Free.At, List.getElem?_cons_succ, List.getElem?_cons_zero, Array.getD_eq_getD_getElem?, List.getElem?_toArray, Option.getD_some, and_true] at hO hD; go_simp; rfl)
  simp only [List.nil_append, List.cons_append]
  refine Free.Chain.pr (SlI [o]) [(3, 10)] [] (by kernel_rfl) (by kernel_rfl) rfl (SlI.stable _) ?_ ?_
  · (intro ev W hb hR hO hD; have hS := hF W hR; obtain ⟨hb1, hb2, hb3⟩ := hb; simp only [Free.AllDeps, Free.AllOuts, Free.At, List.getElem?_cons_succ, List.getElem?_cons_zero, Array.getD_eq_getD_getElem?, List.getElem?_toArray, Option.getD_some, and_true] at hO hD; go_simp; exact ⟨belAlloc _ _, SlI.one _ _ _⟩)
  simp only [List.nil_append, List.cons_append]
  refine Free.Chain.pr (fun v _ => v = .bool true) [(4, 11), (1, 8)] [] (by kernel_rfl) (by kernel_rfl) rfl (fun _ _ _ _ h => h) ?_ ?_
  · (intro ev W hb hR hO hD; have hS := hF W hR; obtain ⟨hb1, hb2, hb3⟩ := hb; simp only [Free.AllDeps, Free.AllOuts, Free.At, List.getElem?_cons_succ, List.getElem?_cons_zero, Array.getD_eq_getD_getElem?, List.getElem?_toArray, Option.getD_some, and_true] at hO hD; go_simp; refine yields_enter ?_; (with_reducible refine (in_sl 0 36 [o] true _ _ (by simp [maxLen]) h1 hD.1).mono ?_); rintro e W2 ⟨rfl, hB2⟩; exact ⟨_, rfl, hB2, rfl⟩)
  simp only [List.nil_append, List.cons_append]
  refine Free.Chain.ex ?_ [(5, 12), (5, 12)] [] (by kernel_rfl) (by kernel_rfl) rfl Free.Bel.refl ?_ ?_
  rotate_left
  · (intro ev W hb hR hO hD; have hS := hF W hR; obtain ⟨hb1, hb2, hb3⟩ := hb; simp only [Free.AllDeps, Free.AllOuts, Free.At, List.getElem?_cons_succ, List.getElem?_cons_zero, Array.getD_eq_getD_getElem?, List.getElem?_toArray, Option.getD_some, and_true] at hO hD; go_simp; rfl)
  simp only [List.nil_append, List.cons_append]
  refine Free.Chain.exG ?_ [(6, 13)] [3] 6 true 13 (by kernel_rfl) (by kernel_rfl) rfl (by kernel_rfl) Free.Bel.refl ?_ ?_
  rotate_left
  · (intro ev W hb hR hO hD; have hS := hF W hR; obtain ⟨hb1, hb2, hb3⟩ := hb; simp only [Free.AllDeps, Free.AllOuts, Free.At, List.getElem?_cons_succ, List.getElem?_cons_zero, Array.getD_eq_getD_getElem?, List.getElem?_toArray, Option.getD_some, and_true] at hO hD; refine ⟨by simp [hD], ?_⟩; go_simp; rfl)
  simp only [List.nil_append, List.cons_append]
  refine Free.Chain.exG ?_ [(7, 14), (6, 13)] [] 6 true 13 (by kernel_rfl) (by kernel_rfl) rfl (by kernel_rfl) Free.Bel.refl ?_ ?_
  rotate_left
  · (intro ev W hb hR hO hD; have hS := hF W hR; obtain ⟨hb1, hb2, hb3⟩ := hb; simp only [Free.AllDeps, Free.AllOuts, Free.At, List.getElem?_cons_succ, List.getElem?_cons_zero, Array.getD_eq_getD_getElem?, List.getElem?_toArray, Option.getD_some, and_true] at hO hD; refine ⟨by simp [hD], ?_⟩; go_simp; rfl)
  simp only [List.nil_append, List.cons_append]
  refine Free.Chain.exG ?_ [(6, 13)] [3] 6 true 13 (by kernel_rfl) (by kernel_rfl) rfl (by kernel_rfl) Free.Bel.refl ?_ ?_
  rotate_left
  · (intro ev W hb hR hO hD; have hS := hF W hR; obtain ⟨hb1, hb2, hb3⟩ := hb; simp only [Free.AllDeps, Free.AllOuts, Free.At, List.getElem?_cons_succ, List.getElem?_cons_zero, Array.getD_eq_getD_getElem?, List.getElem?_toArray, Option.getD_some, and_true] at hO hD; refine ⟨by simp [hD], ?_⟩; go_simp; rfl)
  simp only [List.nil_append, List.cons_append]
  refine Free.Chain.exG ?_ [(9, 16), (6, 13)] [] 6 true 13 (by kernel_rfl) (by kernel_rfl) rfl (by kernel_rfl) Free.Bel.refl ?_ ?_
  rotate_left
  · (intro ev W hb hR hO hD; have hS := hF W hR; obtain ⟨hb1, hb2, hb3⟩ := hb; simp only [Free.AllDeps, Free.AllOuts, Free.At, List.getElem?_cons_succ, List.getElem?_cons_zero, Array.getD_eq_getD_getElem?, List.getElem?_toArray, Option.getD_some, and_true] at hO hD; refine ⟨by simp [hD], ?_⟩; go_simp; rfl)
  simp only [List.nil_append, List.cons_append]
  refine Free.Chain.prG (SlI [f]) [(10, 17), (6, 13)] [] 6 true 13 (by kernel_rfl) (by kernel_rfl) rfl (by kernel_rfl) (SlI.stable _) ?_ ?_
  · (intro ev W hb hR hO hD; have hS := hF W hR; obtain ⟨hb1, hb2, hb3⟩ := hb; simp only [Free.AllDeps, Free.AllOuts, Free.At, List.getElem?_cons_succ, List.getElem?_cons_zero, Array.getD_eq_getD_getElem?, List.getElem?_toArray, Option.getD_some, and_true] at hO hD; refine ⟨by simp [hD], ?_⟩; go_simp; exact ⟨belAlloc _ _, SlI.one _ _ _⟩)
  simp only [List.nil_append, List.cons_append]
  refine Free.Chain.prG (fun v _ => v = .bool false) [(8, 15), (11, 18), (6, 13), (6, 13)] [] 6 true 13 (by kernel_rfl) (by kernel_rfl) rfl (by kernel_rfl) (fun _ _ _ _ h => h) ?_ ?_
  · (intro ev W hb hR hO hD; have hS := hF W hR; obtain ⟨hb1, hb2, hb3⟩ := hb; simp only [Free.AllDeps, Free.AllOuts, Free.At, List.getElem?_cons_succ, List.getElem?_cons_zero, Array.getD_eq_getD_getElem?, List.getElem?_toArray, Option.getD_some, and_true] at hO hD; refine ⟨by simp [hD], ?_⟩; go_simp; refine yields_enter ?_; (with_reducible refine (in_sl 0 o [f] false _ _ (by simp [maxLen]) h2 hD.2.1).mono ?_); rintro e W2 ⟨rfl, hB2⟩; exact ⟨_, rfl, hB2, rfl⟩)
  simp only [List.nil_append, List.cons_append]
  refine Free.Chain.ex ?_ [(6, 13), (12, 19)] [] (by kernel_rfl) (by kernel_rfl) rfl Free.Bel.refl ?_ ?_
  rotate_left
  · (intro ev W hb hR hO hD; have hS := hF W hR; obtain ⟨hb1, hb2, hb3⟩ := hb; simp only [Free.AllDeps, Free.AllOuts, Free.At, List.getElem?_cons_succ, List.getElem?_cons_zero, Array.getD_eq_getD_getElem?, List.getElem?_toArray, Option.getD_some, and_true] at hO hD; go_simp; rfl)
  simp only [List.nil_append, List.cons_append]
  refine Free.Chain.pr (fun v _ => v = .int .i64 11) [(13, 20), (12, 19)] [] (by kernel_rfl) (by kernel_rfl) rfl (fun _ _ _ _ h => h) ?_ ?_
  · (intro ev W hb hR hO hD; have hS := hF W hR; obtain ⟨hb1, hb2, hb3⟩ := hb; simp only [Free.AllDeps, Free.AllOuts, Free.At, List.getElem?_cons_succ, List.getElem?_cons_zero, Array.getD_eq_getD_getElem?, List.getElem?_toArray, Option.getD_some, and_true] at hO hD; go_simp; refine yields_enter ?_; (with_reducible refine (unless_any _ _ 11 _ rfl).mono ?_); rintro e W2 ⟨rfl, rfl⟩; exact ⟨_, rfl, Free.Bel.refl _, rfl⟩)
  simp only [List.nil_append, List.cons_append]
  refine Free.Chain.pr (SlI [x, 11]) [(1, 8), (14, 21)] [] (by kernel_rfl) (by kernel_rfl) rfl (SlI.stable _) ?_ ?_
  · (intro ev W hb hR hO hD; have hS := hF W hR; obtain ⟨hb1, hb2, hb3⟩ := hb; simp only [Free.AllDeps, Free.AllOuts, Free.At, List.getElem?_cons_succ, List.getElem?_cons_zero, Array.getD_eq_getD_getElem?, List.getElem?_toArray, Option.getD_some, and_true] at hO hD; go_simp; exact ⟨belAlloc _ _, SlI.two _ _ _ _⟩)
  simp only [List.nil_append, List.cons_append]
  refine Free.Chain.pr (fun v _ => v = .int .i64 z) [(15, 22), (14, 21)] [] (by kernel_rfl) (by kernel_rfl) rfl (fun _ _ _ _ h => h) ?_ ?_
  · (intro ev W hb hR hO hD; have hS := hF W hR; obtain ⟨hb1, hb2, hb3⟩ := hb; simp only [Free.AllDeps, Free.AllOuts, Free.At, List.getElem?_cons_succ, List.getElem?_cons_zero, Array.getD_eq_getD_getElem?, List.getElem?_toArray, Option.getD_some, and_true] at hO hD; go_simp; refine yields_enter ?_; (with_reducible refine (first_sl [x, 11] z _ _ (by simp [maxLen]) hz.out hD.1).mono ?_); rintro e W2 ⟨rfl, rfl⟩; exact ⟨_, rfl, Free.Bel.refl _, rfl⟩)
  simp only [List.nil_append, List.cons_append]
  refine Free.Chain.ex ?_ [(16, 23), (16, 23), (0, 7), (1, 8), (2, 9), (3, 10), (4, 11), (5, 12), (6, 13), (7, 14), (8, 15), (9, 16), (10, 17), (11, 18), (12, 19), (13, 20), (14, 21), (15, 22), (16, 23)] [] (by kernel_rfl) (by kernel_rfl) rfl Free.Bel.refl ?_ ?_
  rotate_left
  · (intro ev W hb hR hO hD; have hS := hF W hR; obtain ⟨hb1, hb2, hb3⟩ := hb; simp only [Free.AllDeps, Free.AllOuts, Free.At, List.getElem?_cons_succ, List.getElem?_cons_zero, Array.getD_eq_getD_getElem?, List.getElem?_toArray, Option.getD_some, and_true] at hO hD; go_simp; rfl)
  simp only [List.nil_append, List.cons_append]
  intro xs w2 hR hV
  simp only [Free.AllV, Free.At, List.length_cons, List.length_nil, Nat.reduceAdd, List.getElem?_cons_succ, List.getElem?_cons_zero, true_and] at hV
  simp only [Free.putsFrom, Act.put, Nat.zero_add, Nat.reduceAdd, hV, List.setIfInBounds_toArray, List.set_cons_succ, List.set_cons_zero]
  have HK2 := hF w2 hR
  clear hR hV hF
  go_wp2_with fail
  go_ret2
  have hbb := HBB.out
  subst hbb
  exact ⟨rfl, HB0.out.trans (HK2.mono (by omega))⟩

set_option maxRecDepth 100000 in
set_option maxHeartbeats 4000000 in
theorem offA_c (ts : List (Int × Int)) (v : Value) (o f : Int) (w : World) (hv : PL ts v w) (h1 : inB 0 36 [o] = true) (h2 : inB 0 o [f] = true) (x z : Int) (hx : Hid (agreedE ts = x)) (hz : Hid (firstE [x, 0] = z)) (hz0 : (z != 0) = true) :
    Calls Tryd.prog 22 #[v, .agg #[.int .i64 o, .int .i64 f]] w fun e w' => e = .returned (.tuple #[.int .i64 0, .int .i64 z]) ∧ Below w.heap.size w w' := by
  have hB0 : Below w.heap.size w (w.alloc (.cells #[.int .i64 o, .int .i64 f] 49)) := (Below.refl _ w).alloc (Nat.le_refl _) _
  have c0_0 : (w.alloc (.cells #[.int .i64 o, .int .i64 f] 49)).cell? ⟨w.heap.size, 0, none⟩ = some (.int .i64 o) := by simp [go_sem]
  have c0_1 : (w.alloc (.cells #[.int .i64 o, .int .i64 f] 49)).cell? ⟨w.heap.size, 1, none⟩ = some (.int .i64 f) := by simp [go_sem]
  have HV0 := Lib.hid (fun (W : World) (hW : Free.Bel (w.alloc (.cells #[.int .i64 o, .int .i64 f] 49)) W) => (hv.keeps hB0).keeps hW)
  clear hv
  go_enter Tryd.func22, Tryd.ntmps22
  go_wp2_with fail
  have hq : w.heap.size + 1 = (w.alloc (.cells #[.int .i64 o, .int .i64 f] 49)).heap.size := by simp
  generalize (w.alloc (.cells #[.int .i64 o, .int .i64 f] 49)) = W0 at *
  generalize hbb : w.heap.size = bb at *
  have HBB := Lib.hid hbb
  clear hbb
  have HB0 := Lib.hid hB0
  have hq0 : bb + 1 ≤ W0.heap.size := by omega
  clear hB0 hq
  have FA : ∀ W, Free.Bel W0 W → W.cell? ⟨bb, 0, none⟩ = some (.int .i64 o) ∧ W.cell? ⟨bb, 1, none⟩ = some (.int .i64 f) ∧ bb + 1 ≤ W.heap.size := fun W hW => ⟨keepsB hW c0_0, keepsB hW c0_1, Nat.le_trans hq0 hW.size⟩
  clear c0_0 c0_1
  have hF : ∀ W, Free.Bel W0.drew W → Free.Bel W0 W := fun W hW => Free.Bel.trans _ _ _ (Bel.drewT (Free.Bel.refl _)) hW
  refine Free.wp_free (R := Free.Bel) (by kernel_rfl) (by kernel_rfl) Free.Bel.refl Free.Bel.trans ?_
  refine Free.Chain.ex ?_ [] [0] (by kernel_rfl) (by kernel_rfl) rfl Free.Bel.refl ?_ ?_
  rotate_left
  · (intro ev W hb hR hO hD; have hS := hF W hR; obtain ⟨hb1, hb2, hb3⟩ := hb; simp only [Free.AllDeps, Free.AllOuts, Free.At, List.getElem?_cons_succ, List.getElem?_cons_zero, Array.getD_eq_getD_getElem?, List.getElem?_toArray, Option.getD_some, and_true] at hO hD; go_simp; rfl)
  simp only [List.nil_append, List.cons_append]
  refine Free.Chain.pr (fun v _ => v = .int .i64 x) [(0, 7)] [] (by kernel_rfl) (by kernel_rfl) rfl (fun _ _ _ _ h => h) ?_ ?_
  · (intro ev W hb hR hO hD; have hS := hF W hR; obtain ⟨hb1, hb2, hb3⟩ := hb; simp only [Free.AllDeps, Free.AllOuts, Free.At, List.getElem?_cons_succ, List.getElem?_cons_zero, Array.getD_eq_getD_getElem?, List.getElem?_toArray, Option.getD_some, and_true] at hO hD; go_simp; refine yields_enter ?_; (with_reducible refine (agreed_v ts v _ (HV0.out _ hS) x hx).mono ?_); rintro e W2 ⟨rfl, hB2⟩; exact ⟨_, rfl, hB2, rfl⟩)
  simp only [List.nil_append, List.cons_append]
  refine Free.Chain.ex ?_ [] [3] (by kernel_rfl) (by kernel_rfl) rfl Free.Bel.refl ?_ ?_
  rotate_left
  · (intro ev W hb hR hO hD; have hS := hF W hR; obtain ⟨hb1, hb2, hb3⟩ := hb; simp only [Free.AllDeps, Free.AllOuts, Free.At, List.getElem?_cons_succ, List.getElem?_cons_zero, Array.getD_eq_getD_getElem?, List.getElem?_toArray, Option.getD_some, and_true] at hO hD; go_simp; rfl)
  simp only [List.nil_append, List.cons_append]
  refine Free.Chain.ex ?_ [(2, 9)] [] (by kernel_rfl) (by kernel_rfl) rfl Free.Bel.refl ?_ ?_
  rotate_left
  · (intro ev W hb hR hO hD; have hS := hF W hR; obtain ⟨hb1, hb2, hb3⟩ := hb; simp only [Free.AllDeps, Free.AllOuts, Free.At, List.getElem?_cons_succ, List.getElem?_cons_zero, Array.getD_eq_getD_getElem?, List.getElem?_toArray, Option.getD_some, and_true] at hO hD; go_simp; rfl)
  simp only [List.nil_append, List.cons_append]
  refine Free.Chain.pr (SlI [o]) [(3, 10)] [] (by kernel_rfl) (by kernel_rfl) rfl (SlI.stable _) ?_ ?_
  · (intro ev W hb hR hO hD; have hS := hF W hR; obtain ⟨hb1, hb2, hb3⟩ := hb; simp only [Free.AllDeps, Free.AllOuts, Free.At, List.getElem?_cons_succ, List.getElem?_cons_zero, Array.getD_eq_getD_getElem?, List.getElem?_toArray, Option.getD_some, and_true] at hO hD; go_simp; exact ⟨belAlloc _ _, SlI.one _ _ _⟩)
  simp only [List.nil_append, List.cons_append]
  refine Free.Chain.pr (fun v _ => v = .bool true) [(4, 11), (1, 8)] [] (by kernel_rfl) (by kernel_rfl) rfl (fun _ _ _ _ h => h) ?_ ?_
  · (intro ev W hb hR hO hD; have hS := hF W hR; obtain ⟨hb1, hb2, hb3⟩ := hb; simp only [Free.AllDeps, Free.AllOuts, Free.At, List.getElem?_cons_succ, List.getElem?_cons_zero, Array.getD_eq_getD_getElem?, List.getElem?_toArray, Option.getD_some, and_true] at hO hD; go_simp; refine yields_enter ?_; (with_reducible refine (in_sl 0 36 [o] true _ _ (by simp [maxLen]) h1 hD.1).mono ?_); rintro e W2 ⟨rfl, hB2⟩; exact ⟨_, rfl, hB2, rfl⟩)
  simp only [List.nil_append, List.cons_append]
  refine Free.Chain.ex ?_ [(5, 12), (5, 12)] [] (by kernel_rfl) (by kernel_rfl) rfl Free.Bel.refl ?_ ?_
  rotate_left
  · (intro ev W hb hR hO hD; have hS := hF W hR; obtain ⟨hb1, hb2, hb3⟩ := hb; simp only [Free.AllDeps, Free.AllOuts, Free.At, List.getElem?_cons_succ, List.getElem?_cons_zero, Array.getD_eq_getD_getElem?, List.getElem?_toArray, Option.getD_some, and_true] at hO hD; go_simp; rfl)
  simp only [List.nil_append, List.cons_append]
  refine Free.Chain.exG ?_ [(6, 13)] [3] 6 true 13 (by kernel_rfl) (by kernel_rfl) rfl (by kernel_rfl) Free.Bel.refl ?_ ?_
  rotate_left
  · (intro ev W hb hR hO hD; have hS := hF W hR; obtain ⟨hb1, hb2, hb3⟩ := hb; simp only [Free.AllDeps, Free.AllOuts, Free.At, List.getElem?_cons_succ, List.getElem?_cons_zero, Array.getD_eq_getD_getElem?, List.getElem?_toArray, Option.getD_some, and_true] at hO hD; refine ⟨by simp [hD], ?_⟩; go_simp; rfl)
  simp only [List.nil_append, List.cons_append]
  refine Free.Chain.exG ?_ [(7, 14), (6, 13)] [] 6 true 13 (by kernel_rfl) (by kernel_rfl) rfl (by kernel_rfl) Free.Bel.refl ?_ ?_
  rotate_left
  · (intro ev W hb hR hO hD; have hS := hF W hR; obtain ⟨hb1, hb2, hb3⟩ := hb; simp only [Free.AllDeps, Free.AllOuts, Free.At, List.getElem?_cons_succ, List.getElem?_cons_zero, Array.getD_eq_getD_getElem?, List.getElem?_toArray, Option.getD_some, and_true] at hO hD; refine ⟨by simp [hD], ?_⟩; go_simp; rfl)
  simp only [List.nil_append, List.cons_append]
  refine Free.Chain.exG ?_ [(6, 13)] [3] 6 true 13 (by kernel_rfl) (by kernel_rfl) rfl (by kernel_rfl) Free.Bel.refl ?_ ?_
  rotate_left
  · (intro ev W hb hR hO hD; have hS := hF W hR; obtain ⟨hb1, hb2, hb3⟩ := hb; simp only [Free.AllDeps, Free.AllOuts, Free.At, List.getElem?_cons_succ, List.getElem?_cons_zero, Array.getD_eq_getD_getElem?, List.getElem?_toArray, Option.getD_some, and_true] at hO hD; refine ⟨by simp [hD], ?_⟩; go_simp; rfl)
  simp only [List.nil_append, List.cons_append]
  refine Free.Chain.exG ?_ [(9, 16), (6, 13)] [] 6 true 13 (by kernel_rfl) (by kernel_rfl) rfl (by kernel_rfl) Free.Bel.refl ?_ ?_
  rotate_left
  · (intro ev W hb hR hO hD; have hS := hF W hR; obtain ⟨hb1, hb2, hb3⟩ := hb; simp only [Free.AllDeps, Free.AllOuts, Free.At, List.getElem?_cons_succ, List.getElem?_cons_zero, Array.getD_eq_getD_getElem?, List.getElem?_toArray, Option.getD_some, and_true] at hO hD; refine ⟨by simp [hD], ?_⟩; go_simp; rfl)
  simp only [List.nil_append, List.cons_append]
  refine Free.Chain.prG (SlI [f]) [(10, 17), (6, 13)] [] 6 true 13 (by kernel_rfl) (by kernel_rfl) rfl (by kernel_rfl) (SlI.stable _) ?_ ?_
  · (intro ev W hb hR hO hD; have hS := hF W hR; obtain ⟨hb1, hb2, hb3⟩ := hb; simp only [Free.AllDeps, Free.AllOuts, Free.At, List.getElem?_cons_succ, List.getElem?_cons_zero, Array.getD_eq_getD_getElem?, List.getElem?_toArray, Option.getD_some, and_true] at hO hD; refine ⟨by simp [hD], ?_⟩; go_simp; exact ⟨belAlloc _ _, SlI.one _ _ _⟩)
  simp only [List.nil_append, List.cons_append]
  refine Free.Chain.prG (fun v _ => v = .bool true) [(8, 15), (11, 18), (6, 13), (6, 13)] [] 6 true 13 (by kernel_rfl) (by kernel_rfl) rfl (by kernel_rfl) (fun _ _ _ _ h => h) ?_ ?_
  · (intro ev W hb hR hO hD; have hS := hF W hR; obtain ⟨hb1, hb2, hb3⟩ := hb; simp only [Free.AllDeps, Free.AllOuts, Free.At, List.getElem?_cons_succ, List.getElem?_cons_zero, Array.getD_eq_getD_getElem?, List.getElem?_toArray, Option.getD_some, and_true] at hO hD; refine ⟨by simp [hD], ?_⟩; go_simp; refine yields_enter ?_; (with_reducible refine (in_sl 0 o [f] true _ _ (by simp [maxLen]) h2 hD.2.1).mono ?_); rintro e W2 ⟨rfl, hB2⟩; exact ⟨_, rfl, hB2, rfl⟩)
  simp only [List.nil_append, List.cons_append]
  refine Free.Chain.ex ?_ [(6, 13), (12, 19)] [] (by kernel_rfl) (by kernel_rfl) rfl Free.Bel.refl ?_ ?_
  rotate_left
  · (intro ev W hb hR hO hD; have hS := hF W hR; obtain ⟨hb1, hb2, hb3⟩ := hb; simp only [Free.AllDeps, Free.AllOuts, Free.At, List.getElem?_cons_succ, List.getElem?_cons_zero, Array.getD_eq_getD_getElem?, List.getElem?_toArray, Option.getD_some, and_true] at hO hD; go_simp; rfl)
  simp only [List.nil_append, List.cons_append]
  refine Free.Chain.pr (fun v _ => v = .int .i64 0) [(13, 20), (12, 19)] [] (by kernel_rfl) (by kernel_rfl) rfl (fun _ _ _ _ h => h) ?_ ?_
  · (intro ev W hb hR hO hD; have hS := hF W hR; obtain ⟨hb1, hb2, hb3⟩ := hb; simp only [Free.AllDeps, Free.AllOuts, Free.At, List.getElem?_cons_succ, List.getElem?_cons_zero, Array.getD_eq_getD_getElem?, List.getElem?_toArray, Option.getD_some, and_true] at hO hD; go_simp; refine yields_enter ?_; (with_reducible refine (unless_any _ _ 0 _ rfl).mono ?_); rintro e W2 ⟨rfl, rfl⟩; exact ⟨_, rfl, Free.Bel.refl _, rfl⟩)
  simp only [List.nil_append, List.cons_append]
  refine Free.Chain.pr (SlI [x, 0]) [(1, 8), (14, 21)] [] (by kernel_rfl) (by kernel_rfl) rfl (SlI.stable _) ?_ ?_
  · (intro ev W hb hR hO hD; have hS := hF W hR; obtain ⟨hb1, hb2, hb3⟩ := hb; simp only [Free.AllDeps, Free.AllOuts, Free.At, List.getElem?_cons_succ, List.getElem?_cons_zero, Array.getD_eq_getD_getElem?, List.getElem?_toArray, Option.getD_some, and_true] at hO hD; go_simp; exact ⟨belAlloc _ _, SlI.two _ _ _ _⟩)
  simp only [List.nil_append, List.cons_append]
  refine Free.Chain.pr (fun v _ => v = .int .i64 z) [(15, 22), (14, 21)] [] (by kernel_rfl) (by kernel_rfl) rfl (fun _ _ _ _ h => h) ?_ ?_
  · (intro ev W hb hR hO hD; have hS := hF W hR; obtain ⟨hb1, hb2, hb3⟩ := hb; simp only [Free.AllDeps, Free.AllOuts, Free.At, List.getElem?_cons_succ, List.getElem?_cons_zero, Array.getD_eq_getD_getElem?, List.getElem?_toArray, Option.getD_some, and_true] at hO hD; go_simp; refine yields_enter ?_; (with_reducible refine (first_sl [x, 0] z _ _ (by simp [maxLen]) hz.out hD.1).mono ?_); rintro e W2 ⟨rfl, rfl⟩; exact ⟨_, rfl, Free.Bel.refl _, rfl⟩)
  simp only [List.nil_append, List.cons_append]
  refine Free.Chain.ex ?_ [(16, 23), (16, 23), (0, 7), (1, 8), (2, 9), (3, 10), (4, 11), (5, 12), (6, 13), (7, 14), (8, 15), (9, 16), (10, 17), (11, 18), (12, 19), (13, 20), (14, 21), (15, 22), (16, 23)] [] (by kernel_rfl) (by kernel_rfl) rfl Free.Bel.refl ?_ ?_
  rotate_left
  · (intro ev W hb hR hO hD; have hS := hF W hR; obtain ⟨hb1, hb2, hb3⟩ := hb; simp only [Free.AllDeps, Free.AllOuts, Free.At, List.getElem?_cons_succ, List.getElem?_cons_zero, Array.getD_eq_getD_getElem?, List.getElem?_toArray, Option.getD_some, and_true] at hO hD; go_simp; rfl)
  simp only [List.nil_append, List.cons_append]
  intro xs w2 hR hV
  simp only [Free.AllV, Free.At, List.length_cons, List.length_nil, Nat.reduceAdd, List.getElem?_cons_succ, List.getElem?_cons_zero, true_and] at hV
  simp only [Free.putsFrom, Act.put, Nat.zero_add, Nat.reduceAdd, hV, List.setIfInBounds_toArray, List.set_cons_succ, List.set_cons_zero]
  have HK2 := hF w2 hR
  clear hR hV hF
  go_wp2_with fail
  go_ret2
  have hbb := HBB.out
  subst hbb
  exact ⟨rfl, HB0.out.trans (HK2.mono (by omega))⟩

set_option maxRecDepth 100000 in
set_option maxHeartbeats 4000000 in
theorem offA_d (ts : List (Int × Int)) (v : Value) (o f : Int) (w : World) (hv : PL ts v w) (h1 : inB 0 36 [o] = true) (h2 : inB 0 o [f] = true) (x : Int) (hx : Hid (agreedE ts = x)) (hz : Hid (firstE [x, 0] = 0)) (hts : Hid (∀ t ∈ ts, 0 ≤ t.1 ∧ t.1 ≤ 100)) :
    Calls Tryd.prog 22 #[v, .agg #[.int .i64 o, .int .i64 f]] w fun e w' => e = .returned (.tuple #[.int .i64 (offV ts o f), .int .i64 0]) ∧ Below w.heap.size w w' := by
  have q1 : 0 ≤ o ∧ o ≤ 36 := by simpa [inB] using h1
  have q2 : 0 ≤ f ∧ f ≤ o := by simpa [inB] using h2
  have hB0 : Below w.heap.size w (w.alloc (.cells #[.int .i64 o, .int .i64 f] 49)) := (Below.refl _ w).alloc (Nat.le_refl _) _
  have c0_0 : (w.alloc (.cells #[.int .i64 o, .int .i64 f] 49)).cell? ⟨w.heap.size, 0, none⟩ = some (.int .i64 o) := by simp [go_sem]
  have c0_1 : (w.alloc (.cells #[.int .i64 o, .int .i64 f] 49)).cell? ⟨w.heap.size, 1, none⟩ = some (.int .i64 f) := by simp [go_sem]
  have HV0 := Lib.hid (fun (W : World) (hW : Free.Bel (w.alloc (.cells #[.int .i64 o, .int .i64 f] 49)) W) => (hv.keeps hB0).keeps hW)
  clear hv
  go_enter Tryd.func22, Tryd.ntmps22
  go_wp2_with fail
  have hq : w.heap.size + 1 = (w.alloc (.cells #[.int .i64 o, .int .i64 f] 49)).heap.size := by simp
  generalize (w.alloc (.cells #[.int .i64 o, .int .i64 f] 49)) = W0 at *
  generalize hbb : w.heap.size = bb at *
  have HBB := Lib.hid hbb
  clear hbb
  have HB0 := Lib.hid hB0
  have hq0 : bb + 1 ≤ W0.heap.size := by omega
  clear hB0 hq
  have FA : ∀ W, Free.Bel W0 W → W.cell? ⟨bb, 0, none⟩ = some (.int .i64 o) ∧ W.cell? ⟨bb, 1, none⟩ = some (.int .i64 f) ∧ bb + 1 ≤ W.heap.size := fun W hW => ⟨keepsB hW c0_0, keepsB hW c0_1, Nat.le_trans hq0 hW.size⟩
  clear c0_0 c0_1
  have hF : ∀ W, Free.Bel W0.drew W → Free.Bel W0 W := fun W hW => Free.Bel.trans _ _ _ (Bel.drewT (Free.Bel.refl _)) hW
  refine Free.wp_free (R := Free.Bel) (by kernel_rfl) (by kernel_rfl) Free.Bel.refl Free.Bel.trans ?_
  refine Free.Chain.ex ?_ [] [0] (by kernel_rfl) (by kernel_rfl) rfl Free.Bel.refl ?_ ?_
  rotate_left
  · (intro ev W hb hR hO hD; have hS := hF W hR; obtain ⟨hb1, hb2, hb3⟩ := hb; simp only [Free.AllDeps, Free.AllOuts, Free.At, List.getElem?_cons_succ, List.getElem?_cons_zero, Array.getD_eq_getD_getElem?, List.getElem?_toArray, Option.getD_some, and_true] at hO hD; go_simp; rfl)
  simp only [List.nil_append, List.cons_append]
  refine Free.Chain.pr (fun v _ => v = .int .i64 x) [(0, 7)] [] (by kernel_rfl) (by kernel_rfl) rfl (fun _ _ _ _ h => h) ?_ ?_
  · (intro ev W hb hR hO hD; have hS := hF W hR; obtain ⟨hb1, hb2, hb3⟩ := hb; simp only [Free.AllDeps, Free.AllOuts, Free.At, List.getElem?_cons_succ, List.getElem?_cons_zero, Array.getD_eq_getD_getElem?, List.getElem?_toArray, Option.getD_some, and_true] at hO hD; go_simp; refine yields_enter ?_; (with_reducible refine (agreed_v ts v _ (HV0.out _ hS) x hx).mono ?_); rintro e W2 ⟨rfl, hB2⟩; exact ⟨_, rfl, hB2, rfl⟩)
  simp only [List.nil_append, List.cons_append]
  refine Free.Chain.ex ?_ [] [3] (by kernel_rfl) (by kernel_rfl) rfl Free.Bel.refl ?_ ?_
  rotate_left
  · (intro ev W hb hR hO hD; have hS := hF W hR; obtain ⟨hb1, hb2, hb3⟩ := hb; simp only [Free.AllDeps, Free.AllOuts, Free.At, List.getElem?_cons_succ, List.getElem?_cons_zero, Array.getD_eq_getD_getElem?, List.getElem?_toArray, Option.getD_some, and_true] at hO hD; go_simp; rfl)
  simp only [List.nil_append, List.cons_append]
  refine Free.Chain.ex ?_ [(2, 9)] [] (by kernel_rfl) (by kernel_rfl) rfl Free.Bel.refl ?_ ?_
  rotate_left
  · (intro ev W hb hR hO hD; have hS := hF W hR; obtain ⟨hb1, hb2, hb3⟩ := hb; simp only [Free.AllDeps, Free.AllOuts, Free.At, List.getElem?_cons_succ, List.getElem?_cons_zero, Array.getD_eq_getD_getElem?, List.getElem?_toArray, Option.getD_some, and_true] at hO hD; go_simp; rfl)
  simp only [List.nil_append, List.cons_append]
  refine Free.Chain.pr (SlI [o]) [(3, 10)] [] (by kernel_rfl) (by kernel_rfl) rfl (SlI.stable _) ?_ ?_
  · (intro ev W hb hR hO hD; have hS := hF W hR; obtain ⟨hb1, hb2, hb3⟩ := hb; simp only [Free.AllDeps, Free.AllOuts, Free.At, List.getElem?_cons_succ, List.getElem?_cons_zero, Array.getD_eq_getD_getElem?, List.getElem?_toArray, Option.getD_some, and_true] at hO hD; go_simp; exact ⟨belAlloc _ _, SlI.one _ _ _⟩)
  simp only [List.nil_append, List.cons_append]
  refine Free.Chain.pr (fun v _ => v = .bool true) [(4, 11), (1, 8)] [] (by kernel_rfl) (by kernel_rfl) rfl (fun _ _ _ _ h => h) ?_ ?_
  · (intro ev W hb hR hO hD; have hS := hF W hR; obtain ⟨hb1, hb2, hb3⟩ := hb; simp only [Free.AllDeps, Free.AllOuts, Free.At, List.getElem?_cons_succ, List.getElem?_cons_zero, Array.getD_eq_getD_getElem?, List.getElem?_toArray, Option.getD_some, and_true] at hO hD; go_simp; refine yields_enter ?_; (with_reducible refine (in_sl 0 36 [o] true _ _ (by simp [maxLen]) h1 hD.1).mono ?_); rintro e W2 ⟨rfl, hB2⟩; exact ⟨_, rfl, hB2, rfl⟩)
  simp only [List.nil_append, List.cons_append]
  refine Free.Chain.ex ?_ [(5, 12), (5, 12)] [] (by kernel_rfl) (by kernel_rfl) rfl Free.Bel.refl ?_ ?_
  rotate_left
  · (intro ev W hb hR hO hD; have hS := hF W hR; obtain ⟨hb1, hb2, hb3⟩ := hb; simp only [Free.AllDeps, Free.AllOuts, Free.At, List.getElem?_cons_succ, List.getElem?_cons_zero, Array.getD_eq_getD_getElem?, List.getElem?_toArray, Option.getD_some, and_true] at hO hD; go_simp; rfl)
  simp only [List.nil_append, List.cons_append]
  refine Free.Chain.exG ?_ [(6, 13)] [3] 6 true 13 (by kernel_rfl) (by kernel_rfl) rfl (by kernel_rfl) Free.Bel.refl ?_ ?_
  rotate_left
  · (intro ev W hb hR hO hD; have hS := hF W hR; obtain ⟨hb1, hb2, hb3⟩ := hb; simp only [Free.AllDeps, Free.AllOuts, Free.At, List.getElem?_cons_succ, List.getElem?_cons_zero, Array.getD_eq_getD_getElem?, List.getElem?_toArray, Option.getD_some, and_true] at hO hD; refine ⟨by simp [hD], ?_⟩; go_simp; rfl)
  simp only [List.nil_append, List.cons_append]
  refine Free.Chain.exG ?_ [(7, 14), (6, 13)] [] 6 true 13 (by kernel_rfl) (by kernel_rfl) rfl (by kernel_rfl) Free.Bel.refl ?_ ?_
  rotate_left
  · (intro ev W hb hR hO hD; have hS := hF W hR; obtain ⟨hb1, hb2, hb3⟩ := hb; simp only [Free.AllDeps, Free.AllOuts, Free.At, List.getElem?_cons_succ, List.getElem?_cons_zero, Array.getD_eq_getD_getElem?, List.getElem?_toArray, Option.getD_some, and_true] at hO hD; refine ⟨by simp [hD], ?_⟩; go_simp; rfl)
  simp only [List.nil_append, List.cons_append]
  refine Free.Chain.exG ?_ [(6, 13)] [3] 6 true 13 (by kernel_rfl) (by kernel_rfl) rfl (by kernel_rfl) Free.Bel.refl ?_ ?_
  rotate_left
  · (intro ev W hb hR hO hD; have hS := hF W hR; obtain ⟨hb1, hb2, hb3⟩ := hb; simp only [Free.AllDeps, Free.AllOuts, Free.At, List.getElem?_cons_succ, List.getElem?_cons_zero, Array.getD_eq_getD_getElem?, List.getElem?_toArray, Option.getD_some, and_true] at hO hD; refine ⟨by simp [hD], ?_⟩; go_simp; rfl)
  simp only [List.nil_append, List.cons_append]
  refine Free.Chain.exG ?_ [(9, 16), (6, 13)] [] 6 true 13 (by kernel_rfl) (by kernel_rfl) rfl (by kernel_rfl) Free.Bel.refl ?_ ?_
  rotate_left
  · (intro ev W hb hR hO hD; have hS := hF W hR; obtain ⟨hb1, hb2, hb3⟩ := hb; simp only [Free.AllDeps, Free.AllOuts, Free.At, List.getElem?_cons_succ, List.getElem?_cons_zero, Array.getD_eq_getD_getElem?, List.getElem?_toArray, Option.getD_some, and_true] at hO hD; refine ⟨by simp [hD], ?_⟩; go_simp; rfl)
  simp only [List.nil_append, List.cons_append]
  refine Free.Chain.prG (SlI [f]) [(10, 17), (6, 13)] [] 6 true 13 (by kernel_rfl) (by kernel_rfl) rfl (by kernel_rfl) (SlI.stable _) ?_ ?_
  · (intro ev W hb hR hO hD; have hS := hF W hR; obtain ⟨hb1, hb2, hb3⟩ := hb; simp only [Free.AllDeps, Free.AllOuts, Free.At, List.getElem?_cons_succ, List.getElem?_cons_zero, Array.getD_eq_getD_getElem?, List.getElem?_toArray, Option.getD_some, and_true] at hO hD; refine ⟨by simp [hD], ?_⟩; go_simp; exact ⟨belAlloc _ _, SlI.one _ _ _⟩)
  simp only [List.nil_append, List.cons_append]
  refine Free.Chain.prG (fun v _ => v = .bool true) [(8, 15), (11, 18), (6, 13), (6, 13)] [] 6 true 13 (by kernel_rfl) (by kernel_rfl) rfl (by kernel_rfl) (fun _ _ _ _ h => h) ?_ ?_
  · (intro ev W hb hR hO hD; have hS := hF W hR; obtain ⟨hb1, hb2, hb3⟩ := hb; simp only [Free.AllDeps, Free.AllOuts, Free.At, List.getElem?_cons_succ, List.getElem?_cons_zero, Array.getD_eq_getD_getElem?, List.getElem?_toArray, Option.getD_some, and_true] at hO hD; refine ⟨by simp [hD], ?_⟩; go_simp; refine yields_enter ?_; (with_reducible refine (in_sl 0 o [f] true _ _ (by simp [maxLen]) h2 hD.2.1).mono ?_); rintro e W2 ⟨rfl, hB2⟩; exact ⟨_, rfl, hB2, rfl⟩)
  simp only [List.nil_append, List.cons_append]
  refine Free.Chain.ex ?_ [(6, 13), (12, 19)] [] (by kernel_rfl) (by kernel_rfl) rfl Free.Bel.refl ?_ ?_
  rotate_left
  · (intro ev W hb hR hO hD; have hS := hF W hR; obtain ⟨hb1, hb2, hb3⟩ := hb; simp only [Free.AllDeps, Free.AllOuts, Free.At, List.getElem?_cons_succ, List.getElem?_cons_zero, Array.getD_eq_getD_getElem?, List.getElem?_toArray, Option.getD_some, and_true] at hO hD; go_simp; rfl)
  simp only [List.nil_append, List.cons_append]
  refine Free.Chain.pr (fun v _ => v = .int .i64 0) [(13, 20), (12, 19)] [] (by kernel_rfl) (by kernel_rfl) rfl (fun _ _ _ _ h => h) ?_ ?_
  · (intro ev W hb hR hO hD; have hS := hF W hR; obtain ⟨hb1, hb2, hb3⟩ := hb; simp only [Free.AllDeps, Free.AllOuts, Free.At, List.getElem?_cons_succ, List.getElem?_cons_zero, Array.getD_eq_getD_getElem?, List.getElem?_toArray, Option.getD_some, and_true] at hO hD; go_simp; refine yields_enter ?_; (with_reducible refine (unless_any _ _ 0 _ rfl).mono ?_); rintro e W2 ⟨rfl, rfl⟩; exact ⟨_, rfl, Free.Bel.refl _, rfl⟩)
  simp only [List.nil_append, List.cons_append]
  refine Free.Chain.pr (SlI [x, 0]) [(1, 8), (14, 21)] [] (by kernel_rfl) (by kernel_rfl) rfl (SlI.stable _) ?_ ?_
  · (intro ev W hb hR hO hD; have hS := hF W hR; obtain ⟨hb1, hb2, hb3⟩ := hb; simp only [Free.AllDeps, Free.AllOuts, Free.At, List.getElem?_cons_succ, List.getElem?_cons_zero, Array.getD_eq_getD_getElem?, List.getElem?_toArray, Option.getD_some, and_true] at hO hD; go_simp; exact ⟨belAlloc _ _, SlI.two _ _ _ _⟩)
  simp only [List.nil_append, List.cons_append]
  refine Free.Chain.pr (fun v _ => v = .int .i64 0) [(15, 22), (14, 21)] [] (by kernel_rfl) (by kernel_rfl) rfl (fun _ _ _ _ h => h) ?_ ?_
  · (intro ev W hb hR hO hD; have hS := hF W hR; obtain ⟨hb1, hb2, hb3⟩ := hb; simp only [Free.AllDeps, Free.AllOuts, Free.At, List.getElem?_cons_succ, List.getElem?_cons_zero, Array.getD_eq_getD_getElem?, List.getElem?_toArray, Option.getD_some, and_true] at hO hD; go_simp; refine yields_enter ?_; (with_reducible refine (first_sl [x, 0] 0 _ _ (by simp [maxLen]) hz.out hD.1).mono ?_); rintro e W2 ⟨rfl, rfl⟩; exact ⟨_, rfl, Free.Bel.refl _, rfl⟩)
  simp only [List.nil_append, List.cons_append]
  refine Free.Chain.ex ?_ [(16, 23), (16, 23), (0, 7), (1, 8), (2, 9), (3, 10), (4, 11), (5, 12), (6, 13), (7, 14), (8, 15), (9, 16), (10, 17), (11, 18), (12, 19), (13, 20), (14, 21), (15, 22), (16, 23)] [] (by kernel_rfl) (by kernel_rfl) rfl Free.Bel.refl ?_ ?_
  rotate_left
  · (intro ev W hb hR hO hD; have hS := hF W hR; obtain ⟨hb1, hb2, hb3⟩ := hb; simp only [Free.AllDeps, Free.AllOuts, Free.At, List.getElem?_cons_succ, List.getElem?_cons_zero, Array.getD_eq_getD_getElem?, List.getElem?_toArray, Option.getD_some, and_true] at hO hD; go_simp; rfl)
  simp only [List.nil_append, List.cons_append]
  intro xs w2 hR hV
  simp only [Free.AllV, Free.At, List.length_cons, List.length_nil, Nat.reduceAdd, List.getElem?_cons_succ, List.getElem?_cons_zero, true_and] at hV
  simp only [Free.putsFrom, Act.put, Nat.zero_add, Nat.reduceAdd, hV, List.setIfInBounds_toArray, List.set_cons_succ, List.set_cons_zero]
  have HK2 := hF w2 hR
  have hv2 := HV0.out w2 HK2
  clear hR hV hF
  go_wp2_with fail
  refine (off_any ts v o f _ hv2 hts.out q1 ⟨q2.1, by omega⟩).mono ?_
  rintro e w3 ⟨rfl, hB3⟩
  have K_w3 : Free.Bel W0 w3 := by
    refine Free.Bel.trans _ _ _ ?_ hB3
    repeat (first | exact HK2 | exact Free.Bel.refl _ | refine Bel.allocT ?_ _ | refine Bel.drewT ?_)
  clear hB3
  go_wp2_with fail
  go_ret2
  have hbb := HBB.out
  subst hbb
  exact ⟨rfl, HB0.out.trans (K_w3.mono (by omega))⟩
theorem offA_any (xs : List (Int × Int)) (v : Value) (o f : Int) (w : World) (hv : PL xs v w) :
    Calls Tryd.prog 22 #[v, .agg #[.int .i64 o, .int .i64 f]] w fun e w' => e = .returned (offAll xs o f) ∧ Below w.heap.size w w' := by
  by_cases hz : offE xs o f = 0
  · have h0 := offE_zero hz
    have hd := h0.2
    simp only [drawB, Bool.and_eq_true] at hd
    rw [offAll, if_neg (by simp [hz])]
    exact offA_d xs v o f w hv hd.1 hd.2 _ rfl (by show _ = _; simp [h0.1, firstE]) (agreedE_mem h0.1)
  · rw [offAll, if_pos hz]
    cases h1 : inB 0 36 [o]
    · have e : offE xs o f = firstE [agreedE xs, 11] := by simp [offE, drawB, h1, unlessV]
      rw [e] at hz ⊢
      exact offA_a xs v o f w hv h1 _ _ rfl rfl (by simpa using hz)
    · cases h2 : inB 0 o [f]
      · have e : offE xs o f = firstE [agreedE xs, 11] := by simp [offE, drawB, h1, h2, unlessV]
        rw [e] at hz ⊢
        exact offA_b xs v o f w hv h1 h2 _ _ rfl rfl (by simpa using hz)
      · have e : offE xs o f = firstE [agreedE xs, 0] := by simp [offE, drawB, h1, h2, unlessV]
        rw [e] at hz ⊢
        exact offA_c xs v o f w hv h1 h2 _ _ rfl rfl (by simpa using hz)
end Go.Proofs.YtinndhmjojpekaaDoor

/- The middle of what is found. -/
namespace Go.Proofs.YtinndhmjojpekaaDoor
set_option linter.unusedSimpArgs false
set_option linter.unusedVariables false
open Go.RowKit Go.Proofs.YtinndhmjojpekaaDoor.ML Go.Proofs.YtinndhmjojpekaaDoor.Samp

/-- The error of a number of dirty bags, and of opened ones. -/
def meanE (N lo hi D o : Int) : Int := firstE [unlessV (inB lo hi [D]) 2, unlessV (inB 0 N [o]) 2]

end Go.Proofs.YtinndhmjojpekaaDoor

/- The helpers of chapter 01's laws that make cargoes, draws, fractions, a double rule, terms. -/
namespace Go.Proofs.YtinndhmjojpekaaDoor
set_option linter.unusedSimpArgs false
set_option linter.unusedVariables false
open Go.RowKit

set_option maxRecDepth 100000 in
set_option maxHeartbeats 1000000 in
theorem bags_any (n : Int) (w : World) : Calls Tryd.prog 11 #[.int .i64 n] w fun e w' => e = .returned (.agg #[.int .i64 n, .int .i64 0, .int .i64 n]) ∧ Below w.heap.size w w' := by
  have hB : Below w.heap.size w (w.alloc (.cells #[.int .i64 0, .int .i64 0, .int .i64 0] 25)) := (Below.refl _ w).alloc (Nat.le_refl _) _
  go_enter Tryd.func11, Tryd.ntmps11
  go_wp2_with fail
  refine bodyPost_ret (v := .agg #[.int .i64 n, .int .i64 0, .int .i64 n]) (by simp [results, Tryd.results11, go_sem]) rfl ⟨rfl, ?_⟩
  exact (Below.refl _ w).alloc (Nat.le_refl _) _
set_option maxRecDepth 100000 in
set_option maxHeartbeats 1000000 in
theorem drawn_any (a b : Int) (w : World) : Calls Tryd.prog 14 #[.int .i64 a, .int .i64 b] w fun e w' => e = .returned (.agg #[.int .i64 a, .int .i64 b]) ∧ Below w.heap.size w w' := by
  have hB : Below w.heap.size w (w.alloc (.cells #[.int .i64 0, .int .i64 0] 49)) := (Below.refl _ w).alloc (Nat.le_refl _) _
  go_enter Tryd.func14, Tryd.ntmps14
  go_wp2_with fail
  refine bodyPost_ret (v := .agg #[.int .i64 a, .int .i64 b]) (by simp [results, Tryd.results14, go_sem]) rfl ⟨rfl, ?_⟩
  exact (Below.refl _ w).alloc (Nat.le_refl _) _
set_option maxRecDepth 100000 in
set_option maxHeartbeats 1000000 in
theorem partL_any (a b : Int) (w : World) : Calls Tryd.prog 10 #[.int .i64 a, .int .i64 b] w fun e w' => e = .returned (.agg #[.int .i64 a, .int .i64 b]) ∧ Below w.heap.size w w' := by
  have hB : Below w.heap.size w (w.alloc (.cells #[.int .i64 0, .int .i64 0] 32)) := (Below.refl _ w).alloc (Nat.le_refl _) _
  go_enter Tryd.func10, Tryd.ntmps10
  go_wp2_with fail
  refine bodyPost_ret (v := .agg #[.int .i64 a, .int .i64 b]) (by simp [results, Tryd.results10, go_sem]) rfl ⟨rfl, ?_⟩
  exact (Below.refl _ w).alloc (Nat.le_refl _) _
set_option maxRecDepth 100000 in
set_option maxHeartbeats 1000000 in
theorem twice1_any (w : World) : Calls Tryd.prog 21 #[] w fun e w' => e = .returned (.agg #[.int .i64 2, .int .i64 0, .int .i64 2, .int .i64 2, .int .i64 1]) ∧ Below w.heap.size w w' := by
  have hB : Below w.heap.size w (w.alloc (.cells #[.int .i64 0, .int .i64 0, .int .i64 0, .int .i64 0, .int .i64 0] 29)) := (Below.refl _ w).alloc (Nat.le_refl _) _
  go_enter Tryd.func21, Tryd.ntmps21
  go_wp2_with fail
  refine bodyPost_ret (v := .agg #[.int .i64 2, .int .i64 0, .int .i64 2, .int .i64 2, .int .i64 1]) (by simp [results, Tryd.results21, go_sem]) rfl ⟨rfl, ?_⟩
  exact (Below.refl _ w).alloc (Nat.le_refl _) _
set_option maxRecDepth 100000 in
set_option maxHeartbeats 1000000 in
theorem terms_any (w : World) : Calls Tryd.prog 23 #[] w fun e w' => ∃ v, e = .returned v ∧ PL [(5, 100), (10, 300), (30, 1000)] v w' ∧ Below w.heap.size w w' := by
  have hB : Below w.heap.size w (w.alloc (.cells #[.int .i64 5, .int .i64 100, .int .i64 10, .int .i64 300, .int .i64 30, .int .i64 1000] 102)) := (Below.refl _ w).alloc (Nat.le_refl _) _
  go_enter Tryd.func23, Tryd.ntmps23
  go_wp2_with fail
  go_ret
  refine ⟨_, rfl, ⟨_, _, rfl, by simp [maxLen], fun _ => ⟨_, 0, rfl, fun k hk => ?_⟩⟩, hB⟩
  match k, hk with
  | 0, _ => simp [go_sem]
  | 1, _ => simp [go_sem]
  | 2, _ => simp [go_sem]
end Go.Proofs.YtinndhmjojpekaaDoor

/- The helpers of chapter 01's laws that take numbers: a number of the span, a fraction as so many of a number, fractions compared. -/
namespace Go.Proofs.YtinndhmjojpekaaDoor
set_option linter.unusedSimpArgs false
set_option linter.unusedVariables false
open Go.RowKit Go.Proofs.YtinndhmjojpekaaDoor.ML Go.Proofs.YtinndhmjojpekaaDoor.Samp

theorem belDrewN {s : Nat} {a w : World} (h : Below s a w) (n : Nat) : Below s a (w.drewN n) := ⟨h.os, h.tape, h.output, h.size, h.block⟩
theorem over_spec (m all p q : Int) (h0 : 0 ≤ m) (h1 : m ≤ all) (h2 : 0 < all) (hv : partV m.toNat all.toNat = .agg #[.int .i64 p, .int .i64 q]) : 1 ≤ q ∧ q ≤ all ∧ all % q = 0 ∧ 0 ≤ p ∧ p ≤ q ∧ p * (all / q) = m := by
  obtain ⟨a, rfl⟩ := Int.eq_ofNat_of_zero_le h0
  obtain ⟨b, rfl⟩ := Int.eq_ofNat_of_zero_le (Int.le_of_lt h2)
  simp only [partV, lowest, Int.toNat_natCast, Value.agg.injEq, Array.mk.injEq, List.cons.injEq, Value.int.injEq, true_and, and_true] at hv
  obtain ⟨rfl, rfl⟩ := hv
  have hb : 0 < b := by omega
  have hg : 0 < Nat.gcd a b := Nat.gcd_pos_of_pos_right a hb
  have hd1 := Nat.gcd_dvd_left a b
  have hd2 := Nat.gcd_dvd_right a b
  generalize hge : Nat.gcd a b = g at *
  obtain ⟨x, rfl⟩ := hd1
  obtain ⟨y, rfl⟩ := hd2
  rw [Nat.mul_div_cancel_left _ hg, Nat.mul_div_cancel_left _ hg]
  have hy : 0 < y := Nat.pos_of_mul_pos_left hb
  have hxy : x ≤ y := by
    have : g * x ≤ g * y := by exact_mod_cast h1
    exact Nat.le_of_mul_le_mul_left this hg
  have hgy : y ≤ g * y := Nat.le_mul_of_pos_left y hg
  refine ⟨by omega, by exact_mod_cast hgy, ?_, by omega, by omega, ?_⟩
  · rw [← Int.natCast_emod, Nat.mul_mod_left]; rfl
  · rw [← Int.natCast_ediv, Nat.mul_div_cancel _ hy, ← Int.natCast_mul, Nat.mul_comm]
theorem atMost_step (x y q a b c d : Int) (hb : 0 < b) (hd : 0 < d) (ha : a = b * q + x) (hc : c = d * q + y) : (a * d ≤ c * b) ↔ (d * x ≤ y * b) := by
  subst ha hc
  have e1 : (b * q + x) * d = b * q * d + d * x := by rw [Int.add_mul, Int.mul_comm x d]
  have e2 : (d * q + y) * b = b * q * d + y * b := by rw [Int.add_mul, show d * q * b = b * q * d by ac_rfl]
  rw [e1, e2]; omega
theorem atMost_less (a b c d : Int) (hb : 0 < b) (hd : 0 < d) (h : a / b < c / d) : a * d ≤ c * b := by
  have h1 : a < b * (a / b + 1) := Int.lt_mul_ediv_self_add hb |> fun h => by rw [Int.mul_add, Int.mul_one]; exact h
  have h2 : d * (c / d) ≤ c := Int.mul_ediv_self_le (by omega)
  have h3 : a * d ≤ b * (a / b + 1) * d := Int.mul_le_mul_of_nonneg_right (by omega) (by omega)
  have h4 : b * (a / b + 1) * d ≤ b * (c / d) * d := Int.mul_le_mul_of_nonneg_right (Int.mul_le_mul_of_nonneg_left (by omega) (by omega)) (by omega)
  have h5 : d * (c / d) * b ≤ c * b := Int.mul_le_mul_of_nonneg_right h2 (by omega)
  have e : b * (c / d) * d = d * (c / d) * b := by ac_rfl
  omega
theorem atMost_more (a b c d : Int) (hb : 0 < b) (hd : 0 < d) (h : c / d < a / b) : ¬ a * d ≤ c * b := by
  have h1 : c < d * (c / d + 1) := Int.lt_mul_ediv_self_add hd |> fun h => by rw [Int.mul_add, Int.mul_one]; exact h
  have h2 : b * (a / b) ≤ a := Int.mul_ediv_self_le (by omega)
  have h3 : c * b < d * (c / d + 1) * b := Int.mul_lt_mul_of_pos_right h1 hb
  have h4 : d * (c / d + 1) * b ≤ d * (a / b) * b := Int.mul_le_mul_of_nonneg_right (Int.mul_le_mul_of_nonneg_left (by omega) (by omega)) (by omega)
  have h5 : b * (a / b) * d ≤ a * d := Int.mul_le_mul_of_nonneg_right h2 (by omega)
  have e : d * (a / b) * b = b * (a / b) * d := by ac_rfl
  omega

set_option maxRecDepth 100000 in
set_option maxHeartbeats 2000000 in
theorem some_any (N lo hi x : Int) (w : World) (hlo : 0 ≤ lo ∧ lo ≤ hi ∧ hi ≤ 36) (hx : 0 ≤ x ∧ x ≤ 255) :
    Calls Tryd.prog 6 #[.agg #[.int .i64 N, .int .i64 lo, .int .i64 hi], .int .u8 x] w fun e w' => (∃ D, e = .returned (.int .i64 D) ∧ lo ≤ D ∧ D ≤ hi) ∧ Below w.heap.size w w' := by
  have hm0 : 0 ≤ x % (hi - lo + 1) := Int.emod_nonneg _ (by omega)
  have hm1 : x % (hi - lo + 1) < hi - lo + 1 := Int.emod_lt_of_pos _ (by omega)
  have hc : IntKind.i64.wrap x = x := IntWalk.i64_in _ (by omega)
  have hs : IntKind.i64.wrap (hi - lo) = hi - lo := IntWalk.i64_in _ (by omega)
  have hs2 : IntKind.i64.wrap (hi - lo + 1) = hi - lo + 1 := IntWalk.i64_in _ (by omega)
  have hne : (hi - lo + 1 != 0) = true := by simp; omega
  have ht : x.tmod (hi - lo + 1) = x % (hi - lo + 1) := Int.tmod_eq_emod_of_nonneg hx.1
  have hs3 : IntKind.i64.wrap (x % (hi - lo + 1)) = x % (hi - lo + 1) := IntWalk.i64_in _ (by omega)
  have hs4 : IntKind.i64.wrap (lo + x % (hi - lo + 1)) = lo + x % (hi - lo + 1) := IntWalk.i64_in _ (by omega)
  have hB0 : Below w.heap.size w (w.alloc (.cells #[.int .i64 N, .int .i64 lo, .int .i64 hi] 25)) := (Below.refl _ w).alloc (Nat.le_refl _) _
  have c0_0 : (w.alloc (.cells #[.int .i64 N, .int .i64 lo, .int .i64 hi] 25)).cell? ⟨w.heap.size, 0, none⟩ = some (.int .i64 N) := by simp [go_sem]
  have c0_1 : (w.alloc (.cells #[.int .i64 N, .int .i64 lo, .int .i64 hi] 25)).cell? ⟨w.heap.size, 1, none⟩ = some (.int .i64 lo) := by simp [go_sem]
  have c0_2 : (w.alloc (.cells #[.int .i64 N, .int .i64 lo, .int .i64 hi] 25)).cell? ⟨w.heap.size, 2, none⟩ = some (.int .i64 hi) := by simp [go_sem]
  go_enter Tryd.func6, Tryd.ntmps6
  go_wp2_with fail
  generalize (w.alloc (.cells #[.int .i64 N, .int .i64 lo, .int .i64 hi] 25)) = W0 at *
  go_quiet (fail)
  go_wp2_with fail
  go_ret
  exact ⟨⟨_, rfl, by omega, by omega⟩, belDrewN hB0 _⟩

/-- Two blocks that are stored at the end of a region, and what must be read ahead of that. -/
structure FO (L : List Nat) (mb i1 b1 i2 b2 : Nat) (x1 y1 u1 v1 x2 y2 u2 v2 : Value) (X : Free2.XT) (w : World) : Prop where
  f : F2 mb i1 b1 i2 b2 x1 y1 u1 v1 x2 y2 u2 v2 X w
  bef : ∀ j ∈ L, X j = none → X i1 = none ∧ X i2 = none
section
open Free2
variable {L : List Nat} {mb i1 b1 i2 b2 : Nat} {x1 y1 u1 v1 x2 y2 u2 v2 : Value} {X : XT} {w w' : World} {rs : List Nat}
theorem FO.start (h1 : Two b1 x1 y1 w) (h2 : Two b2 x2 y2 w) (hne : b1 ≠ b2 ∧ b1 ≠ mb ∧ b2 ≠ mb) : FO L mb i1 b1 i2 b2 x1 y1 u1 v1 x2 y2 u2 v2 (fun _ => none) w := ⟨.start h1 h2 hne, fun _ _ _ => ⟨rfl, rfl⟩⟩
theorem FO.skip (h : FO L mb i1 b1 i2 b2 x1 y1 u1 v1 x2 y2 u2 v2 X w) (n : Nat) (v : Value) (h1 : n ≠ i1) (h2 : n ≠ i2) : FO L mb i1 b1 i2 b2 x1 y1 u1 v1 x2 y2 u2 v2 (upd X n v) w :=
  ⟨h.f.skip n v h1 h2, fun j hj hx => by
    by_cases e : j = n
    · subst e; rw [upd_same] at hx; cases hx
    · rw [upd_other _ _ e] at hx
      rw [upd_other _ _ h1.symm, upd_other _ _ h2.symm]
      exact h.bef j hj hx⟩
theorem FO.kept (h : FO L mb i1 b1 i2 b2 x1 y1 u1 v1 x2 y2 u2 v2 X w) (hK : Kept mb w w') : FO L mb i1 b1 i2 b2 x1 y1 u1 v1 x2 y2 u2 v2 X w' := ⟨h.f.kept hK, h.bef⟩
theorem FO.old (h : FO L mb i1 b1 i2 b2 x1 y1 u1 v1 x2 y2 u2 v2 X w) (j : Nat) (hj : j ∈ L) (hx : X j = none) : Two b1 x1 y1 w ∧ Two b2 x2 y2 w := ⟨h.f.a.old (h.bef j hj hx).1, h.f.b.old (h.bef j hj hx).2⟩
theorem FO.at1 (h : FO L mb i1 b1 i2 b2 x1 y1 u1 v1 x2 y2 u2 v2 X w) (h12 : i1 ≠ i2) (h1 : b1 ∈ rs) (hx : X i1 = none) (hL : ∀ j ∈ L, X j ≠ none ∧ j ≠ i1) :
    Two b1 x1 y1 w ∧ KeptX mb rs w ((w.setCell ⟨b1, 0, none⟩ u1).setCell ⟨b1, 1, none⟩ v1) ∧ ∀ v, FO L mb i1 b1 i2 b2 x1 y1 u1 v1 x2 y2 u2 v2 (upd X i1 v) ((w.setCell ⟨b1, 0, none⟩ u1).setCell ⟨b1, 1, none⟩ v1) :=
  let ⟨a, b, c⟩ := h.f.at1 h12 h1 hx
  ⟨a, b, fun v => ⟨c v, fun j hj hx => by rw [upd_other _ _ (hL j hj).2] at hx; exact absurd hx (hL j hj).1⟩⟩
theorem FO.at2 (h : FO L mb i1 b1 i2 b2 x1 y1 u1 v1 x2 y2 u2 v2 X w) (h12 : i1 ≠ i2) (h1 : b2 ∈ rs) (hx : X i2 = none) (hL : ∀ j ∈ L, X j ≠ none ∧ j ≠ i2) :
    Two b2 x2 y2 w ∧ KeptX mb rs w ((w.setCell ⟨b2, 0, none⟩ u2).setCell ⟨b2, 1, none⟩ v2) ∧ ∀ v, FO L mb i1 b1 i2 b2 x1 y1 u1 v1 x2 y2 u2 v2 (upd X i2 v) ((w.setCell ⟨b2, 0, none⟩ u2).setCell ⟨b2, 1, none⟩ v2) :=
  let ⟨a, b, c⟩ := h.f.at2 h12 h1 hx
  ⟨a, b, fun v => ⟨c v, fun j hj hx => by rw [upd_other _ _ (hL j hj).2] at hx; exact absurd hx (hL j hj).1⟩⟩
end

set_option maxRecDepth 100000 in
set_option maxHeartbeats 2000000 in
theorem atMostL_any (a0 b0 c0 d0 : Int) (w : World) (ha : 0 ≤ a0 ∧ a0 ≤ 9000000000000000000) (hb : 1 ≤ b0 ∧ b0 ≤ 9000000000000000000) (hc : 0 ≤ c0 ∧ c0 ≤ 9000000000000000000) (hd : 1 ≤ d0 ∧ d0 ≤ 9000000000000000000) :
    Calls Tryd.prog 9 #[.agg #[.int .i64 a0, .int .i64 b0], .agg #[.int .i64 c0, .int .i64 d0]] w fun e w' => e = .returned (.bool (decide (a0 * d0 ≤ c0 * b0))) ∧ Below w.heap.size w w' := by
  have hB0 : Below w.heap.size w ((w.alloc (.cells #[.int .i64 a0, .int .i64 b0] 32)).alloc (.cells #[.int .i64 c0, .int .i64 d0] 32)) := ((Below.refl _ w).alloc (Nat.le_refl _) _).alloc (by simp) _
  have q0_0 : ((w.alloc (.cells #[.int .i64 a0, .int .i64 b0] 32)).alloc (.cells #[.int .i64 c0, .int .i64 d0] 32)).cell? ⟨w.heap.size, 0, none⟩ = some (.int .i64 a0) := by simp [go_sem]
  have q0_1 : ((w.alloc (.cells #[.int .i64 a0, .int .i64 b0] 32)).alloc (.cells #[.int .i64 c0, .int .i64 d0] 32)).cell? ⟨w.heap.size, 1, none⟩ = some (.int .i64 b0) := by simp [go_sem]
  have q1_0 : ((w.alloc (.cells #[.int .i64 a0, .int .i64 b0] 32)).alloc (.cells #[.int .i64 c0, .int .i64 d0] 32)).cell? ⟨w.heap.size + 1, 0, none⟩ = some (.int .i64 c0) := by simp [go_sem]
  have q1_1 : ((w.alloc (.cells #[.int .i64 a0, .int .i64 b0] 32)).alloc (.cells #[.int .i64 c0, .int .i64 d0] 32)).cell? ⟨w.heap.size + 1, 1, none⟩ = some (.int .i64 d0) := by simp [go_sem]
  have f0_0 : ((w.alloc (.cells #[.int .i64 a0, .int .i64 b0] 32)).alloc (.cells #[.int .i64 c0, .int .i64 d0] 32)).frozen? ⟨w.heap.size, 0, none⟩ = false := by simp [go_sem]
  have f0_1 : ((w.alloc (.cells #[.int .i64 a0, .int .i64 b0] 32)).alloc (.cells #[.int .i64 c0, .int .i64 d0] 32)).frozen? ⟨w.heap.size, 1, none⟩ = false := by simp [go_sem]
  have f1_0 : ((w.alloc (.cells #[.int .i64 a0, .int .i64 b0] 32)).alloc (.cells #[.int .i64 c0, .int .i64 d0] 32)).frozen? ⟨w.heap.size + 1, 0, none⟩ = false := by simp [go_sem]
  have f1_1 : ((w.alloc (.cells #[.int .i64 a0, .int .i64 b0] 32)).alloc (.cells #[.int .i64 c0, .int .i64 d0] 32)).frozen? ⟨w.heap.size + 1, 1, none⟩ = false := by simp [go_sem]
  obtain ⟨r, hr⟩ : ∃ r, decide (a0 * d0 ≤ c0 * b0) = r := ⟨_, rfl⟩
  rw [hr]
  have HR := Lib.hid hr
  clear hr
  have T10 : Two w.heap.size (.int .i64 a0) (.int .i64 b0) ((w.alloc (.cells #[.int .i64 a0, .int .i64 b0] 32)).alloc (.cells #[.int .i64 c0, .int .i64 d0] 32)) := ⟨q0_0, q0_1, f0_0, f0_1⟩
  have T20 : Two (w.heap.size + 1) (.int .i64 c0) (.int .i64 d0) ((w.alloc (.cells #[.int .i64 a0, .int .i64 b0] 32)).alloc (.cells #[.int .i64 c0, .int .i64 d0] 32)) := ⟨q1_0, q1_1, f1_0, f1_1⟩
  have HT1 := Lib.hid T10
  have HT2 := Lib.hid T20
  have HB0 := Lib.hid hB0
  have HSZ := Lib.hid (show ((w.alloc (.cells #[.int .i64 a0, .int .i64 b0] 32)).alloc (.cells #[.int .i64 c0, .int .i64 d0] 32)).heap.size = w.heap.size + 2 by simp)
  go_enter Tryd.func9, Tryd.ntmps9
  go_wp2_with fail
  clear T10 T20 hB0 q0_0 q0_1 q1_0 q1_1 f0_0 f0_1 f1_0 f1_1
  generalize ((w.alloc (.cells #[.int .i64 a0, .int .i64 b0] 32)).alloc (.cells #[.int .i64 c0, .int .i64 d0] 32)) = W0 at *
  generalize hbb : w.heap.size = bb at *
  have HBB := Lib.hid hbb
  clear hbb
  go_loopw [5] (fun p wr => ∃ a b c d : Int, (0 ≤ a ∧ a ≤ 9000000000000000000) ∧ (1 ≤ b ∧ b ≤ 9000000000000000000) ∧ (0 ≤ c ∧ c ≤ 9000000000000000000) ∧ (1 ≤ d ∧ d ≤ 9000000000000000000) ∧ Two bb (.int .i64 a) (.int .i64 b) wr ∧ Two (bb + 1) (.int .i64 c) (.int .i64 d) wr ∧ Hid (decide (a * d ≤ c * b) = r) ∧ bb + 2 ≤ wr.heap.size ∧ Below bb w wr) (fun _ wr => (intOf ((wr.cell? ⟨bb, 1, none⟩).getD undef)).toNat + (intOf ((wr.cell? ⟨bb + 1, 1, none⟩).getD undef)).toNat)
  case atStart => exact ⟨a0, b0, c0, d0, ha, hb, hc, hd, HT1.out, HT2.out, HR, by have := HSZ.out; omega, HB0.out⟩
  case round =>
    obtain ⟨a, b, c, d, ha, hb, hc, hd, T1, T2, hres, hsz, hB⟩ := hrel
    have HRES := hres
    have HBL := Lib.hid hB
    clear hB
    have s1 := T1.c0
    have s2 := T1.c1
    have s3 := T2.c0
    have s4 := T2.c1
    have n1 : (b != 0) = true := by simp; omega
    have n2 : (d != 0) = true := by simp; omega
    have g1 : a.tdiv b = a / b := Int.tdiv_eq_ediv_of_nonneg ha.1
    have g2 : c.tdiv d = c / d := Int.tdiv_eq_ediv_of_nonneg hc.1
    have g3 : a.tmod b = a % b := Int.tmod_eq_emod_of_nonneg ha.1
    have g4 : c.tmod d = c % d := Int.tmod_eq_emod_of_nonneg hc.1
    have e1 := Int.mul_ediv_add_emod a b
    have e2 := Int.mul_ediv_add_emod c d
    have l1 : 0 ≤ a / b := Int.ediv_nonneg ha.1 (by omega)
    have l2 : a / b ≤ a := Int.ediv_le_self _ ha.1
    have l3 : 0 ≤ c / d := Int.ediv_nonneg hc.1 (by omega)
    have l4 : c / d ≤ c := Int.ediv_le_self _ hc.1
    have m1 : 0 ≤ a % b := Int.emod_nonneg _ (by omega)
    have m2 : a % b < b := Int.emod_lt_of_pos _ (by omega)
    have m3 : 0 ≤ c % d := Int.emod_nonneg _ (by omega)
    have m4 : c % d < d := Int.emod_lt_of_pos _ (by omega)
    have HE := Lib.hid (And.intro (atMost_step (a % b) (c % d) (a / b) a b c d (by omega) (by omega) e1.symm) (show a / b = c / d → c = d * (a / b) + c % d from fun e => by rw [e]; exact e2.symm))
    have HLS := Lib.hid (And.intro (atMost_less a b c d (by omega) (by omega)) (atMost_more a b c d (by omega) (by omega)))
    obtain ⟨p, hp⟩ : ∃ p, a / b = p := ⟨_, rfl⟩
    obtain ⟨q, hq⟩ : ∃ q, c / d = q := ⟨_, rfl⟩
    obtain ⟨x, hx⟩ : ∃ x, a % b = x := ⟨_, rfl⟩
    obtain ⟨y, hy⟩ : ∃ y, c % d = y := ⟨_, rfl⟩
    rw [hp, hq, hx, hy] at HE
    rw [hp, hq] at HLS
    rw [hp] at g1 l1 l2
    rw [hq] at g2 l3 l4
    rw [hx] at g3 m1 m2
    rw [hy] at g4 m3 m4
    have w1 : IntKind.i64.wrap p = p := IntWalk.i64_in _ (by omega)
    have w2 : IntKind.i64.wrap q = q := IntWalk.i64_in _ (by omega)
    have w3 : IntKind.i64.wrap x = x := IntWalk.i64_in _ (by omega)
    have w4 : IntKind.i64.wrap y = y := IntWalk.i64_in _ (by omega)
    clear hp hq hx hy e1 e2 hres
    by_cases hpq : p = q
    · subst hpq
      have HQ := Lib.hid (HE.out.1 (HE.out.2 rfl))
      clear HE HLS
      by_cases hx0 : x = 0
      · have hx1 : (x == 0) = true := by simp [hx0]
        go_wp2_with fail
        go_quiet (fail)
        go_wp2_with fail
        go_quiet (fail)
        go_wp2_with fail
        go_ret
        refine ⟨?_, ?_⟩
        · have hr1 : r = true := by rw [← HRES.out, decide_eq_true (HQ.out.2 (by rw [hx0]; have := Int.mul_nonneg m3 (show (0 : Int) ≤ b by omega); simpa using this))]
          rw [hr1]; rfl
        · have hbb := HBB.out
          subst hbb
          repeat (first | exact HBL.out | refine belDrewN ?_ _)
      · have hx1 : (x == 0) = false := by simp [hx0]
        by_cases hy0 : y = 0
        · have hy1 : (y == 0) = true := by simp [hy0]
          go_wp2_with fail
          go_quiet (fail)
          go_wp2_with fail
          go_quiet (fail)
          go_wp2_with fail
          go_ret
          refine ⟨?_, ?_⟩
          · have hr1 : r = false := by
              rw [← HRES.out, decide_eq_false (fun h => by
                have := HQ.out.1 h
                rw [hy0, Int.zero_mul] at this
                have h2 := Int.mul_pos (show (0 : Int) < d by omega) (show (0 : Int) < x by omega)
                omega)]
            rw [hr1]; rfl
          · have hbb := HBB.out
            subst hbb
            repeat (first | exact HBL.out | refine belDrewN ?_ _)
        · have hy1 : (y == 0) = false := by simp [hy0]
          go_wp2_with fail
          go_quiet (fail)
          go_wp2_with fail
          go_quiet (fail)
          go_wp2_with fail
          generalize hw9 : wr.drewN _ = w9 at *
          have T1 : Two bb (.int .i64 a) (.int .i64 b) w9 := by rw [← hw9]; exact ⟨T1.c0, T1.c1, T1.f0, T1.f1⟩
          have T2 : Two (bb + 1) (.int .i64 c) (.int .i64 d) w9 := by rw [← hw9]; exact ⟨T2.c0, T2.c1, T2.f0, T2.f1⟩
          have HBL := Lib.hid (show Below bb w w9 by rw [← hw9]; repeat (first | exact HBL.out | refine belDrewN ?_ _))
          have hsz : bb + 2 ≤ w9.heap.size := by rw [← hw9]; exact hsz
          have T1 : Two bb (.int .i64 a) (.int .i64 b) w9.drew := ⟨T1.c0, T1.c1, T1.f0, T1.f1⟩
          have T2 : Two (bb + 1) (.int .i64 c) (.int .i64 d) w9.drew := ⟨T2.c0, T2.c1, T2.f0, T2.f1⟩
          clear hw9
          have hF : ∀ W, KeptX (bb + 2) [bb, bb + 1] w9.drew W → KeptX (bb + 2) [bb, bb + 1] w9 W := fun W hW => KeptX.trans ((KeptX.refl _ _ _).drew) hW
          refine Free2.wp_free (R := KeptX (bb + 2) [bb, bb + 1]) (J := FO [1, 5] (bb + 2) 8 bb 9 (bb + 1) (.int .i64 a) (.int .i64 b) (.int .i64 d) (.int .i64 y) (.int .i64 c) (.int .i64 d) (.int .i64 b) (.int .i64 x)) (by kernel_rfl) (by kernel_rfl) (KeptX.refl _ _) (fun _ _ _ => KeptX.trans) (FO.start T1 T2 (by omega)) ?_
          refine Free2.Chain.ex ?_ 0 rfl [] [3] (by kernel_rfl) (by kernel_rfl) rfl (KeptX.refl _ _) (fun X W v h => FO.skip h 0 v (show (0 : Nat) ≠ 8 by decide) (show (0 : Nat) ≠ 9 by decide)) ?_ ?_
          rotate_left
          · (intro ev W hb hR hO hD; have hS := hF W hR; obtain ⟨hb1, hb2, hb3⟩ := hb; simp only [Free.AllDeps, Free.AllOuts, Free.At, List.getElem?_cons_succ, List.getElem?_cons_zero, Array.getD_eq_getD_getElem?, List.getElem?_toArray, Option.getD_some, and_true] at hO hD; go_simp; rfl)
          simp only [List.nil_append, List.cons_append]
          refine Free2.Chain.pr (fun v _ => v = .int .i64 d) 1 rfl [(0, 36)] [] (by kernel_rfl) (by kernel_rfl) rfl (fun _ _ _ _ h => h) ?_ ?_
          · (intro ev W X hb hR hO hD hj hx hax; have hS := hF W hR; obtain ⟨hb1, hb2, hb3⟩ := hb; simp only [Free.AllDeps, Free.AllOuts, Free.At, List.getElem?_cons_succ, List.getElem?_cons_zero, Array.getD_eq_getD_getElem?, List.getElem?_toArray, Option.getD_some, and_true] at hO hD; simp only [Free2.AllX, and_true] at hax; obtain ⟨t1, t2⟩ := hj.old 1 (by decide) hx; have s1 := t2.c1; go_simp; exact ⟨KeptX.refl _ _ _, rfl, hj.skip 1 _ (by decide) (by decide)⟩)
          simp only [List.nil_append, List.cons_append]
          refine Free2.Chain.ex ?_ 2 rfl [] [6] (by kernel_rfl) (by kernel_rfl) rfl (KeptX.refl _ _) (fun X W v h => FO.skip h 2 v (show (2 : Nat) ≠ 8 by decide) (show (2 : Nat) ≠ 9 by decide)) ?_ ?_
          rotate_left
          · (intro ev W hb hR hO hD; have hS := hF W hR; obtain ⟨hb1, hb2, hb3⟩ := hb; simp only [Free.AllDeps, Free.AllOuts, Free.At, List.getElem?_cons_succ, List.getElem?_cons_zero, Array.getD_eq_getD_getElem?, List.getElem?_toArray, Option.getD_some, and_true] at hO hD; go_simp; rfl)
          simp only [List.nil_append, List.cons_append]
          refine Free2.Chain.pr (fun v _ => v = .agg #[.int .i64 d, .int .i64 y]) 3 rfl [(1, 37), (2, 38)] [] (by kernel_rfl) (by kernel_rfl) rfl (fun _ _ _ _ h => h) ?_ ?_
          · (intro ev W X hb hR hO hD hj hx hax; have hS := hF W hR; obtain ⟨hb1, hb2, hb3⟩ := hb; simp only [Free.AllDeps, Free.AllOuts, Free.At, List.getElem?_cons_succ, List.getElem?_cons_zero, Array.getD_eq_getD_getElem?, List.getElem?_toArray, Option.getD_some, and_true] at hO hD; simp only [Free2.AllX, and_true] at hax; go_simp; refine yields_enter ?_; (with_reducible refine (partL_any _ _ _).mono ?_); rintro e W1 ⟨rfl, hB1⟩; exact ⟨_, rfl, KeptX.of_kept (.of_below hB1), rfl, (hj.kept (.of_below hB1)).skip 3 _ (by decide) (by decide)⟩)
          simp only [List.nil_append, List.cons_append]
          refine Free2.Chain.ex ?_ 4 rfl [] [2] (by kernel_rfl) (by kernel_rfl) rfl (KeptX.refl _ _) (fun X W v h => FO.skip h 4 v (show (4 : Nat) ≠ 8 by decide) (show (4 : Nat) ≠ 9 by decide)) ?_ ?_
          rotate_left
          · (intro ev W hb hR hO hD; have hS := hF W hR; obtain ⟨hb1, hb2, hb3⟩ := hb; simp only [Free.AllDeps, Free.AllOuts, Free.At, List.getElem?_cons_succ, List.getElem?_cons_zero, Array.getD_eq_getD_getElem?, List.getElem?_toArray, Option.getD_some, and_true] at hO hD; go_simp; rfl)
          simp only [List.nil_append, List.cons_append]
          refine Free2.Chain.pr (fun v _ => v = .int .i64 b) 5 rfl [(4, 40)] [] (by kernel_rfl) (by kernel_rfl) rfl (fun _ _ _ _ h => h) ?_ ?_
          · (intro ev W X hb hR hO hD hj hx hax; have hS := hF W hR; obtain ⟨hb1, hb2, hb3⟩ := hb; simp only [Free.AllDeps, Free.AllOuts, Free.At, List.getElem?_cons_succ, List.getElem?_cons_zero, Array.getD_eq_getD_getElem?, List.getElem?_toArray, Option.getD_some, and_true] at hO hD; simp only [Free2.AllX, and_true] at hax; obtain ⟨t1, t2⟩ := hj.old 5 (by decide) hx; have s1 := t1.c1; go_simp; exact ⟨KeptX.refl _ _ _, rfl, hj.skip 5 _ (by decide) (by decide)⟩)
          simp only [List.nil_append, List.cons_append]
          refine Free2.Chain.ex ?_ 6 rfl [] [5] (by kernel_rfl) (by kernel_rfl) rfl (KeptX.refl _ _) (fun X W v h => FO.skip h 6 v (show (6 : Nat) ≠ 8 by decide) (show (6 : Nat) ≠ 9 by decide)) ?_ ?_
          rotate_left
          · (intro ev W hb hR hO hD; have hS := hF W hR; obtain ⟨hb1, hb2, hb3⟩ := hb; simp only [Free.AllDeps, Free.AllOuts, Free.At, List.getElem?_cons_succ, List.getElem?_cons_zero, Array.getD_eq_getD_getElem?, List.getElem?_toArray, Option.getD_some, and_true] at hO hD; go_simp; rfl)
          simp only [List.nil_append, List.cons_append]
          refine Free2.Chain.pr (fun v _ => v = .agg #[.int .i64 b, .int .i64 x]) 7 rfl [(5, 41), (6, 42), (3, 39)] [] (by kernel_rfl) (by kernel_rfl) rfl (fun _ _ _ _ h => h) ?_ ?_
          · (intro ev W X hb hR hO hD hj hx hax; have hS := hF W hR; obtain ⟨hb1, hb2, hb3⟩ := hb; simp only [Free.AllDeps, Free.AllOuts, Free.At, List.getElem?_cons_succ, List.getElem?_cons_zero, Array.getD_eq_getD_getElem?, List.getElem?_toArray, Option.getD_some, and_true] at hO hD; simp only [Free2.AllX, and_true] at hax; go_simp; refine yields_enter ?_; (with_reducible refine (partL_any _ _ _).mono ?_); rintro e W1 ⟨rfl, hB1⟩; exact ⟨_, rfl, KeptX.of_kept (.of_below hB1), rfl, (hj.kept (.of_below hB1)).skip 7 _ (by decide) (by decide)⟩)
          simp only [List.nil_append, List.cons_append]
          refine Free2.Chain.pr (fun _ _ => True) 8 rfl [(3, 39), (7, 43), (0, 36), (1, 37), (2, 38), (3, 39), (4, 40), (5, 41)] [2] (by kernel_rfl) (by kernel_rfl) rfl (fun _ _ _ _ h => h) ?_ ?_
          · (intro ev W X hb hR hO hD hj hx hax; have hS := hF W hR; obtain ⟨hb1, hb2, hb3⟩ := hb; simp only [Free.AllDeps, Free.AllOuts, Free.At, List.getElem?_cons_succ, List.getElem?_cons_zero, Array.getD_eq_getD_getElem?, List.getElem?_toArray, Option.getD_some, and_true] at hO hD; simp only [Free2.AllX, and_true] at hax; obtain ⟨ht, hkx, hjj⟩ := hj.at1 (rs := [bb, bb + 1]) (by decide) (by simp) hx (by simp only [List.mem_cons, List.not_mem_nil, or_false, forall_eq_or_imp, forall_eq]; simp [hax]); have t0 := ht.c0; have t1 := ht.c1; have t2 := ht.f0; have t3 := ht.f1; go_simp; exact ⟨hkx, hjj _⟩)
          simp only [List.nil_append, List.cons_append]
          refine Free2.Chain.pr (fun _ _ => True) 9 rfl [(7, 43), (0, 36), (1, 37), (2, 38), (3, 39), (4, 40), (5, 41), (6, 42), (7, 43)] [3] (by kernel_rfl) (by kernel_rfl) rfl (fun _ _ _ _ h => h) ?_ ?_
          · (intro ev W X hb hR hO hD hj hx hax; have hS := hF W hR; obtain ⟨hb1, hb2, hb3⟩ := hb; simp only [Free.AllDeps, Free.AllOuts, Free.At, List.getElem?_cons_succ, List.getElem?_cons_zero, Array.getD_eq_getD_getElem?, List.getElem?_toArray, Option.getD_some, and_true] at hO hD; simp only [Free2.AllX, and_true] at hax; obtain ⟨ht, hkx, hjj⟩ := hj.at2 (rs := [bb, bb + 1]) (by decide) (by simp) hx (by simp only [List.mem_cons, List.not_mem_nil, or_false, forall_eq_or_imp, forall_eq]; simp [hax]); have t0 := ht.c0; have t1 := ht.c1; have t2 := ht.f0; have t3 := ht.f1; go_simp; exact ⟨hkx, hjj _⟩)
          simp only [List.nil_append, List.cons_append]
          intro xs w8 hR hV hX
          obtain ⟨X, hj, hxx⟩ := hX
          have e16 := hxx 8 (show (8 : Nat) < 10 by decide)
          have e17 := hxx 9 (show (9 : Nat) < 10 by decide)
          have TA := hj.f.a.new (by rw [e16]; simp)
          have TB := hj.f.b.new (by rw [e17]; simp)
          simp only [Free.AllV, Free.At, List.length_cons, List.length_nil, Nat.reduceAdd, List.getElem?_cons_succ, List.getElem?_cons_zero, true_and, and_true] at hV
          simp only [Free.putsFrom, Act.put, Nat.zero_add, Nat.reduceAdd, hV, List.setIfInBounds_toArray, List.set_cons_succ, List.set_cons_zero]
          have HKB := Lib.hid (KeptX.below HBL.out (hF w8 hR) (Nat.le_add_right bb 2) (by intro r hr; simp at hr; omega) (by omega))
          have hs8 : w9.heap.size ≤ w8.heap.size := hR.size
          clear hR hV hj hxx e16 e17 hF
          go_wp2_with fail
          go_roundw
          case rel => exact ⟨d, y, b, x, by omega, by omega, by omega, by omega, TA, TB, by show _ = _; rw [← HRES.out]; exact decide_eq_decide.2 (by rw [Int.mul_comm b y]; exact HQ.out.symm), by omega, HKB.out⟩
          case measure => rw [TA.c1, TB.c1, s2, s4]; simp [intOf]; omega
    · have hpq1 : (p == q) = false := by simp [hpq]
      go_wp2_with fail
      go_quiet (fail)
      go_wp2_with fail
      go_quiet (fail)
      go_wp2_with fail
      go_ret
      refine ⟨?_, ?_⟩
      · have hr1 : decide (p < q) = r := by
          rw [← HRES.out]
          by_cases hlt : p < q
          · rw [decide_eq_true hlt, decide_eq_true (HLS.out.1 hlt)]
          · rw [decide_eq_false hlt, decide_eq_false (by have := HLS.out.2 (by omega); omega)]
        rw [← hr1]; rfl
      · have hbb := HBB.out
        subst hbb
        repeat (first | exact HBL.out | refine belDrewN ?_ _)
end Go.Proofs.YtinndhmjojpekaaDoor

/- What the chapter's examples return: the program's functions at the examples' numbers. -/
namespace Go.Proofs.YtinndhmjojpekaaDoor
set_option linter.unusedSimpArgs false
set_option linter.unusedVariables false
open Go.RowKit Go.Proofs.YtinndhmjojpekaaDoor.ML Go.Proofs.YtinndhmjojpekaaDoor.Samp

abbrev cargo10 : Value := .agg #[.int .i64 10, .int .i64 0, .int .i64 10]
abbrev i2 (a b : Int) : Value := .agg #[.int .i64 a, .int .i64 b]
theorem al_ways (w : World) : Calls Tryd.prog 12 #[.int .i64 10, .int .i64 3] w fun e w' => e = .returned (.tuple #[.int .i64 120, .int .i64 0]) ∧ Below w.heap.size w w' := by
  have h := ways2_ok 10 3 w (by decide +kernel)
  rw [show chI 10 3 = 120 by decide +kernel] at h
  exact h
theorem al_chance (w : World) : Calls Tryd.prog 13 #[cargo10, .int .i64 4, i2 3 1] w fun e w' => e = .returned (.tuple #[i2 1 2, .int .i64 0]) ∧ Below w.heap.size w w' := by
  have h := chance_any 10 0 10 4 3 1 w
  rw [if_neg (by decide +kernel), if_neg (by decide +kernel), show partV (waysI 10 4 3 1).toNat (chI 10 3).toNat = i2 1 2 by kernel_rfl] at h
  exact h
theorem al_atmost (w : World) : Calls Tryd.prog 15 #[cargo10, .int .i64 4, i2 3 1] w fun e w' => e = .returned (.tuple #[i2 2 3, .int .i64 0]) ∧ Below w.heap.size w w' := by
  have h := atmost_any 10 0 10 4 3 1 w
  rw [if_neg (by decide +kernel), if_neg (by decide +kernel), show mostV 10 4 3 1 = i2 2 3 by kernel_rfl] at h
  exact h
theorem al_can (w : World) : Calls Tryd.prog 16 #[cargo10, i2 3 1] w fun e w' => e = .returned (.tuple #[i2 1 8, .int .i64 0]) ∧ Below w.heap.size w w' := by
  have h := can_any 10 0 10 3 1 w
  rw [show canR 10 0 10 3 1 = .tuple #[i2 1 8, .int .i64 0] by kernel_rfl] at h
  exact h
theorem al_likely (w : World) : Calls Tryd.prog 17 #[cargo10, i2 3 1] w fun e w' => (∃ v, e = .returned (.tuple #[v, .int .i64 0]) ∧ IL [3] v w') ∧ Below w.heap.size w w' := by
  have h := likely_any 10 0 10 3 1 w
  rw [show likeE 10 0 10 3 1 = 0 by decide +kernel, show likeA 10 0 10 3 1 = [3] by decide +kernel] at h
  exact h
theorem al_bound (w : World) : Calls Tryd.prog 18 #[cargo10, i2 3 0, i2 1 10] w fun e w' => e = .returned (.tuple #[.int .i64 4, .int .i64 0]) ∧ Below w.heap.size w w' := by
  have h := bound_any 10 0 10 3 0 1 10 w
  rw [show boundAll 10 0 10 3 0 1 10 = .tuple #[.int .i64 4, .int .i64 0] by kernel_rfl] at h
  exact h
theorem findAll_unique {N lo hi D n d k q k' q' : Int} (h : FindAll N lo hi D n d k q) (h' : FindAll N lo hi D n d k' q') : k = k' ∧ q = q' := by
  unfold FindAll at h h'
  split at h
  · rw [if_pos ‹_›] at h'; omega
  · split at h
    · rw [if_neg ‹_›, if_pos ‹_›] at h'; omega
    · rw [if_neg ‹_›, if_neg ‹_›] at h'; exact h.unique h'
theorem al_find (w : World) : Calls Tryd.prog 19 #[cargo10, .int .i64 2, i2 1 2] w fun e w' => e = .returned (.tuple #[.int .i64 3, .int .i64 0]) ∧ Below w.heap.size w w' := by
  refine (find_any 10 0 10 2 1 2 w).mono ?_
  rintro e w' ⟨⟨k, q, rfl, h⟩, hB⟩
  have hw : FindAll 10 0 10 2 1 2 3 0 := by
    rw [FindAll, if_neg (by decide +kernel), if_neg (by decide +kernel)]
    refine .inl ⟨rfl, 3, rfl, by omega, by decide +kernel, fun j hj => ?_⟩
    obtain rfl | rfl | rfl : j = 0 ∨ j = 1 ∨ j = 2 := by omega
    all_goals decide +kernel
  obtain ⟨rfl, rfl⟩ := findAll_unique h hw
  exact ⟨rfl, hB⟩
theorem al_least (w : World) : Calls Tryd.prog 20 #[cargo10, .int .i64 1, .int .i64 5, i2 3 10, i2 1 10] w fun e w' => e = .returned (.tuple #[i2 3 0, .int .i64 0]) ∧ Below w.heap.size w w' := by
  refine (least_all 10 0 10 1 5 3 10 1 10 w).mono ?_
  rintro e w' ⟨⟨o, a, q, rfl, h⟩, hB⟩
  have hw : LeastAll 10 0 10 1 5 3 10 1 10 3 0 0 := by
    rw [LeastAll, if_neg (by decide +kernel), if_neg (by decide +kernel)]
    refine .inl ⟨rfl, by omega, by omega, by omega, by decide +kernel, fun o' a' h1 h2 h3 => ?_, fun a' h1 h2 => by omega⟩
    obtain ⟨rfl, rfl⟩ | ⟨rfl, rfl⟩ | ⟨rfl, rfl⟩ | ⟨rfl, rfl⟩ | ⟨rfl, rfl⟩ | ⟨rfl, rfl⟩ : (o' = 0 ∧ a' = 0) ∨ (o' = 1 ∧ a' = 0) ∨ (o' = 1 ∧ a' = 1) ∨ (o' = 2 ∧ a' = 0) ∨ (o' = 2 ∧ a' = 1) ∨ (o' = 2 ∧ a' = 2) := by omega
    all_goals decide +kernel
  obtain ⟨rfl, rfl, rfl⟩ := h.unique hw
  exact ⟨rfl, hB⟩
theorem al_twice (w : World) (hT : TabD w) : Calls Tryd.prog 7 #[cargo10, .agg #[.int .i64 2, .int .i64 0, .int .i64 2, .int .i64 2, .int .i64 1], .int .i64 4] w fun e w' => e = .returned (.tuple #[i2 11 21, i2 46 15, .int .i64 0]) ∧ Below w.heap.size w w' := by
  have h := twice_any 10 0 10 2 0 2 2 1 4 w hT
  rw [show twiceAll 10 0 10 4 2 0 2 2 1 = .tuple #[i2 11 21, i2 46 15, .int .i64 0] by kernel_rfl] at h
  exact h
theorem al_off (v : Value) (w : World) (hv : PL [(5, 100), (10, 300), (30, 1000)] v w) : Calls Tryd.prog 22 #[v, i2 10 1] w fun e w' => e = .returned (.tuple #[.int .i64 300, .int .i64 0]) ∧ Below w.heap.size w w' := by
  have h := offA_any [(5, 100), (10, 300), (30, 1000)] v 10 1 w hv
  rw [show offAll [(5, 100), (10, 300), (30, 1000)] 10 1 = .tuple #[.int .i64 300, .int .i64 0] by kernel_rfl] at h
  exact h
theorem al_award (w : World) : Calls Tryd.prog 24 #[.int .i64 100, .int .i64 120, .int .i64 90] w fun e w' => e = .returned (.tuple #[.int .i64 100, .int .i64 0]) ∧ Below w.heap.size w w' := by
  have h := award_any 100 120 90 w
  rw [if_neg (by decide +kernel), show awardV 100 120 90 = 100 by decide +kernel] at h
  exact h
end Go.Proofs.YtinndhmjojpekaaDoor

/- Structs of any sizes that a region makes and stores once, in whatever order: any number of them. -/
namespace Go.Proofs.YtinndhmjojpekaaDoor
set_option linter.unusedSimpArgs false
set_option linter.unusedVariables false
open Go.RowKit Go.Proofs.YtinndhmjojpekaaDoor.Free2

/-- Operation i makes a block, operation j stores it. -/
structure LocE where
  i : Nat
  j : Nat
  o0 : Obj
  o1 : Obj
structure LL (s0 : Nat) (L : List LocE) (X : XT) (w : World) : Prop where
  size : s0 ≤ w.heap.size
  first : ∀ e ∈ L, X e.i = none → X e.j = none
  blk : ∀ e ∈ L, ∀ v, X e.i = some v → ∃ b, v = ptr b ∧ s0 ≤ b ∧ (X e.j = none → w.heap[b]? = some e.o0) ∧ (X e.j ≠ none → w.heap[b]? = some e.o1)
  ne : ∀ e ∈ L, ∀ f ∈ L, e.i ≠ f.i → ∀ v, X e.i = some v → X f.i ≠ some v
section
variable {s0 : Nat} {L : List LocE} {X : XT} {w w' : World}
theorem LL.start (hs : s0 ≤ w.heap.size) : LL s0 L (fun _ => none) w := ⟨hs, fun _ _ _ => rfl, fun e _ v h => (by cases h), fun e _ f _ _ v h => (by cases h)⟩
theorem LL.skip (h : LL s0 L X w) (n : Nat) (v : Value) (hn : ∀ e ∈ L, n ≠ e.i ∧ n ≠ e.j) : LL s0 L (upd X n v) w :=
  ⟨h.size, fun e he => by rw [upd_other _ _ (hn e he).1.symm, upd_other _ _ (hn e he).2.symm]; exact h.first e he,
   fun e he => by rw [upd_other _ _ (hn e he).1.symm, upd_other _ _ (hn e he).2.symm]; exact h.blk e he,
   fun e he f hf => by rw [upd_other _ _ (hn e he).1.symm, upd_other _ _ (hn f hf).1.symm]; exact h.ne e he f hf⟩
theorem LL.bel (h : LL s0 L X w) (hB : Below w.heap.size w w') : LL s0 L X w' :=
  ⟨Nat.le_trans h.size hB.size, h.first, fun e he v hv => by
    obtain ⟨b, rfl, h1, h3, h4⟩ := h.blk e he v hv
    exact ⟨b, rfl, h1, fun hj => (hB.block b (lt_of_heap (h3 hj))).trans (h3 hj), fun hj => (hB.block b (lt_of_heap (h4 hj))).trans (h4 hj)⟩, h.ne⟩
theorem LL.new (h : LL s0 L X w) (e : LocE) (he : e ∈ L) (hd : ∀ f ∈ L, e.i ≠ f.j ∧ (e.i = f.i → e = f)) (hi : X e.i = none) : LL s0 L (upd X e.i (ptr w.heap.size)) (w.alloc e.o0) := by
  refine ⟨by have := h.size; simp; omega, fun f hf h0 => ?_, fun f hf v hv => ?_, fun f hf g hg hne v hv => ?_⟩
  · rw [upd_other _ _ (hd f hf).1.symm]
    by_cases hq : e.i = f.i
    · have := (hd f hf).2 hq; subst this; exact h.first e he hi
    · rw [upd_other _ _ (Ne.symm hq)] at h0; exact h.first f hf h0
  · rw [upd_other _ _ (hd f hf).1.symm]
    by_cases hq : e.i = f.i
    · have := (hd f hf).2 hq; subst this
      rw [upd_same] at hv
      cases hv
      exact ⟨_, rfl, h.size, fun _ => World.alloc_heap_new w e.o0, fun hj => absurd (h.first e he hi) hj⟩
    · rw [upd_other _ _ (Ne.symm hq)] at hv
      obtain ⟨b, rfl, h1, h3, h4⟩ := h.blk f hf v hv
      exact ⟨b, rfl, h1, fun hj => (Below.heap_alloc _ _ _ (lt_of_heap (h3 hj))).trans (h3 hj), fun hj => (Below.heap_alloc _ _ _ (lt_of_heap (h4 hj))).trans (h4 hj)⟩
  · have hlt : ∀ f ∈ L, ∀ b, X f.i = some (ptr b) → b < w.heap.size := fun f hf b hb => by
      obtain ⟨b', hbb, _, h3, h4⟩ := h.blk f hf _ hb
      cases hbb
      by_cases hx : X f.j = none
      · exact lt_of_heap (h3 hx)
      · exact lt_of_heap (h4 hx)
    by_cases hq : e.i = f.i
    · rw [← hq, upd_same] at hv
      cases hv
      rw [upd_other _ _ (fun h => hne (hq ▸ h.symm))]
      intro hg2
      have := hlt g hg _ hg2
      omega
    · rw [upd_other _ _ (Ne.symm hq)] at hv
      by_cases hq2 : e.i = g.i
      · rw [← hq2, upd_same]
        intro h2
        cases h2
        have := hlt f hf _ hv
        omega
      · rw [upd_other _ _ (Ne.symm hq2)]
        exact h.ne f hf g hg hne v hv
/-- What is found where it is stored. -/
theorem LL.at_ (h : LL s0 L X w) (e : LocE) (he : e ∈ L) {v : Value} (hv : X e.i = some v) (hj : X e.j = none) : ∃ b, v = ptr b ∧ s0 ≤ b ∧ w.heap[b]? = some e.o0 := by
  obtain ⟨b, rfl, h1, h3, h4⟩ := h.blk e he v hv
  exact ⟨b, rfl, h1, h3 hj⟩
theorem LL.stored (h : LL s0 L X w) (e : LocE) (he : e ∈ L) (hd : ∀ f ∈ L, e.j ≠ f.i ∧ (e.j = f.j → e = f) ∧ (e.i = f.i → e = f)) {b : Nat} (hv : X e.i = some (ptr b)) (hb : w'.heap[b]? = some e.o1) (ho : ∀ k, k ≠ b → w'.heap[k]? = w.heap[k]?) (hs : w.heap.size ≤ w'.heap.size) (u : Value) : LL s0 L (upd X e.j u) w' := by
  refine ⟨Nat.le_trans h.size hs, fun f hf h0 => ?_, fun f hf v hv' => ?_, fun f hf g hg hne v => ?_⟩
  · rw [upd_other _ _ (hd f hf).1.symm] at h0
    by_cases hq : e.j = f.j
    · have := (hd f hf).2.1 hq; subst this; rw [hv] at h0; cases h0
    · rw [upd_other _ _ (Ne.symm hq)]; exact h.first f hf h0
  · rw [upd_other _ _ (hd f hf).1.symm] at hv'
    by_cases hq : e.j = f.j
    · have := (hd f hf).2.1 hq; subst this
      rw [hv] at hv'
      cases hv'
      rw [upd_same]
      obtain ⟨b', hbb, h1, _⟩ := h.blk e he _ hv
      cases hbb
      exact ⟨b, rfl, h1, (fun h => by cases h), fun _ => hb⟩
    · rw [upd_other _ _ (Ne.symm hq)]
      obtain ⟨b', rfl, h1, h3, h4⟩ := h.blk f hf v hv'
      have hn : b' ≠ b := by
        rintro rfl
        by_cases hq2 : e.i = f.i
        · have := (hd f hf).2.2 hq2; subst this; exact hq rfl
        · exact h.ne e he f hf hq2 _ hv hv'
      exact ⟨b', rfl, h1, fun hj => (ho b' hn).trans (h3 hj), fun hj => (ho b' hn).trans (h4 hj)⟩
  · rw [upd_other _ _ (hd f hf).1.symm, upd_other _ _ (hd g hg).1.symm]
    exact h.ne f hf g hg hne v
theorem LL.done (h : LL s0 L X w) (e : LocE) (he : e ∈ L) {v u : Value} (hv : X e.i = some v) (hu : X e.j = some u) : ∃ b, v = ptr b ∧ s0 ≤ b ∧ w.heap[b]? = some e.o1 := by
  obtain ⟨b, rfl, h1, h3, h4⟩ := h.blk e he v hv
  exact ⟨b, rfl, h1, h4 (by simp [hu])⟩
theorem below_setNew {b o : Nat} {v : Value} (hs : s0 ≤ b) : Below s0 w (w.setCell ⟨b, o, none⟩ v) := (Below.refl s0 w).setCell (p := ⟨b, o, none⟩) hs v
theorem heap_setCell_other {b o k : Nat} {v : Value} (hk : k ≠ b) : (w.setCell ⟨b, o, none⟩ v).heap[k]? = w.heap[k]? := by
  show (w.heap.modify b _)[k]? = _
  rw [Array.getElem?_modify, if_neg (Ne.symm hk)]
/-- Stores into a block one behind the other. -/
def putsW (b : Nat) : List (Nat × Value) → World → World
  | [], w => w
  | x :: r, w => putsW b r (w.setCell ⟨b, x.1, none⟩ x.2)
theorem putsW_other {b k : Nat} (hk : k ≠ b) : ∀ (l : List (Nat × Value)) (w : World), (putsW b l w).heap[k]? = w.heap[k]?
  | [], _ => rfl
  | x :: r, w => (putsW_other hk r _).trans (heap_setCell_other hk)
theorem putsW_below {b : Nat} (hs : s0 ≤ b) : ∀ (l : List (Nat × Value)) (w : World), Below s0 w (putsW b l w)
  | [], _ => Below.refl _ _
  | x :: r, w => (below_setNew hs).trans (putsW_below hs r _)
theorem putsW_same {b : Nat} {t : TypeId} {f : Nat × Nat} : ∀ (l : List (Nat × Value)) (w : World) (c : Array Value), w.heap[b]? = some (.cells c t f) → (putsW b l w).heap[b]? = some (.cells (l.foldl (fun c x => c.setIfInBounds x.1 x.2) c) t f)
  | [], _, _, h => h
  | x :: r, w, c, h => putsW_same r _ _ (heap_setCell_same x.2 h)
/-- One struct is stored: all at once. -/
theorem LL.puts (h : LL s0 L X w) (e : LocE) (he : e ∈ L) (hd : ∀ f ∈ L, e.j ≠ f.i ∧ (e.j = f.j → e = f) ∧ (e.i = f.i → e = f)) {b : Nat} {c : Array Value} {t : TypeId} (hv : X e.i = some (ptr b)) (hs : s0 ≤ b) (hb : w.heap[b]? = some (.cells c t (0, 0))) (l : List (Nat × Value)) (ho : e.o1 = .cells (l.foldl (fun c x => c.setIfInBounds x.1 x.2) c) t (0, 0)) (u : Value) :
    Below s0 w (putsW b l w) ∧ LL s0 L (upd X e.j u) (putsW b l w) :=
  ⟨putsW_below hs l w, h.stored e he hd hv (by rw [ho]; exact putsW_same l w c hb) (fun k hk => putsW_other hk l w) (putsW_below hs l w).size u⟩
end
end Go.Proofs.YtinndhmjojpekaaDoor

