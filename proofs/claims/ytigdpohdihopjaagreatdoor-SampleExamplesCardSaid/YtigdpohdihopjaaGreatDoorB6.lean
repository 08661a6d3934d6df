/- What terms take off for a draw: Off. -/
import Derived.Test.YtigdpohdihopjaaGreatDoorB5
import Derived.IntWalk
import Derived.Deep.QuietTactic
import Derived.BigQuiet
namespace Go.Proofs.YtigdpohdihopjaaGreatDoor
set_option linter.unusedSimpArgs false
set_option linter.unusedVariables false
open Go.RowKit Go.Proofs.YtigdpohdihopjaaGreatDoor.ML Go.Proofs.YtigdpohdihopjaaGreatDoor.Samp

theorem agreedFrom_mem : ∀ (xs : List (Int × Int)) (f p : Int), 0 ≤ f + 1 → agreedFrom f p xs = true → ∀ t ∈ xs, 0 ≤ t.1 ∧ t.1 ≤ 100
  | [], _, _, _, _, t, h => by cases h
  | x :: r, f, p, h0, h, t, ht => by
    simp only [agreedFrom, Bool.and_eq_true] at h
    have h1 : f + 1 ≤ x.1 ∧ x.1 ≤ 100 := by simpa [inB] using h.1
    rcases List.mem_cons.1 ht with rfl | ht
    · omega
    · exact agreedFrom_mem r x.1 x.2 (by omega) h.2.2 t ht
theorem agreedE_mem {xs : List (Int × Int)} (h : agreedE xs = 0) : ∀ t ∈ xs, 0 ≤ t.1 ∧ t.1 ≤ 100 := by
  unfold agreedE at h
  split at h
  · simp at h
  · rename_i h'
    exact agreedFrom_mem xs 0 0 (by omega) (by simpa using h')
def offE (xs : List (Int × Int)) (o f : Int) : Int := firstE [agreedE xs, unlessV (drawB 36 o f) 11]
/-- What Off returns. -/
def offAll (xs : List (Int × Int)) (o f : Int) : Value := if offE xs o f ≠ 0 then .tuple #[.int .i64 0, .int .i64 (offE xs o f)] else .tuple #[.int .i64 (offV xs o f), .int .i64 0]
theorem offE_zero {xs : List (Int × Int)} {o f : Int} (h : offE xs o f = 0) : agreedE xs = 0 ∧ drawB 36 o f = true := by
  unfold offE at h
  have h1 : agreedE xs = 0 := by
    by_cases hm : agreedE xs = 0
    · exact hm
    · simp [firstE, hm] at h
  refine ⟨h1, ?_⟩
  cases hm : drawB 36 o f
  · rw [hm, h1] at h; simp [firstE, unlessV] at h
  · rfl

set_option maxRecDepth 100000 in
set_option maxHeartbeats 4000000 in
theorem offA_a (ts : List (Int × Int)) (v : Value) (o f : Int) (w : World) (hv : PL ts v w) (h1 : inB 0 36 [o] = false) (x z : Int) (hx : Hid (agreedE ts = x)) (hz : Hid (firstE [x, 11] = z)) (hz0 : (z != 0) = true) :
    Calls Tryz.prog 21 #[v, .agg #[.int .i64 o, .int .i64 f]] w fun e w' => e = .returned (.tuple #[.int .i64 0, .int .i64 z]) ∧ Below w.heap.size w w' := by
  have hB0 : Below w.heap.size w (w.alloc (.cells #[.int .i64 o, .int .i64 f] 37)) := (Below.refl _ w).alloc (Nat.le_refl _) _
  have c0_0 : (w.alloc (.cells #[.int .i64 o, .int .i64 f] 37)).cell? ⟨w.heap.size, 0, none⟩ = some (.int .i64 o) := by simp [go_sem]
  have c0_1 : (w.alloc (.cells #[.int .i64 o, .int .i64 f] 37)).cell? ⟨w.heap.size, 1, none⟩ = some (.int .i64 f) := by simp [go_sem]
  have HV0 := Lib.hid (fun (W : World) (hW : Free.Bel (w.alloc (.cells #[.int .i64 o, .int .i64 f] 37)) W) => (hv.keeps hB0).keeps hW)
  clear hv
  go_enter Tryz.func21, Tryz.ntmps21
  go_wp2_with fail
  have hq : w.heap.size + 1 = (w.alloc (.cells #[.int .i64 o, .int .i64 f] 37)).heap.size := by simp
  generalize (w.alloc (.cells #[.int .i64 o, .int .i64 f] 37)) = W0 at *
  generalize hbb : w.heap.size = bb at *
  have HBB := Lib.hid hbb
  clear hbb
  have HB0 := Lib.hid hB0
  have hq0 : bb + 1 ≤ W0.heap.size := by omega
  clear hB0 hq
  have FA : ∀ W, Free.Bel W0 W → W.cell? ⟨bb, 0, none⟩ = some (.int .i64 o) ∧ W.cell? ⟨bb, 1, none⟩ = some (.int .i64 f) ∧ bb + 1 ≤ W.heap.size := fun W hW => ⟨keepsB hW c0_0, keepsB hW c0_1, Nat.le_trans hq0 hW.size⟩
  clear c0_0 c0_1
  have hF : ∀ W, Free.Bel W0.drew W → Free.Bel W0 W := fun W hW => Free.Bel.trans _ _ _ (Bel.drewT (Free.Bel.refl _)) hW
  refine Free.wp_free (R := Free.Bel) (by kernel_rfl) (by kernel_rfl) Free.Bel.refl Free.Bel.trans ?_
  refine Free.Chain.ex ?_ [] [0] (by kernel_rfl) (by kernel_rfl) rfl Free.Bel.refl ?_ ?_
  rotate_left
  · (intro ev W hb hR hO hD; have hS := hF W hR; obtain ⟨hb1, hb2, hb3⟩ := hb; simp only [Free.AllDeps, Free.AllOuts, Free.At, List.getElem?_cons_succ, List.getElem?_cons_zero, Array.getD_eq_getD_getElem?, List.getElem?_toArray, Option.getD_some, and_true] at hO hD; go_simp; rfl)
  simp only [List.nil_append, List.cons_append]
  refine Free.Chain.pr (fun v _ => v = .int .i64 x) [(0, 7)] [] (by kernel_rfl) (by kernel_rfl) rfl (fun _ _ _ _ h => h) ?_ ?_
  · (intro ev W hb hR hO hD; have hS := hF W hR; obtain ⟨hb1, hb2, hb3⟩ := hb; simp only [Free.AllDeps, Free.AllOuts, Free.At, List.getElem?_cons_succ, List.getElem?_cons_zero, Array.getD_eq_getD_getElem?, List.getElem?_toArray, Option.getD_some, and_true] at hO hD; go_simp; refine yields_enter ?_; (with_reducible refine (agreed_v ts v _ (HV0.out _ hS) x hx).mono ?_); rintro e W2 ⟨rfl, hB2⟩; exact ⟨_, rfl, hB2, rfl⟩)
  simp only [List.nil_append, List.cons_append]
  refine Free.Chain.ex ?_ [] [3] (by kernel_rfl) (by kernel_rfl) rfl Free.Bel.refl ?_ ?_
  rotate_left
  · (intro ev W hb hR hO hD; have hS := hF W hR; obtain ⟨hb1, hb2, hb3⟩ := hb; simp only [Free.AllDeps, Free.AllOuts, Free.At, List.getElem?_cons_succ, List.getElem?_cons_zero, Array.getD_eq_getD_getElem?, List.getElem?_toArray, Option.getD_some, and_true] at hO hD; go_simp; rfl)
  simp only [List.nil_append, List.cons_append]
  refine Free.Chain.ex ?_ [(2, 9)] [] (by kernel_rfl) (by kernel_rfl) rfl Free.Bel.refl ?_ ?_
  rotate_left
  · (intro ev W hb hR hO hD; have hS := hF W hR; obtain ⟨hb1, hb2, hb3⟩ := hb; simp only [Free.AllDeps, Free.AllOuts, Free.At, List.getElem?_cons_succ, List.getElem?_cons_zero, Array.getD_eq_getD_getElem?, List.getElem?_toArray, Option.getD_some, and_true] at hO hD; go_simp; rfl)
  simp only [List.nil_append, List.cons_append]
  refine Free.Chain.pr (SlI [o]) [(3, 10)] [] (by kernel_rfl) (by kernel_rfl) rfl (SlI.stable _) ?_ ?_
  · (intro ev W hb hR hO hD; have hS := hF W hR; obtain ⟨hb1, hb2, hb3⟩ := hb; simp only [Free.AllDeps, Free.AllOuts, Free.At, List.getElem?_cons_succ, List.getElem?_cons_zero, Array.getD_eq_getD_getElem?, List.getElem?_toArray, Option.getD_some, and_true] at hO hD; go_simp; exact ⟨belAlloc _ _, SlI.one _ _ _⟩)
  simp only [List.nil_append, List.cons_append]
  refine Free.Chain.pr (fun v _ => v = .bool false) [(4, 11), (1, 8)] [] (by kernel_rfl) (by kernel_rfl) rfl (fun _ _ _ _ h => h) ?_ ?_
  · (intro ev W hb hR hO hD; have hS := hF W hR; obtain ⟨hb1, hb2, hb3⟩ := hb; simp only [Free.AllDeps, Free.AllOuts, Free.At, List.getElem?_cons_succ, List.getElem?_cons_zero, Array.getD_eq_getD_getElem?, List.getElem?_toArray, Option.getD_some, and_true] at hO hD; go_simp; refine yields_enter ?_; (with_reducible refine (in_sl 0 36 [o] false _ _ (by simp [maxLen]) h1 hD.1).mono ?_); rintro e W2 ⟨rfl, hB2⟩; exact ⟨_, rfl, hB2, rfl⟩)
  simp only [List.nil_append, List.cons_append]
  refine Free.Chain.ex ?_ [(5, 12), (5, 12)] [] (by kernel_rfl) (by kernel_rfl) rfl Free.Bel.refl ?_ ?_
  rotate_left
  · (intro ev W hb hR hO hD; have hS := hF W hR; obtain ⟨hb1, hb2, hb3⟩ := hb; simp only [Free.AllDeps, Free.AllOuts, Free.At, List.getElem?_cons_succ, List.getElem?_cons_zero, Array.getD_eq_getD_getElem?, List.getElem?_toArray, Option.getD_some, and_true] at hO hD; go_simp; rfl)
  simp only [List.nil_append, List.cons_append]
  refine Free.Chain.no [(6, 13)] [3] 6 true 13 (by kernel_rfl) (by kernel_rfl) rfl (by kernel_rfl) ?_ ?_
  · (intro ev W hR hD; simp only [Free.AllDeps, Free.At, List.getElem?_cons_succ, List.getElem?_cons_zero, and_true] at hD; simp [hD])
  simp only [List.nil_append, List.cons_append]
  refine Free.Chain.no [(7, 14), (6, 13)] [] 6 true 13 (by kernel_rfl) (by kernel_rfl) rfl (by kernel_rfl) ?_ ?_
  · (intro ev W hR hD; simp only [Free.AllDeps, Free.At, List.getElem?_cons_succ, List.getElem?_cons_zero, and_true] at hD; simp [hD])
  simp only [List.nil_append, List.cons_append]
  refine Free.Chain.no [(6, 13)] [3] 6 true 13 (by kernel_rfl) (by kernel_rfl) rfl (by kernel_rfl) ?_ ?_
  · (intro ev W hR hD; simp only [Free.AllDeps, Free.At, List.getElem?_cons_succ, List.getElem?_cons_zero, and_true] at hD; simp [hD])
  simp only [List.nil_append, List.cons_append]
  refine Free.Chain.no [(9, 16), (6, 13)] [] 6 true 13 (by kernel_rfl) (by kernel_rfl) rfl (by kernel_rfl) ?_ ?_
  · (intro ev W hR hD; simp only [Free.AllDeps, Free.At, List.getElem?_cons_succ, List.getElem?_cons_zero, and_true] at hD; simp [hD])
  simp only [List.nil_append, List.cons_append]
  refine Free.Chain.no [(10, 17), (6, 13)] [] 6 true 13 (by kernel_rfl) (by kernel_rfl) rfl (by kernel_rfl) ?_ ?_
  · (intro ev W hR hD; simp only [Free.AllDeps, Free.At, List.getElem?_cons_succ, List.getElem?_cons_zero, and_true] at hD; simp [hD])
  simp only [List.nil_append, List.cons_append]
  refine Free.Chain.no [(8, 15), (11, 18), (6, 13), (6, 13)] [] 6 true 13 (by kernel_rfl) (by kernel_rfl) rfl (by kernel_rfl) ?_ ?_
  · (intro ev W hR hD; simp only [Free.AllDeps, Free.At, List.getElem?_cons_succ, List.getElem?_cons_zero, and_true] at hD; simp [hD])
  simp only [List.nil_append, List.cons_append]
  refine Free.Chain.ex ?_ [(6, 13), (12, 19)] [] (by kernel_rfl) (by kernel_rfl) rfl Free.Bel.refl ?_ ?_
  rotate_left
  · (intro ev W hb hR hO hD; have hS := hF W hR; obtain ⟨hb1, hb2, hb3⟩ := hb; simp only [Free.AllDeps, Free.AllOuts, Free.At, List.getElem?_cons_succ, List.getElem?_cons_zero, Array.getD_eq_getD_getElem?, List.getElem?_toArray, Option.getD_some, and_true] at hO hD; go_simp; rfl)
  simp only [List.nil_append, List.cons_append]
  refine Free.Chain.pr (fun v _ => v = .int .i64 11) [(13, 20), (12, 19)] [] (by kernel_rfl) (by kernel_rfl) rfl (fun _ _ _ _ h => h) ?_ ?_
  · (intro ev W hb hR hO hD; have hS := hF W hR; obtain ⟨hb1, hb2, hb3⟩ := hb; simp only [Free.AllDeps, Free.AllOuts, Free.At, List.getElem?_cons_succ, List.getElem?_cons_zero, Array.getD_eq_getD_getElem?, List.getElem?_toArray, Option.getD_some, and_true] at hO hD; go_simp; refine yields_enter ?_; (with_reducible refine (unless_any _ _ 11 _ rfl).mono ?_); rintro e W2 ⟨rfl, rfl⟩; exact ⟨_, rfl, Free.Bel.refl _, rfl⟩)
  simp only [List.nil_append, List.cons_append]
  refine Free.Chain.pr (SlI [x, 11]) [(1, 8), (14, 21)] [] (by kernel_rfl) (by kernel_rfl) rfl (SlI.stable _) ?_ ?_
  · (intro ev W hb hR hO hD; have hS := hF W hR; obtain ⟨hb1, hb2, hb3⟩ := hb; simp only [Free.AllDeps, Free.AllOuts, Free.At, List.getElem?_cons_succ, List.getElem?_cons_zero, Array.getD_eq_getD_getElem?, List.getElem?_toArray, Option.getD_some, and_true] at hO hD; go_simp; exact ⟨belAlloc _ _, SlI.two _ _ _ _⟩)
  simp only [List.nil_append, List.cons_append]
  refine Free.Chain.pr (fun v _ => v = .int .i64 z) [(15, 22), (14, 21)] [] (by kernel_rfl) (by kernel_rfl) rfl (fun _ _ _ _ h => h) ?_ ?_
  · (intro ev W hb hR hO hD; have hS := hF W hR; obtain ⟨hb1, hb2, hb3⟩ := hb; simp only [Free.AllDeps, Free.AllOuts, Free.At, List.getElem?_cons_succ, List.getElem?_cons_zero, Array.getD_eq_getD_getElem?, List.getElem?_toArray, Option.getD_some, and_true] at hO hD; go_simp; refine yields_enter ?_; (with_reducible refine (first_sl [x, 11] z _ _ (by simp [maxLen]) hz.out hD.1).mono ?_); rintro e W2 ⟨rfl, rfl⟩; exact ⟨_, rfl, Free.Bel.refl _, rfl⟩)
  simp only [List.nil_append, List.cons_append]
  refine Free.Chain.ex ?_ [(16, 23), (16, 23), (0, 7), (1, 8), (2, 9), (3, 10), (4, 11), (5, 12), (6, 13), (7, 14), (8, 15), (9, 16), (10, 17), (11, 18), (12, 19), (13, 20), (14, 21), (15, 22), (16, 23)] [] (by kernel_rfl) (by kernel_rfl) rfl Free.Bel.refl ?_ ?_
  rotate_left
  · (intro ev W hb hR hO hD; have hS := hF W hR; obtain ⟨hb1, hb2, hb3⟩ := hb; simp only [Free.AllDeps, Free.AllOuts, Free.At, List.getElem?_cons_succ, List.getElem?_cons_zero, Array.getD_eq_getD_getElem?, List.getElem?_toArray, Option.getD_some, and_true] at hO hD; go_simp; rfl)
  simp only [List.nil_append, List.cons_append]
  intro xs w2 hR hV
  simp only [Free.AllV, Free.At, List.length_cons, List.length_nil, Nat.reduceAdd, List.getElem?_cons_succ, List.getElem?_cons_zero, true_and] at hV
  simp only [Free.putsFrom, Act.put, Nat.zero_add, Nat.reduceAdd, hV, List.setIfInBounds_toArray, List.set_cons_succ, List.set_cons_zero]
  have HK2 := hF w2 hR
  clear hR hV hF
  go_wp2_with fail
  go_ret2
  have hbb := HBB.out
  subst hbb
  exact ⟨rfl, HB0.out.trans (HK2.mono (by omega))⟩

set_option maxRecDepth 100000 in
set_option maxHeartbeats 4000000 in
theorem offA_b (ts : List (Int × Int)) (v : Value) (o f : Int) (w : World) (hv : PL ts v w) (h1 : inB 0 36 [o] = true) (h2 : inB 0 o [f] = false) (x z : Int) (hx : Hid (agreedE ts = x)) (hz : Hid (firstE [x, 11] = z)) (hz0 : (z != 0) = true) :
    Calls Tryz.prog 21 #[v, .agg #[.int .i64 o, .int .i64 f]] w fun e w' => e = .returned (.tuple #[.int .i64 0, .int .i64 z]) ∧ Below w.heap.size w w' := by
  have hB0 : Below w.heap.size w (w.alloc (.cells #[.int .i64 o, .int .i64 f] 37)) := (Below.refl _ w).alloc (Nat.le_refl _) _
  have c0_0 : (w.alloc (.cells #[.int .i64 o, .int .i64 f] 37)).cell? ⟨w.heap.size, 0, none⟩ = some (.int .i64 o) := by simp [go_sem]
  have c0_1 : (w.alloc (.cells #[.int .i64 o, .int .i64 f] 37)).cell? ⟨w.heap.size, 1, none⟩ = some (.int .i64 f) := by simp [go_sem]
  have HV0 := Lib.hid (fun (W : World) (hW : Free.Bel (w.alloc (.cells #[.int .i64 o, .int .i64 f] 37)) W) => (hv.keeps hB0).keeps hW)
  clear hv
  go_enter Tryz.func21, Tryz.ntmps21
  go_wp2_with fail
  have hq : w.heap.size + 1 = (w.alloc (.cells #[.int .i64 o, .int .i64 f] 37)).heap.size := by simp
  generalize (w.alloc (.cells #[.int .i64 o, .int .i64 f] 37)) = W0 at *
  generalize hbb : w.heap.size = bb at *
  have HBB := Lib.hid hbb
  clear hbb
  have HB0 := Lib.hid hB0
  have hq0 : bb + 1 ≤ W0.heap.size := by omega
  clear hB0 hq
  have FA : ∀ W, Free.Bel W0 W → W.cell? ⟨bb, 0, none⟩ = some (.int .i64 o) ∧ W.cell? ⟨bb, 1, none⟩ = some (.int .i64 f) ∧ bb + 1 ≤ W.heap.size := fun W hW => ⟨keepsB hW c0_0, keepsB hW c0_1, Nat.le_trans hq0 hW.size⟩
  clear c0_0 c0_1
  have hF : ∀ W, Free.Bel W0.drew W → Free.Bel W0 W := fun W hW => Free.Bel.trans _ _ _ (Bel.drewT (Free.Bel.refl _)) hW
  refine Free.wp_free (R := Free.Bel) (by kernel_rfl) (by kernel_rfl) Free.Bel.refl Free.Bel.trans ?_
  refine Free.Chain.ex ?_ [] [0] (by kernel_rfl) (by kernel_rfl) rfl Free.Bel.refl ?_ ?_
  rotate_left
  · (intro ev W hb hR hO hD; have hS := hF W hR; obtain ⟨hb1, hb2, hb3⟩ := hb; simp only [Free.AllDeps, Free.AllOuts, Free.At, List.getElem?_cons_succ, List.getElem?_cons_zero, Array.getD_eq_getD_getElem?, List.getElem?_toArray, Option.getD_some, and_true] at hO hD; go_simp; rfl)
  simp only [List.nil_append, List.cons_append]
  refine Free.Chain.pr (fun v _ => v = .int .i64 x) [(0, 7)] [] (by kernel_rfl) (by kernel_rfl) rfl (fun _ _ _ _ h => h) ?_ ?_
  · (intro ev W hb hR hO hD; have hS := hF W hR; obtain ⟨hb1, hb2, hb3⟩ := hb; simp only [Free.AllDeps, Free.AllOuts, Free.At, List.getElem?_cons_succ, List.getElem?_cons_zero, Array.getD_eq_getD_getElem?, List.getElem?_toArray, Option.getD_some, and_true] at hO hD; go_simp; refine yields_enter ?_; (with_reducible refine (agreed_v ts v _ (HV0.out _ hS) x hx).mono ?_); rintro e W2 ⟨rfl, hB2⟩; exact ⟨_, rfl, hB2, rfl⟩)
  simp only [List.nil_append, List.cons_append]
  refine Free.Chain.ex ?_ [] [3] (by kernel_rfl) (by kernel_rfl) rfl Free.Bel.refl ?_ ?_
  rotate_left
  · (intro ev W hb hR hO hD; have hS := hF W hR; obtain ⟨hb1, hb2, hb3⟩ := hb; simp only [Free.AllDeps, Free.AllOuts, Free.At, List.getElem?_cons_succ, List.getElem?_cons_zero, Array.getD_eq_getD_getElem?, List.getElem?_toArray, Option.getD_some, and_true] at hO hD; go_simp; rfl)
  simp only [List.nil_append, List.cons_append]
  refine Free.Chain.ex ?_ [(2, 9)] [] (by kernel_rfl) (by kernel_rfl) rfl Free.Bel.refl ?_ ?_
  rotate_left
  · (intro ev W hb hR hO hD; have hS := hF W hR; obtain ⟨hb1, hb2, hb3⟩ := hb; simp only [Free.AllDeps, Free.AllOuts, Free.At, List.getElem?_cons_succ, List.getElem?_cons_zero, Array.getD_eq_getD_getElem?, List.getElem?_toArray, Option.getD_some, and_true] at hO hD; go_simp; rfl)
  simp only [List.nil_append, List.cons_append]
  refine Free.Chain.pr (SlI [o]) [(3, 10)] [] (by kernel_rfl) (by kernel_rfl) rfl (SlI.stable _) ?_ ?_
  · (intro ev W hb hR hO hD; have hS := hF W hR; obtain ⟨hb1, hb2, hb3⟩ := hb; simp only [Free.AllDeps, Free.AllOuts, Free.At, List.getElem?_cons_succ, List.getElem?_cons_zero, Array.getD_eq_getD_getElem?, List.getElem?_toArray, Option.getD_some, and_true] at hO hD; go_simp; exact ⟨belAlloc _ _, SlI.one _ _ _⟩)
  simp only [List.nil_append, List.cons_append]
  refine Free.Chain.pr (fun v _ => v = .bool true) [(4, 11), (1, 8)] [] (by kernel_rfl) (by kernel_rfl) rfl (fun _ _ _ _ h => h) ?_ ?_
  · (intro ev W hb hR hO hD; have hS := hF W hR; obtain ⟨hb1, hb2, hb3⟩ := hb; simp only [Free.AllDeps, Free.AllOuts, Free.At, List.getElem?_cons_succ, List.getElem?_cons_zero, Array.getD_eq_getD_getElem?, List.getElem?_toArray, Option.getD_some, and_true] at hO hD; go_simp; refine yields_enter ?_; (with_reducible refine (in_sl 0 36 [o] true _ _ (by simp [maxLen]) h1 hD.1).mono ?_); rintro e W2 ⟨rfl, hB2⟩; exact ⟨_, rfl, hB2, rfl⟩)
  simp only [List.nil_append, List.cons_append]
  refine Free.Chain.ex ?_ [(5, 12), (5, 12)] [] (by kernel_rfl) (by kernel_rfl) rfl Free.Bel.refl ?_ ?_
  rotate_left
  · (intro ev W hb hR hO hD; have hS := hF W hR; obtain ⟨hb1, hb2, hb3⟩ := hb; simp only [Free.AllDeps, Free.AllOuts, Free.At, List.getElem?_cons_succ, List.getElem?_cons_zero, Array.getD_eq_getD_getElem?, List.getElem?_toArray, Option.getD_some, and_true] at hO hD; go_simp; rfl)
  simp only [List.nil_append, List.cons_append]
  refine Free.Chain.exG ?_ [(6, 13)] [3] 6 true 13 (by kernel_rfl) (by kernel_rfl) rfl (by kernel_rfl) Free.Bel.refl ?_ ?_
  rotate_left
  · (intro ev W hb hR hO hD; have hS := hF W hR; obtain ⟨hb1, hb2, hb3⟩ := hb; simp only [Free.AllDeps, Free.AllOuts, Free.At, List.getElem?_cons_succ, List.getElem?_cons_zero, Array.getD_eq_getD_getElem?, List.getElem?_toArray, Option.getD_some, and_true] at hO hD; refine ⟨by simp [hD], ?_⟩; go_simp; rfl)
  simp only [List.nil_append, List.cons_append]
  refine Free.Chain.exG ?_ [(7, 14), (6, 13)] [] 6 true 13 (by kernel_rfl) (by kernel_rfl) rfl (by kernel_rfl) Free.Bel.refl ?_ ?_
  rotate_left
  · (intro ev W hb hR hO hD; have hS := hF W hR; obtain ⟨hb1, hb2, hb3⟩ := hb; simp only [Free.AllDeps, Free.AllOuts, Free.At, List.getElem?_cons_succ, List.getElem?_cons_zero, Array.getD_eq_getD_getElem?, List.getElem?_toArray, Option.getD_some, and_true] at hO hD; refine ⟨by simp [hD], ?_⟩; go_simp; rfl)
  simp only [List.nil_append, List.cons_append]
  refine Free.Chain.exG ?_ [(6, 13)] [3] 6 true 13 (by kernel_rfl) (by kernel_rfl) rfl (by kernel_rfl) Free.Bel.refl ?_ ?_
  rotate_left
  · (intro ev W hb hR hO hD; have hS := hF W hR; obtain ⟨hb1, hb2, hb3⟩ := hb; simp only [Free.AllDeps, Free.AllOuts, Free.At, List.getElem?_cons_succ, List.getElem?_cons_zero, Array.getD_eq_getD_getElem?, List.getElem?_toArray, Option.getD_some, and_true] at hO hD; refine ⟨by simp [hD], ?_⟩; go_simp; rfl)
  simp only [List.nil_append, List.cons_append]
  refine Free.Chain.exG ?_ [(9, 16), (6, 13)] [] 6 true 13 (by kernel_rfl) (by kernel_rfl) rfl (by kernel_rfl) Free.Bel.refl ?_ ?_
  rotate_left
  · (intro ev W hb hR hO hD; have hS := hF W hR; obtain ⟨hb1, hb2, hb3⟩ := hb; simp only [Free.AllDeps, Free.AllOuts, Free.At, List.getElem?_cons_succ, List.getElem?_cons_zero, Array.getD_eq_getD_getElem?, List.getElem?_toArray, Option.getD_some, and_true] at hO hD; refine ⟨by simp [hD], ?_⟩; go_simp; rfl)
  simp only [List.nil_append, List.cons_append]
  refine Free.Chain.prG (SlI [f]) [(10, 17), (6, 13)] [] 6 true 13 (by kernel_rfl) (by kernel_rfl) rfl (by kernel_rfl) (SlI.stable _) ?_ ?_
  · (intro ev W hb hR hO hD; have hS := hF W hR; obtain ⟨hb1, hb2, hb3⟩ := hb; simp only [Free.AllDeps, Free.AllOuts, Free.At, List.getElem?_cons_succ, List.getElem?_cons_zero, Array.getD_eq_getD_getElem?, List.getElem?_toArray, Option.getD_some, and_true] at hO hD; refine ⟨by simp [hD], ?_⟩; go_simp; exact ⟨belAlloc _ _, SlI.one _ _ _⟩)
  simp only [List.nil_append, List.cons_append]
  refine Free.Chain.prG (fun v _ => v = .bool false) [(8, 15), (11, 18), (6, 13), (6, 13)] [] 6 true 13 (by kernel_rfl) (by kernel_rfl) rfl (by kernel_rfl) (fun _ _ _ _ h => h) ?_ ?_
  · (intro ev W hb hR hO hD; have hS := hF W hR; obtain ⟨hb1, hb2, hb3⟩ := hb; simp only [Free.AllDeps, Free.AllOuts, Free.At, List.getElem?_cons_succ, List.getElem?_cons_zero, Array.getD_eq_getD_getElem?, List.getElem?_toArray, Option.getD_some, and_true] at hO hD; refine ⟨by simp [hD], ?_⟩; go_simp; refine yields_enter ?_; (with_reducible refine (in_sl 0 o [f] false _ _ (by simp [maxLen]) h2 hD.2.1).mono ?_); rintro e W2 ⟨rfl, hB2⟩; exact ⟨_, rfl, hB2, rfl⟩)
  simp only [List.nil_append, List.cons_append]
  refine Free.Chain.ex ?_ [(6, 13), (12, 19)] [] (by kernel_rfl) (by kernel_rfl) rfl Free.Bel.refl ?_ ?_
  rotate_left
  · (intro ev W hb hR hO hD; have hS := hF W hR; obtain ⟨hb1, hb2, hb3⟩ := hb; simp only [Free.AllDeps, Free.AllOuts, Free.At, List.getElem?_cons_succ, List.getElem?_cons_zero, Array.getD_eq_getD_getElem?, List.getElem?_toArray, Option.getD_some, and_true] at hO hD; go_simp; rfl)
  simp only [List.nil_append, List.cons_append]
  refine Free.Chain.pr (fun v _ => v = .int .i64 11) [(13, 20), (12, 19)] [] (by kernel_rfl) (by kernel_rfl) rfl (fun _ _ _ _ h => h) ?_ ?_
  · (intro ev W hb hR hO hD; have hS := hF W hR; obtain ⟨hb1, hb2, hb3⟩ := hb; simp only [Free.AllDeps, Free.AllOuts, Free.At, List.getElem?_cons_succ, List.getElem?_cons_zero, Array.getD_eq_getD_getElem?, List.getElem?_toArray, Option.getD_some, and_true] at hO hD; go_simp; refine yields_enter ?_; (with_reducible refine (unless_any _ _ 11 _ rfl).mono ?_); rintro e W2 ⟨rfl, rfl⟩; exact ⟨_, rfl, Free.Bel.refl _, rfl⟩)
  simp only [List.nil_append, List.cons_append]
  refine Free.Chain.pr (SlI [x, 11]) [(1, 8), (14, 21)] [] (by kernel_rfl) (by kernel_rfl) rfl (SlI.stable _) ?_ ?_
  · (intro ev W hb hR hO hD; have hS := hF W hR; obtain ⟨hb1, hb2, hb3⟩ := hb; simp only [Free.AllDeps, Free.AllOuts, Free.At, List.getElem?_cons_succ, List.getElem?_cons_zero, Array.getD_eq_getD_getElem?, List.getElem?_toArray, Option.getD_some, and_true] at hO hD; go_simp; exact ⟨belAlloc _ _, SlI.two _ _ _ _⟩)
  simp only [List.nil_append, List.cons_append]
  refine Free.Chain.pr (fun v _ => v = .int .i64 z) [(15, 22), (14, 21)] [] (by kernel_rfl) (by kernel_rfl) rfl (fun _ _ _ _ h => h) ?_ ?_
  · (intro ev W hb hR hO hD; have hS := hF W hR; obtain ⟨hb1, hb2, hb3⟩ := hb; simp only [Free.AllDeps, Free.AllOuts, Free.At, List.getElem?_cons_succ, List.getElem?_cons_zero, Array.getD_eq_getD_getElem?, List.getElem?_toArray, Option.getD_some, and_true] at hO hD; go_simp; refine yields_enter ?_; (with_reducible refine (first_sl [x, 11] z _ _ (by simp [maxLen]) hz.out hD.1).mono ?_); rintro e W2 ⟨rfl, rfl⟩; exact ⟨_, rfl, Free.Bel.refl _, rfl⟩)
  simp only [List.nil_append, List.cons_append]
  refine Free.Chain.ex ?_ [(16, 23), (16, 23), (0, 7), (1, 8), (2, 9), (3, 10), (4, 11), (5, 12), (6, 13), (7, 14), (8, 15), (9, 16), (10, 17), (11, 18), (12, 19), (13, 20), (14, 21), (15, 22), (16, 23)] [] (by kernel_rfl) (by kernel_rfl) rfl Free.Bel.refl ?_ ?_
  rotate_left
  · (intro ev W hb hR hO hD; have hS := hF W hR; obtain ⟨hb1, hb2, hb3⟩ := hb; simp only [Free.AllDeps, Free.AllOuts, Free.At, List.getElem?_cons_succ, List.getElem?_cons_zero, Array.getD_eq_getD_getElem?, List.getElem?_toArray, Option.getD_some, and_true] at hO hD; go_simp; rfl)
  simp only [List.nil_append, List.cons_append]
  intro xs w2 hR hV
  simp only [Free.AllV, Free.At, List.length_cons, List.length_nil, Nat.reduceAdd, List.getElem?_cons_succ, List.getElem?_cons_zero, true_and] at hV
  simp only [Free.putsFrom, Act.put, Nat.zero_add, Nat.reduceAdd, hV, List.setIfInBounds_toArray, List.set_cons_succ, List.set_cons_zero]
  have HK2 := hF w2 hR
  clear hR hV hF
  go_wp2_with fail
  go_ret2
  have hbb := HBB.out
  subst hbb
  exact ⟨rfl, HB0.out.trans (HK2.mono (by omega))⟩

set_option maxRecDepth 100000 in
set_option maxHeartbeats 4000000 in
theorem offA_c (ts : List (Int × Int)) (v : Value) (o f : Int) (w : World) (hv : PL ts v w) (h1 : inB 0 36 [o] = true) (h2 : inB 0 o [f] = true) (x z : Int) (hx : Hid (agreedE ts = x)) (hz : Hid (firstE [x, 0] = z)) (hz0 : (z != 0) = true) :
    Calls Tryz.prog 21 #[v, .agg #[.int .i64 o, .int .i64 f]] w fun e w' => e = .returned (.tuple #[.int .i64 0, .int .i64 z]) ∧ Below w.heap.size w w' := by
  have hB0 : Below w.heap.size w (w.alloc (.cells #[.int .i64 o, .int .i64 f] 37)) := (Below.refl _ w).alloc (Nat.le_refl _) _
  have c0_0 : (w.alloc (.cells #[.int .i64 o, .int .i64 f] 37)).cell? ⟨w.heap.size, 0, none⟩ = some (.int .i64 o) := by simp [go_sem]
  have c0_1 : (w.alloc (.cells #[.int .i64 o, .int .i64 f] 37)).cell? ⟨w.heap.size, 1, none⟩ = some (.int .i64 f) := by simp [go_sem]
  have HV0 := Lib.hid (fun (W : World) (hW : Free.Bel (w.alloc (.cells #[.int .i64 o, .int .i64 f] 37)) W) => (hv.keeps hB0).keeps hW)
  clear hv
  go_enter Tryz.func21, Tryz.ntmps21
  go_wp2_with fail
  have hq : w.heap.size + 1 = (w.alloc (.cells #[.int .i64 o, .int .i64 f] 37)).heap.size := by simp
  generalize (w.alloc (.cells #[.int .i64 o, .int .i64 f] 37)) = W0 at *
  generalize hbb : w.heap.size = bb at *
  have HBB := Lib.hid hbb
  clear hbb
  have HB0 := Lib.hid hB0
  have hq0 : bb + 1 ≤ W0.heap.size := by omega
  clear hB0 hq
  have FA : ∀ W, Free.Bel W0 W → W.cell? ⟨bb, 0, none⟩ = some (.int .i64 o) ∧ W.cell? ⟨bb, 1, none⟩ = some (.int .i64 f) ∧ bb + 1 ≤ W.heap.size := fun W hW => ⟨keepsB hW c0_0, keepsB hW c0_1, Nat.le_trans hq0 hW.size⟩
  clear c0_0 c0_1
  have hF : ∀ W, Free.Bel W0.drew W → Free.Bel W0 W := fun W hW => Free.Bel.trans _ _ _ (Bel.drewT (Free.Bel.refl _)) hW
  refine Free.wp_free (R := Free.Bel) (by kernel_rfl) (by kernel_rfl) Free.Bel.refl Free.Bel.trans ?_
  refine Free.Chain.ex ?_ [] [0] (by kernel_rfl) (by kernel_rfl) rfl Free.Bel.refl ?_ ?_
  rotate_left
  · (intro ev W hb hR hO hD; have hS := hF W hR; obtain ⟨hb1, hb2, hb3⟩ := hb; simp only [Free.AllDeps, Free.AllOuts, Free.At, List.getElem?_cons_succ, List.getElem?_cons_zero, Array.getD_eq_getD_getElem?, List.getElem?_toArray, Option.getD_some, and_true] at hO hD; go_simp; rfl)
  simp only [List.nil_append, List.cons_append]
  refine Free.Chain.pr (fun v _ => v = .int .i64 x) [(0, 7)] [] (by kernel_rfl) (by kernel_rfl) rfl (fun _ _ _ _ h => h) ?_ ?_
  · (intro ev W hb hR hO hD; have hS := hF W hR; obtain ⟨hb1, hb2, hb3⟩ := hb; simp only [Free.AllDeps, Free.AllOuts, Free.At, List.getElem?_cons_succ, List.getElem?_cons_zero, Array.getD_eq_getD_getElem?, List.getElem?_toArray, Option.getD_some, and_true] at hO hD; go_simp; refine yields_enter ?_; (with_reducible refine (agreed_v ts v _ (HV0.out _ hS) x hx).mono ?_); rintro e W2 ⟨rfl, hB2⟩; exact ⟨_, rfl, hB2, rfl⟩)
  simp only [List.nil_append, List.cons_append]
  refine Free.Chain.ex ?_ [] [3] (by kernel_rfl) (by kernel_rfl) rfl Free.Bel.refl ?_ ?_
  rotate_left
  · (intro ev W hb hR hO hD; have hS := hF W hR; obtain ⟨hb1, hb2, hb3⟩ := hb; simp only [Free.AllDeps, Free.AllOuts, Free.At, List.getElem?_cons_succ, List.getElem?_cons_zero, Array.getD_eq_getD_getElem?, List.getElem?_toArray, Option.getD_some, and_true] at hO hD; go_simp; rfl)
  simp only [List.nil_append, List.cons_append]
  refine Free.Chain.ex ?_ [(2, 9)] [] (by kernel_rfl) (by kernel_rfl) rfl Free.Bel.refl ?_ ?_
  rotate_left
  · (intro ev W hb hR hO hD; have hS := hF W hR; obtain ⟨hb1, hb2, hb3⟩ := hb; simp only [Free.AllDeps, Free.AllOuts, Free.At, List.getElem?_cons_succ, List.getElem?_cons_zero, Array.getD_eq_getD_getElem?, List.getElem?_toArray, Option.getD_some, and_true] at hO hD; go_simp; rfl)
  simp only [List.nil_append, List.cons_append]
  refine Free.Chain.pr (SlI [o]) [(3, 10)] [] (by kernel_rfl) (by kernel_rfl) rfl (SlI.stable _) ?_ ?_
  · (intro ev W hb hR hO hD; have hS := hF W hR; obtain ⟨hb1, hb2, hb3⟩ := hb; simp only [Free.AllDeps, Free.AllOuts, Free.At, List.getElem?_cons_succ, List.getElem?_cons_zero, Array.getD_eq_getD_getElem?, List.getElem?_toArray, Option.getD_some, and_true] at hO hD; go_simp; exact ⟨belAlloc _ _, SlI.one _ _ _⟩)
  simp only [List.nil_append, List.cons_append]
  refine Free.Chain.pr (fun v _ => v = .bool true) [(4, 11), (1, 8)] [] (by kernel_rfl) (by kernel_rfl) rfl (fun _ _ _ _ h => h) ?_ ?_
  · (intro ev W hb hR hO hD; have hS := hF W hR; obtain ⟨hb1, hb2, hb3⟩ := hb; simp only [Free.AllDeps, Free.AllOuts, Free.At, List.getElem?_cons_succ, List.getElem?_cons_zero, Array.getD_eq_getD_getElem?, List.getElem?_toArray, Option.getD_some, and_true] at hO hD; go_simp; refine yields_enter ?_; (with_reducible refine (in_sl 0 36 [o] true _ _ (by simp [maxLen]) h1 hD.1).mono ?_); rintro e W2 ⟨rfl, hB2⟩; exact ⟨_, rfl, hB2, rfl⟩)
  simp only [List.nil_append, List.cons_append]
  refine Free.Chain.ex ?_ [(5, 12), (5, 12)] [] (by kernel_rfl) (by kernel_rfl) rfl Free.Bel.refl ?_ ?_
  rotate_left
  · (intro ev W hb hR hO hD; have hS := hF W hR; obtain ⟨hb1, hb2, hb3⟩ := hb; simp only [Free.AllDeps, Free.AllOuts, Free.At, List.getElem?_cons_succ, List.getElem?_cons_zero, Array.getD_eq_getD_getElem?, List.getElem?_toArray, Option.getD_some, and_true] at hO hD; go_simp; rfl)
  simp only [List.nil_append, List.cons_append]
  refine Free.Chain.exG ?_ [(6, 13)] [3] 6 true 13 (by kernel_rfl) (by kernel_rfl) rfl (by kernel_rfl) Free.Bel.refl ?_ ?_
  rotate_left
  · (intro ev W hb hR hO hD; have hS := hF W hR; obtain ⟨hb1, hb2, hb3⟩ := hb; simp only [Free.AllDeps, Free.AllOuts, Free.At, List.getElem?_cons_succ, List.getElem?_cons_zero, Array.getD_eq_getD_getElem?, List.getElem?_toArray, Option.getD_some, and_true] at hO hD; refine ⟨by simp [hD], ?_⟩; go_simp; rfl)
  simp only [List.nil_append, List.cons_append]
  refine Free.Chain.exG ?_ [(7, 14), (6, 13)] [] 6 true 13 (by kernel_rfl) (by kernel_rfl) rfl (by kernel_rfl) Free.Bel.refl ?_ ?_
  rotate_left
  · (intro ev W hb hR hO hD; have hS := hF W hR; obtain ⟨hb1, hb2, hb3⟩ := hb; simp only [Free.AllDeps, Free.AllOuts, Free.At, List.getElem?_cons_succ, List.getElem?_cons_zero, Array.getD_eq_getD_getElem?, List.getElem?_toArray, Option.getD_some, and_true] at hO hD; refine ⟨by simp [hD], ?_⟩; go_simp; rfl)
  simp only [List.nil_append, List.cons_append]
  refine Free.Chain.exG ?_ [(6, 13)] [3] 6 true 13 (by kernel_rfl) (by kernel_rfl) rfl (by kernel_rfl) Free.Bel.refl ?_ ?_
  rotate_left
  · (intro ev W hb hR hO hD; have hS := hF W hR; obtain ⟨hb1, hb2, hb3⟩ := hb; simp only [Free.AllDeps, Free.AllOuts, Free.At, List.getElem?_cons_succ, List.getElem?_cons_zero, Array.getD_eq_getD_getElem?, List.getElem?_toArray, Option.getD_some, and_true] at hO hD; refine ⟨by simp [hD], ?_⟩; go_simp; rfl)
  simp only [List.nil_append, List.cons_append]
  refine Free.Chain.exG ?_ [(9, 16), (6, 13)] [] 6 true 13 (by kernel_rfl) (by kernel_rfl) rfl (by kernel_rfl) Free.Bel.refl ?_ ?_
  rotate_left
  · (intro ev W hb hR hO hD; have hS := hF W hR; obtain ⟨hb1, hb2, hb3⟩ := hb; simp only [Free.AllDeps, Free.AllOuts, Free.At, List.getElem?_cons_succ, List.getElem?_cons_zero, Array.getD_eq_getD_getElem?, List.getElem?_toArray, Option.getD_some, and_true] at hO hD; refine ⟨by simp [hD], ?_⟩; go_simp; rfl)
  simp only [List.nil_append, List.cons_append]
  refine Free.Chain.prG (SlI [f]) [(10, 17), (6, 13)] [] 6 true 13 (by kernel_rfl) (by kernel_rfl) rfl (by kernel_rfl) (SlI.stable _) ?_ ?_
  · (intro ev W hb hR hO hD; have hS := hF W hR; obtain ⟨hb1, hb2, hb3⟩ := hb; simp only [Free.AllDeps, Free.AllOuts, Free.At, List.getElem?_cons_succ, List.getElem?_cons_zero, Array.getD_eq_getD_getElem?, List.getElem?_toArray, Option.getD_some, and_true] at hO hD; refine ⟨by simp [hD], ?_⟩; go_simp; exact ⟨belAlloc _ _, SlI.one _ _ _⟩)
  simp only [List.nil_append, List.cons_append]
  refine Free.Chain.prG (fun v _ => v = .bool true) [(8, 15), (11, 18), (6, 13), (6, 13)] [] 6 true 13 (by kernel_rfl) (by kernel_rfl) rfl (by kernel_rfl) (fun _ _ _ _ h => h) ?_ ?_
  · (intro ev W hb hR hO hD; have hS := hF W hR; obtain ⟨hb1, hb2, hb3⟩ := hb; simp only [Free.AllDeps, Free.AllOuts, Free.At, List.getElem?_cons_succ, List.getElem?_cons_zero, Array.getD_eq_getD_getElem?, List.getElem?_toArray, Option.getD_some, and_true] at hO hD; refine ⟨by simp [hD], ?_⟩; go_simp; refine yields_enter ?_; (with_reducible refine (in_sl 0 o [f] true _ _ (by simp [maxLen]) h2 hD.2.1).mono ?_); rintro e W2 ⟨rfl, hB2⟩; exact ⟨_, rfl, hB2, rfl⟩)
  simp only [List.nil_append, List.cons_append]
  refine Free.Chain.ex ?_ [(6, 13), (12, 19)] [] (by kernel_rfl) (by kernel_rfl) rfl Free.Bel.refl ?_ ?_
  rotate_left
  · (intro ev W hb hR hO hD; have hS := hF W hR; obtain ⟨hb1, hb2, hb3⟩ := hb; simp only [Free.AllDeps, Free.AllOuts, Free.At, List.getElem?_cons_succ, List.getElem?_cons_zero, Array.getD_eq_getD_getElem?, List.getElem?_toArray, Option.getD_some, and_true] at hO hD; go_simp; rfl)
  simp only [List.nil_append, List.cons_append]
  refine Free.Chain.pr (fun v _ => v = .int .i64 0) [(13, 20), (12, 19)] [] (by kernel_rfl) (by kernel_rfl) rfl (fun _ _ _ _ h => h) ?_ ?_
  · (intro ev W hb hR hO hD; have hS := hF W hR; obtain ⟨hb1, hb2, hb3⟩ := hb; simp only [Free.AllDeps, Free.AllOuts, Free.At, List.getElem?_cons_succ, List.getElem?_cons_zero, Array.getD_eq_getD_getElem?, List.getElem?_toArray, Option.getD_some, and_true] at hO hD; go_simp; refine yields_enter ?_; (with_reducible refine (unless_any _ _ 0 _ rfl).mono ?_); rintro e W2 ⟨rfl, rfl⟩; exact ⟨_, rfl, Free.Bel.refl _, rfl⟩)
  simp only [List.nil_append, List.cons_append]
  refine Free.Chain.pr (SlI [x, 0]) [(1, 8), (14, 21)] [] (by kernel_rfl) (by kernel_rfl) rfl (SlI.stable _) ?_ ?_
  · (intro ev W hb hR hO hD; have hS := hF W hR; obtain ⟨hb1, hb2, hb3⟩ := hb; simp only [Free.AllDeps, Free.AllOuts, Free.At, List.getElem?_cons_succ, List.getElem?_cons_zero, Array.getD_eq_getD_getElem?, List.getElem?_toArray, Option.getD_some, and_true] at hO hD; go_simp; exact ⟨belAlloc _ _, SlI.two _ _ _ _⟩)
  simp only [List.nil_append, List.cons_append]
  refine Free.Chain.pr (fun v _ => v = .int .i64 z) [(15, 22), (14, 21)] [] (by kernel_rfl) (by kernel_rfl) rfl (fun _ _ _ _ h => h) ?_ ?_
  · (intro ev W hb hR hO hD; have hS := hF W hR; obtain ⟨hb1, hb2, hb3⟩ := hb; simp only [Free.AllDeps, Free.AllOuts, Free.At, List.getElem?_cons_succ, List.getElem?_cons_zero, Array.getD_eq_getD_getElem?, List.getElem?_toArray, Option.getD_some, and_true] at hO hD; go_simp; refine yields_enter ?_; (with_reducible refine (first_sl [x, 0] z _ _ (by simp [maxLen]) hz.out hD.1).mono ?_); rintro e W2 ⟨rfl, rfl⟩; exact ⟨_, rfl, Free.Bel.refl _, rfl⟩)
  simp only [List.nil_append, List.cons_append]
  refine Free.Chain.ex ?_ [(16, 23), (16, 23), (0, 7), (1, 8), (2, 9), (3, 10), (4, 11), (5, 12), (6, 13), (7, 14), (8, 15), (9, 16), (10, 17), (11, 18), (12, 19), (13, 20), (14, 21), (15, 22), (16, 23)] [] (by kernel_rfl) (by kernel_rfl) rfl Free.Bel.refl ?_ ?_
  rotate_left
  · (intro ev W hb hR hO hD; have hS := hF W hR; obtain ⟨hb1, hb2, hb3⟩ := hb; simp only [Free.AllDeps, Free.AllOuts, Free.At, List.getElem?_cons_succ, List.getElem?_cons_zero, Array.getD_eq_getD_getElem?, List.getElem?_toArray, Option.getD_some, and_true] at hO hD; go_simp; rfl)
  simp only [List.nil_append, List.cons_append]
  intro xs w2 hR hV
  simp only [Free.AllV, Free.At, List.length_cons, List.length_nil, Nat.reduceAdd, List.getElem?_cons_succ, List.getElem?_cons_zero, true_and] at hV
  simp only [Free.putsFrom, Act.put, Nat.zero_add, Nat.reduceAdd, hV, List.setIfInBounds_toArray, List.set_cons_succ, List.set_cons_zero]
  have HK2 := hF w2 hR
  clear hR hV hF
  go_wp2_with fail
  go_ret2
  have hbb := HBB.out
  subst hbb
  exact ⟨rfl, HB0.out.trans (HK2.mono (by omega))⟩

set_option maxRecDepth 100000 in
set_option maxHeartbeats 4000000 in
theorem offA_d (ts : List (Int × Int)) (v : Value) (o f : Int) (w : World) (hv : PL ts v w) (h1 : inB 0 36 [o] = true) (h2 : inB 0 o [f] = true) (x : Int) (hx : Hid (agreedE ts = x)) (hz : Hid (firstE [x, 0] = 0)) (hts : Hid (∀ t ∈ ts, 0 ≤ t.1 ∧ t.1 ≤ 100)) :
    Calls Tryz.prog 21 #[v, .agg #[.int .i64 o, .int .i64 f]] w fun e w' => e = .returned (.tuple #[.int .i64 (offV ts o f), .int .i64 0]) ∧ Below w.heap.size w w' := by
  have q1 : 0 ≤ o ∧ o ≤ 36 := by simpa [inB] using h1
  have q2 : 0 ≤ f ∧ f ≤ o := by simpa [inB] using h2
  have hB0 : Below w.heap.size w (w.alloc (.cells #[.int .i64 o, .int .i64 f] 37)) := (Below.refl _ w).alloc (Nat.le_refl _) _
  have c0_0 : (w.alloc (.cells #[.int .i64 o, .int .i64 f] 37)).cell? ⟨w.heap.size, 0, none⟩ = some (.int .i64 o) := by simp [go_sem]
  have c0_1 : (w.alloc (.cells #[.int .i64 o, .int .i64 f] 37)).cell? ⟨w.heap.size, 1, none⟩ = some (.int .i64 f) := by simp [go_sem]
  have HV0 := Lib.hid (fun (W : World) (hW : Free.Bel (w.alloc (.cells #[.int .i64 o, .int .i64 f] 37)) W) => (hv.keeps hB0).keeps hW)
  clear hv
  go_enter Tryz.func21, Tryz.ntmps21
  go_wp2_with fail
  have hq : w.heap.size + 1 = (w.alloc (.cells #[.int .i64 o, .int .i64 f] 37)).heap.size := by simp
  generalize (w.alloc (.cells #[.int .i64 o, .int .i64 f] 37)) = W0 at *
  generalize hbb : w.heap.size = bb at *
  have HBB := Lib.hid hbb
  clear hbb
  have HB0 := Lib.hid hB0
  have hq0 : bb + 1 ≤ W0.heap.size := by omega
  clear hB0 hq
  have FA : ∀ W, Free.Bel W0 W → W.cell? ⟨bb, 0, none⟩ = some (.int .i64 o) ∧ W.cell? ⟨bb, 1, none⟩ = some (.int .i64 f) ∧ bb + 1 ≤ W.heap.size := fun W hW => ⟨keepsB hW c0_0, keepsB hW c0_1, Nat.le_trans hq0 hW.size⟩
  clear c0_0 c0_1
  have hF : ∀ W, Free.Bel W0.drew W → Free.Bel W0 W := fun W hW => Free.Bel.trans _ _ _ (Bel.drewT (Free.Bel.refl _)) hW
  refine Free.wp_free (R := Free.Bel) (by kernel_rfl) (by kernel_rfl) Free.Bel.refl Free.Bel.trans ?_
  refine Free.Chain.ex ?_ [] [0] (by kernel_rfl) (by kernel_rfl) rfl Free.Bel.refl ?_ ?_
  rotate_left
  · (intro ev W hb hR hO hD; have hS := hF W hR; obtain ⟨hb1, hb2, hb3⟩ := hb; simp only [Free.AllDeps, Free.AllOuts, Free.At, List.getElem?_cons_succ, List.getElem?_cons_zero, Array.getD_eq_getD_getElem?, List.getElem?_toArray, Option.getD_some, and_true] at hO hD; go_simp; rfl)
  simp only [List.nil_append, List.cons_append]
  refine Free.Chain.pr (fun v _ => v = .int .i64 x) [(0, 7)] [] (by kernel_rfl) (by kernel_rfl) rfl (fun _ _ _ _ h => h) ?_ ?_
  · (intro ev W hb hR hO hD; have hS := hF W hR; obtain ⟨hb1, hb2, hb3⟩ := hb; simp only [Free.AllDeps, Free.AllOuts, Free.At, List.getElem?_cons_succ, List.getElem?_cons_zero, Array.getD_eq_getD_getElem?, List.getElem?_toArray, Option.getD_some, and_true] at hO hD; go_simp; refine yields_enter ?_; (with_reducible refine (agreed_v ts v _ (HV0.out _ hS) x hx).mono ?_); rintro e W2 ⟨rfl, hB2⟩; exact ⟨_, rfl, hB2, rfl⟩)
  simp only [List.nil_append, List.cons_append]
  refine Free.Chain.ex ?_ [] [3] (by kernel_rfl) (by kernel_rfl) rfl Free.Bel.refl ?_ ?_
  rotate_left
  · (intro ev W hb hR hO hD; have hS := hF W hR; obtain ⟨hb1, hb2, hb3⟩ := hb; simp only [Free.AllDeps, Free.AllOuts, Free.At, List.getElem?_cons_succ, List.getElem?_cons_zero, Array.getD_eq_getD_getElem?, List.getElem?_toArray, Option.getD_some, and_true] at hO hD; go_simp; rfl)
  simp only [List.nil_append, List.cons_append]
  refine Free.Chain.ex ?_ [(2, 9)] [] (by kernel_rfl) (by kernel_rfl) rfl Free.Bel.refl ?_ ?_
  rotate_left
  · (intro ev W hb hR hO hD; have hS := hF W hR; obtain ⟨hb1, hb2, hb3⟩ := hb; simp only [Free.AllDeps, Free.AllOuts, Free.At, List.getElem?_cons_succ, List.getElem?_cons_zero, Array.getD_eq_getD_getElem?, List.getElem?_toArray, Option.getD_some, and_true] at hO hD; go_simp; rfl)
  simp only [List.nil_append, List.cons_append]
  refine Free.Chain.pr (SlI [o]) [(3, 10)] [] (by kernel_rfl) (by kernel_rfl) rfl (SlI.stable _) ?_ ?_
  · (intro ev W hb hR hO hD; have hS := hF W hR; obtain ⟨hb1, hb2, hb3⟩ := hb; simp only [Free.AllDeps, Free.AllOuts, Free.At, List.getElem?_cons_succ, List.getElem?_cons_zero, Array.getD_eq_getD_getElem?, List.getElem?_toArray, Option.getD_some, and_true] at hO hD; go_simp; exact ⟨belAlloc _ _, SlI.one _ _ _⟩)
  simp only [List.nil_append, List.cons_append]
  refine Free.Chain.pr (fun v _ => v = .bool true) [(4, 11), (1, 8)] [] (by kernel_rfl) (by kernel_rfl) rfl (fun _ _ _ _ h => h) ?_ ?_
  · (intro ev W hb hR hO hD; have hS := hF W hR; obtain ⟨hb1, hb2, hb3⟩ := hb; simp only [Free.AllDeps, Free.AllOuts, Free.At, List.getElem?_cons_succ, List.getElem?_cons_zero, Array.getD_eq_getD_getElem?, List.getElem?_toArray, Option.getD_some, and_true] at hO hD; go_simp; refine yields_enter ?_; (with_reducible refine (in_sl 0 36 [o] true _ _ (by simp [maxLen]) h1 hD.1).mono ?_); rintro e W2 ⟨rfl, hB2⟩; exact ⟨_, rfl, hB2, rfl⟩)
  simp only [List.nil_append, List.cons_append]
  refine Free.Chain.ex ?_ [(5, 12), (5, 12)] [] (by kernel_rfl) (by kernel_rfl) rfl Free.Bel.refl ?_ ?_
  rotate_left
  · (intro ev W hb hR hO hD; have hS := hF W hR; obtain ⟨hb1, hb2, hb3⟩ := hb; simp only [Free.AllDeps, Free.AllOuts, Free.At, List.getElem?_cons_succ, List.getElem?_cons_zero, Array.getD_eq_getD_getElem?, List.getElem?_toArray, Option.getD_some, and_true] at hO hD; go_simp; rfl)
  simp only [List.nil_append, List.cons_append]
  refine Free.Chain.exG ?_ [(6, 13)] [3] 6 true 13 (by kernel_rfl) (by kernel_rfl) rfl (by kernel_rfl) Free.Bel.refl ?_ ?_
  rotate_left
  · (intro ev W hb hR hO hD; have hS := hF W hR; obtain ⟨hb1, hb2, hb3⟩ := hb; simp only [Free.AllDeps, Free.AllOuts, Free.At, List.getElem?_cons_succ, List.getElem?_cons_zero, Array.getD_eq_getD_getElem?, List.getElem?_toArray, Option.getD_some, and_true] at hO hD; refine ⟨by simp [hD], ?_⟩; go_simp; rfl)
  simp only [List.nil_append, List.cons_append]
  refine Free.Chain.exG ?_ [(7, 14), (6, 13)] [] 6 true 13 (by kernel_rfl) (by kernel_rfl) rfl (by kernel_rfl) Free.Bel.refl ?_ ?_
  rotate_left
  · (intro ev W hb hR hO hD; have hS := hF W hR; obtain ⟨hb1, hb2, hb3⟩ := hb; simp only [Free.AllDeps, Free.AllOuts, Free.At, List.getElem?_cons_succ, List.getElem?_cons_zero, Array.getD_eq_getD_getElem?, List.getElem?_toArray, Option.getD_some, and_true] at hO hD; refine ⟨by simp [hD], ?_⟩; go_simp; rfl)
  simp only [List.nil_append, List.cons_append]
  refine Free.Chain.exG ?_ [(6, 13)] [3] 6 true 13 (by kernel_rfl) (by kernel_rfl) rfl (by kernel_rfl) Free.Bel.refl ?_ ?_
  rotate_left
  · (intro ev W hb hR hO hD; have hS := hF W hR; obtain ⟨hb1, hb2, hb3⟩ := hb; simp only [Free.AllDeps, Free.AllOuts, Free.At, List.getElem?_cons_succ, List.getElem?_cons_zero, Array.getD_eq_getD_getElem?, List.getElem?_toArray, Option.getD_some, and_true] at hO hD; refine ⟨by simp [hD], ?_⟩; go_simp; rfl)
  simp only [List.nil_append, List.cons_append]
  refine Free.Chain.exG ?_ [(9, 16), (6, 13)] [] 6 true 13 (by kernel_rfl) (by kernel_rfl) rfl (by kernel_rfl) Free.Bel.refl ?_ ?_
  rotate_left
  · (intro ev W hb hR hO hD; have hS := hF W hR; obtain ⟨hb1, hb2, hb3⟩ := hb; simp only [Free.AllDeps, Free.AllOuts, Free.At, List.getElem?_cons_succ, List.getElem?_cons_zero, Array.getD_eq_getD_getElem?, List.getElem?_toArray, Option.getD_some, and_true] at hO hD; refine ⟨by simp [hD], ?_⟩; go_simp; rfl)
  simp only [List.nil_append, List.cons_append]
  refine Free.Chain.prG (SlI [f]) [(10, 17), (6, 13)] [] 6 true 13 (by kernel_rfl) (by kernel_rfl) rfl (by kernel_rfl) (SlI.stable _) ?_ ?_
  · (intro ev W hb hR hO hD; have hS := hF W hR; obtain ⟨hb1, hb2, hb3⟩ := hb; simp only [Free.AllDeps, Free.AllOuts, Free.At, List.getElem?_cons_succ, List.getElem?_cons_zero, Array.getD_eq_getD_getElem?, List.getElem?_toArray, Option.getD_some, and_true] at hO hD; refine ⟨by simp [hD], ?_⟩; go_simp; exact ⟨belAlloc _ _, SlI.one _ _ _⟩)
  simp only [List.nil_append, List.cons_append]
  refine Free.Chain.prG (fun v _ => v = .bool true) [(8, 15), (11, 18), (6, 13), (6, 13)] [] 6 true 13 (by kernel_rfl) (by kernel_rfl) rfl (by kernel_rfl) (fun _ _ _ _ h => h) ?_ ?_
  · (intro ev W hb hR hO hD; have hS := hF W hR; obtain ⟨hb1, hb2, hb3⟩ := hb; simp only [Free.AllDeps, Free.AllOuts, Free.At, List.getElem?_cons_succ, List.getElem?_cons_zero, Array.getD_eq_getD_getElem?, List.getElem?_toArray, Option.getD_some, and_true] at hO hD; refine ⟨by simp [hD], ?_⟩; go_simp; refine yields_enter ?_; (with_reducible refine (in_sl 0 o [f] true _ _ (by simp [maxLen]) h2 hD.2.1).mono ?_); rintro e W2 ⟨rfl, hB2⟩; exact ⟨_, rfl, hB2, rfl⟩)
  simp only [List.nil_append, List.cons_append]
  refine Free.Chain.ex ?_ [(6, 13), (12, 19)] [] (by kernel_rfl) (by kernel_rfl) rfl Free.Bel.refl ?_ ?_
  rotate_left
  · (intro ev W hb hR hO hD; have hS := hF W hR; obtain ⟨hb1, hb2, hb3⟩ := hb; simp only [Free.AllDeps, Free.AllOuts, Free.At, List.getElem?_cons_succ, List.getElem?_cons_zero, Array.getD_eq_getD_getElem?, List.getElem?_toArray, Option.getD_some, and_true] at hO hD; go_simp; rfl)
  simp only [List.nil_append, List.cons_append]
  refine Free.Chain.pr (fun v _ => v = .int .i64 0) [(13, 20), (12, 19)] [] (by kernel_rfl) (by kernel_rfl) rfl (fun _ _ _ _ h => h) ?_ ?_
  · (intro ev W hb hR hO hD; have hS := hF W hR; obtain ⟨hb1, hb2, hb3⟩ := hb; simp only [Free.AllDeps, Free.AllOuts, Free.At, List.getElem?_cons_succ, List.getElem?_cons_zero, Array.getD_eq_getD_getElem?, List.getElem?_toArray, Option.getD_some, and_true] at hO hD; go_simp; refine yields_enter ?_; (with_reducible refine (unless_any _ _ 0 _ rfl).mono ?_); rintro e W2 ⟨rfl, rfl⟩; exact ⟨_, rfl, Free.Bel.refl _, rfl⟩)
  simp only [List.nil_append, List.cons_append]
  refine Free.Chain.pr (SlI [x, 0]) [(1, 8), (14, 21)] [] (by kernel_rfl) (by kernel_rfl) rfl (SlI.stable _) ?_ ?_
  · (intro ev W hb hR hO hD; have hS := hF W hR; obtain ⟨hb1, hb2, hb3⟩ := hb; simp only [Free.AllDeps, Free.AllOuts, Free.At, List.getElem?_cons_succ, List.getElem?_cons_zero, Array.getD_eq_getD_getElem?, List.getElem?_toArray, Option.getD_some, and_true] at hO hD; go_simp; exact ⟨belAlloc _ _, SlI.two _ _ _ _⟩)
  simp only [List.nil_append, List.cons_append]
  refine Free.Chain.pr (fun v _ => v = .int .i64 0) [(15, 22), (14, 21)] [] (by kernel_rfl) (by kernel_rfl) rfl (fun _ _ _ _ h => h) ?_ ?_
  · (intro ev W hb hR hO hD; have hS := hF W hR; obtain ⟨hb1, hb2, hb3⟩ := hb; simp only [Free.AllDeps, Free.AllOuts, Free.At, List.getElem?_cons_succ, List.getElem?_cons_zero, Array.getD_eq_getD_getElem?, List.getElem?_toArray, Option.getD_some, and_true] at hO hD; go_simp; refine yields_enter ?_; (with_reducible refine (first_sl [x, 0] 0 _ _ (by simp [maxLen]) hz.out hD.1).mono ?_); rintro e W2 ⟨rfl, rfl⟩; exact ⟨_, rfl, Free.Bel.refl _, rfl⟩)
  simp only [List.nil_append, List.cons_append]
  refine Free.Chain.ex ?_ [(16, 23), (16, 23), (0, 7), (1, 8), (2, 9), (3, 10), (4, 11), (5, 12), (6, 13), (7, 14), (8, 15), (9, 16), (10, 17), (11, 18), (12, 19), (13, 20), (14, 21), (15, 22), (16, 23)] [] (by kernel_rfl) (by kernel_rfl) rfl Free.Bel.refl ?_ ?_
  rotate_left
  · (intro ev W hb hR hO hD; have hS := hF W hR; obtain ⟨hb1, hb2, hb3⟩ := hb; simp only [Free.AllDeps, Free.AllOuts, Free.At, List.getElem?_cons_succ, List.getElem?_cons_zero, Array.getD_eq_getD_getElem?, List.getElem?_toArray, Option.getD_some, and_true] at hO hD; go_simp; rfl)
  simp only [List.nil_append, List.cons_append]
  intro xs w2 hR hV
  simp only [Free.AllV, Free.At, List.length_cons, List.length_nil, Nat.reduceAdd, List.getElem?_cons_succ, List.getElem?_cons_zero, true_and] at hV
  simp only [Free.putsFrom, Act.put, Nat.zero_add, Nat.reduceAdd, hV, List.setIfInBounds_toArray, List.set_cons_succ, List.set_cons_zero]
  have HK2 := hF w2 hR
  have hv2 := HV0.out w2 HK2
  clear hR hV hF
  go_wp2_with fail
  refine (off_any ts v o f _ hv2 hts.out q1 ⟨q2.1, by omega⟩).mono ?_
  rintro e w3 ⟨rfl, hB3⟩
  have K_w3 : Free.Bel W0 w3 := by
    refine Free.Bel.trans _ _ _ ?_ hB3
    repeat (first | exact HK2 | exact Free.Bel.refl _ | refine Bel.allocT ?_ _ | refine Bel.drewT ?_)
  clear hB3
  go_wp2_with fail
  go_ret2
  have hbb := HBB.out
  subst hbb
  exact ⟨rfl, HB0.out.trans (K_w3.mono (by omega))⟩
theorem offA_any (xs : List (Int × Int)) (v : Value) (o f : Int) (w : World) (hv : PL xs v w) :
    Calls Tryz.prog 21 #[v, .agg #[.int .i64 o, .int .i64 f]] w fun e w' => e = .returned (offAll xs o f) ∧ Below w.heap.size w w' := by
  by_cases hz : offE xs o f = 0
  · have h0 := offE_zero hz
    have hd := h0.2
    simp only [drawB, Bool.and_eq_true] at hd
    rw [offAll, if_neg (by simp [hz])]
    exact offA_d xs v o f w hv hd.1 hd.2 _ rfl (by show _ = _; simp [h0.1, firstE]) (agreedE_mem h0.1)
  · rw [offAll, if_pos hz]
    cases h1 : inB 0 36 [o]
    · have e : offE xs o f = firstE [agreedE xs, 11] := by simp [offE, drawB, h1, unlessV]
      rw [e] at hz ⊢
      exact offA_a xs v o f w hv h1 _ _ rfl rfl (by simpa using hz)
    · cases h2 : inB 0 o [f]
      · have e : offE xs o f = firstE [agreedE xs, 11] := by simp [offE, drawB, h1, h2, unlessV]
        rw [e] at hz ⊢
        exact offA_b xs v o f w hv h1 h2 _ _ rfl rfl (by simpa using hz)
      · have e : offE xs o f = firstE [agreedE xs, 0] := by simp [offE, drawB, h1, h2, unlessV]
        rw [e] at hz ⊢
        exact offA_c xs v o f w hv h1 h2 _ _ rfl rfl (by simpa using hz)
end Go.Proofs.YtigdpohdihopjaaGreatDoor

/- The middle of what is found. -/
namespace Go.Proofs.YtigdpohdihopjaaGreatDoor
set_option linter.unusedSimpArgs false
set_option linter.unusedVariables false
open Go.RowKit Go.Proofs.YtigdpohdihopjaaGreatDoor.ML Go.Proofs.YtigdpohdihopjaaGreatDoor.Samp

/-- The error of a number of dirty bags, and of opened ones. -/
def meanE (N lo hi D o : Int) : Int := firstE [unlessV (inB lo hi [D]) 2, unlessV (inB 0 N [o]) 2]

set_option maxRecDepth 100000 in
set_option maxHeartbeats 2000000 in
theorem mean_a (N lo hi D o : Int) (w : World) (hc : cargoB N lo hi = false) :
    Calls Tryz.prog 7 #[.agg #[.int .i64 N, .int .i64 lo, .int .i64 hi], .int .i64 D, .int .i64 o] w fun e w' => e = .returned (.tuple #[.agg #[.int .i64 0, .int .i64 0], .int .i64 10]) ∧ Below w.heap.size w w' := by
  have hB0 : Below w.heap.size w ((w.alloc (.cells #[.int .i64 N, .int .i64 lo, .int .i64 hi] 28)).alloc (.cells #[.int .i64 0, .int .i64 0] 31)) := ((Below.refl _ w).alloc (Nat.le_refl _) _).alloc (by simp) _
  have hT : Two (w.heap.size + 1) (.int .i64 0) (.int .i64 0) ((w.alloc (.cells #[.int .i64 N, .int .i64 lo, .int .i64 hi] 28)).alloc (.cells #[.int .i64 0, .int .i64 0] 31)) := ⟨by simp [go_sem], by simp [go_sem], by simp [go_sem], by simp [go_sem]⟩
  have HT := Lib.hid hT
  have HB0 := Lib.hid hB0
  clear hT hB0
  go_enter Tryz.func7, Tryz.ntmps7
  go_wp2_with fail
  generalize ((w.alloc (.cells #[.int .i64 N, .int .i64 lo, .int .i64 hi] 28)).alloc (.cells #[.int .i64 0, .int .i64 0] 31)) = W0 at *
  generalize hbb : w.heap.size = bb at *
  have HBB := Lib.hid hbb
  clear hbb
  have hs0 : bb + 1 < W0.heap.size := lt_of_cell HT.out.c0
  refine (begun_bad N lo hi _ hc).mono ?_
  rintro e w1 ⟨rfl, hB1⟩
  have T1 := HT.out.keeps hB1
  have HB1 := Lib.hid (HB0.out.trans (hB1.mono (by omega)))
  clear hB1
  have r0 := T1.c0
  have r1 := T1.c1
  have r2 := T1.f0
  have r3 := T1.f1
  obtain ⟨s0, s1⟩ := two_stores (w := w1) (b := bb + 1) (.int .i64 0) (.int .i64 0) r0 r1
  have hB9 := Lib.hid ((HB1.out.setCell (p := ⟨bb + 1, 0, none⟩) (by show bb ≤ bb + 1; omega) (.int .i64 0)).setCell (p := ⟨bb + 1, 1, none⟩) (by show bb ≤ bb + 1; omega) (.int .i64 0))
  go_wp2_with fail
  refine bodyPost_ret (v := .tuple #[.agg #[.int .i64 0, .int .i64 0], .int .i64 10]) ?_ rfl ⟨rfl, ?_⟩
  · simp [results, Tryz.results7, go_sem, s0, s1]
  · have hbb := HBB.out
    subst hbb
    exact hB9.out

set_option maxRecDepth 100000 in
set_option maxHeartbeats 2000000 in
theorem mean_b (N lo hi D o : Int) (w : World) (hc : cargoB N lo hi = true) (x y z : Int) (q : Bool) (hx : Hid (unlessV (inB lo hi [D]) 2 = x)) (hq : Hid (inB 0 N [o] = q)) (hy : Hid (unlessV q 2 = y)) (hz : Hid (firstE [x, y] = z)) (hz0 : (z != 0) = true) :
    Calls Tryz.prog 7 #[.agg #[.int .i64 N, .int .i64 lo, .int .i64 hi], .int .i64 D, .int .i64 o] w fun e w' => e = .returned (.tuple #[.agg #[.int .i64 0, .int .i64 0], .int .i64 z]) ∧ Below w.heap.size w w' := by
  have hB0 : Below w.heap.size w ((w.alloc (.cells #[.int .i64 N, .int .i64 lo, .int .i64 hi] 28)).alloc (.cells #[.int .i64 0, .int .i64 0] 31)) := ((Below.refl _ w).alloc (Nat.le_refl _) _).alloc (by simp) _
  have hT : Two (w.heap.size + 1) (.int .i64 0) (.int .i64 0) ((w.alloc (.cells #[.int .i64 N, .int .i64 lo, .int .i64 hi] 28)).alloc (.cells #[.int .i64 0, .int .i64 0] 31)) := ⟨by simp [go_sem], by simp [go_sem], by simp [go_sem], by simp [go_sem]⟩
  have HT := Lib.hid hT
  have HB0 := Lib.hid hB0
  clear hT hB0
  go_enter Tryz.func7, Tryz.ntmps7
  go_wp2_with fail
  generalize ((w.alloc (.cells #[.int .i64 N, .int .i64 lo, .int .i64 hi] 28)).alloc (.cells #[.int .i64 0, .int .i64 0] 31)) = W0 at *
  generalize hbb : w.heap.size = bb at *
  have HBB := Lib.hid hbb
  clear hbb
  have hs0 : bb + 1 < W0.heap.size := lt_of_cell HT.out.c0
  refine (begun_ok N lo hi _ hc).mono ?_
  rintro e w1 ⟨hb, mb, kb, cb, rfl, hH, hmb, hhb, hB1⟩
  have HB1 := Lib.hid (HB0.out.trans (hB1.mono (by omega)))
  have HT1 := Lib.hid (HT.out.keeps hB1)
  have hs1 := hB1.size
  have b0 := hH.bags
  have b1 := hH.lo
  have b2 := hH.hi
  clear hB1 hH hmb hhb
  go_wp2_with fail
  have hF : ∀ W, Free.Bel w1.drew W → W.cell? ⟨hb, 0, none⟩ = some (.int .i64 N) ∧ W.cell? ⟨hb, 1, none⟩ = some (.int .i64 lo) ∧ W.cell? ⟨hb, 2, none⟩ = some (.int .i64 hi) :=
    fun W hW => ⟨keepsB hW b0, keepsB hW b1, keepsB hW b2⟩
  refine Free.wp_free (R := Free.Bel) (by kernel_rfl) (by kernel_rfl) Free.Bel.refl Free.Bel.trans ?_
  refine Free.Chain.ex ?_ [] [8] (by kernel_rfl) (by kernel_rfl) rfl Free.Bel.refl ?_ ?_
  rotate_left
  · (intro ev W hb hR hO hD; have hS := hF W hR; obtain ⟨hb1, hb2, hb3⟩ := hb; simp only [Free.AllDeps, Free.AllOuts, Free.At, List.getElem?_cons_succ, List.getElem?_cons_zero, Array.getD_eq_getD_getElem?, List.getElem?_toArray, Option.getD_some, and_true] at hO hD; go_simp; rfl)
  simp only [List.nil_append, List.cons_append]
  refine Free.Chain.ex ?_ [] [1] (by kernel_rfl) (by kernel_rfl) rfl Free.Bel.refl ?_ ?_
  rotate_left
  · (intro ev W hb hR hO hD; have hS := hF W hR; obtain ⟨hb1, hb2, hb3⟩ := hb; simp only [Free.AllDeps, Free.AllOuts, Free.At, List.getElem?_cons_succ, List.getElem?_cons_zero, Array.getD_eq_getD_getElem?, List.getElem?_toArray, Option.getD_some, and_true] at hO hD; go_simp; rfl)
  simp only [List.nil_append, List.cons_append]
  refine Free.Chain.pr (SlI [D]) [(1, 21)] [] (by kernel_rfl) (by kernel_rfl) rfl (SlI.stable _) ?_ ?_
  · (intro ev W hb hR hO hD; have hS := hF W hR; obtain ⟨hb1, hb2, hb3⟩ := hb; simp only [Free.AllDeps, Free.AllOuts, Free.At, List.getElem?_cons_succ, List.getElem?_cons_zero, Array.getD_eq_getD_getElem?, List.getElem?_toArray, Option.getD_some, and_true] at hO hD; go_simp; exact ⟨belAlloc _ _, SlI.one _ _ _⟩)
  simp only [List.nil_append, List.cons_append]
  refine Free.Chain.pr (fun v _ => v = .int .i64 x) [(0, 20), (2, 22)] [] (by kernel_rfl) (by kernel_rfl) rfl (fun _ _ _ _ h => h) ?_ ?_
  · (intro ev W hb hR hO hD; have hS := hF W hR; obtain ⟨hb1, hb2, hb3⟩ := hb; simp only [Free.AllDeps, Free.AllOuts, Free.At, List.getElem?_cons_succ, List.getElem?_cons_zero, Array.getD_eq_getD_getElem?, List.getElem?_toArray, Option.getD_some, and_true] at hO hD; go_simp; refine (may_any hb lo hi [D] _ x _ (by simp [maxLen]) hS.2.1 hS.2.2 hD.2 hx.out).mono ?_; rintro e W1 ⟨rfl, hB1⟩; exact ⟨_, rfl, hB1, rfl⟩)
  simp only [List.nil_append, List.cons_append]
  refine Free.Chain.ex ?_ [] [8] (by kernel_rfl) (by kernel_rfl) rfl Free.Bel.refl ?_ ?_
  rotate_left
  · (intro ev W hb hR hO hD; have hS := hF W hR; obtain ⟨hb1, hb2, hb3⟩ := hb; simp only [Free.AllDeps, Free.AllOuts, Free.At, List.getElem?_cons_succ, List.getElem?_cons_zero, Array.getD_eq_getD_getElem?, List.getElem?_toArray, Option.getD_some, and_true] at hO hD; go_simp; rfl)
  simp only [List.nil_append, List.cons_append]
  refine Free.Chain.ex ?_ [(4, 24)] [] (by kernel_rfl) (by kernel_rfl) rfl Free.Bel.refl ?_ ?_
  rotate_left
  · (intro ev W hb hR hO hD; have hS := hF W hR; obtain ⟨hb1, hb2, hb3⟩ := hb; simp only [Free.AllDeps, Free.AllOuts, Free.At, List.getElem?_cons_succ, List.getElem?_cons_zero, Array.getD_eq_getD_getElem?, List.getElem?_toArray, Option.getD_some, and_true] at hO hD; go_simp; rfl)
  simp only [List.nil_append, List.cons_append]
  refine Free.Chain.ex ?_ [(5, 25)] [] (by kernel_rfl) (by kernel_rfl) rfl Free.Bel.refl ?_ ?_
  rotate_left
  · (intro ev W hb hR hO hD; have hS := hF W hR; obtain ⟨hb1, hb2, hb3⟩ := hb; simp only [Free.AllDeps, Free.AllOuts, Free.At, List.getElem?_cons_succ, List.getElem?_cons_zero, Array.getD_eq_getD_getElem?, List.getElem?_toArray, Option.getD_some, and_true] at hO hD; go_simp; rfl)
  simp only [List.nil_append, List.cons_append]
  refine Free.Chain.ex ?_ [(6, 26)] [] (by kernel_rfl) (by kernel_rfl) rfl Free.Bel.refl ?_ ?_
  rotate_left
  · (intro ev W hb hR hO hD; have hS := hF W hR; obtain ⟨hb1, hb2, hb3⟩ := hb; simp only [Free.AllDeps, Free.AllOuts, Free.At, List.getElem?_cons_succ, List.getElem?_cons_zero, Array.getD_eq_getD_getElem?, List.getElem?_toArray, Option.getD_some, and_true] at hO hD; go_simp; rfl)
  simp only [List.nil_append, List.cons_append]
  refine Free.Chain.ex ?_ [(7, 27)] [] (by kernel_rfl) (by kernel_rfl) rfl Free.Bel.refl ?_ ?_
  rotate_left
  · (intro ev W hb hR hO hD; have hS := hF W hR; obtain ⟨hb1, hb2, hb3⟩ := hb; simp only [Free.AllDeps, Free.AllOuts, Free.At, List.getElem?_cons_succ, List.getElem?_cons_zero, Array.getD_eq_getD_getElem?, List.getElem?_toArray, Option.getD_some, and_true] at hO hD; go_simp; rfl)
  simp only [List.nil_append, List.cons_append]
  refine Free.Chain.ex ?_ [] [2] (by kernel_rfl) (by kernel_rfl) rfl Free.Bel.refl ?_ ?_
  rotate_left
  · (intro ev W hb hR hO hD; have hS := hF W hR; obtain ⟨hb1, hb2, hb3⟩ := hb; simp only [Free.AllDeps, Free.AllOuts, Free.At, List.getElem?_cons_succ, List.getElem?_cons_zero, Array.getD_eq_getD_getElem?, List.getElem?_toArray, Option.getD_some, and_true] at hO hD; go_simp; rfl)
  simp only [List.nil_append, List.cons_append]
  refine Free.Chain.pr (SlI [o]) [(9, 29)] [] (by kernel_rfl) (by kernel_rfl) rfl (SlI.stable _) ?_ ?_
  · (intro ev W hb hR hO hD; have hS := hF W hR; obtain ⟨hb1, hb2, hb3⟩ := hb; simp only [Free.AllDeps, Free.AllOuts, Free.At, List.getElem?_cons_succ, List.getElem?_cons_zero, Array.getD_eq_getD_getElem?, List.getElem?_toArray, Option.getD_some, and_true] at hO hD; go_simp; exact ⟨belAlloc _ _, SlI.one _ _ _⟩)
  simp only [List.nil_append, List.cons_append]
  refine Free.Chain.pr (fun v _ => v = .bool q) [(8, 28), (10, 30), (3, 23)] [] (by kernel_rfl) (by kernel_rfl) rfl (fun _ _ _ _ h => h) ?_ ?_
  · (intro ev W hb hR hO hD; have hS := hF W hR; obtain ⟨hb1, hb2, hb3⟩ := hb; simp only [Free.AllDeps, Free.AllOuts, Free.At, List.getElem?_cons_succ, List.getElem?_cons_zero, Array.getD_eq_getD_getElem?, List.getElem?_toArray, Option.getD_some, and_true] at hO hD; go_simp; refine (in_sl _ _ [o] q _ _ (by simp [maxLen]) hq.out hD.2.1).mono ?_; rintro e W1 ⟨rfl, hB1⟩; exact ⟨_, rfl, hB1, rfl⟩)
  simp only [List.nil_append, List.cons_append]
  refine Free.Chain.pr (fun v _ => v = .int .i64 y) [(11, 31), (11, 31)] [] (by kernel_rfl) (by kernel_rfl) rfl (fun _ _ _ _ h => h) ?_ ?_
  · (intro ev W hb hR hO hD; have hS := hF W hR; obtain ⟨hb1, hb2, hb3⟩ := hb; simp only [Free.AllDeps, Free.AllOuts, Free.At, List.getElem?_cons_succ, List.getElem?_cons_zero, Array.getD_eq_getD_getElem?, List.getElem?_toArray, Option.getD_some, and_true] at hO hD; go_simp; refine (unless_any q 2 y _ hy.out).mono ?_; rintro e W1 ⟨rfl, rfl⟩; exact ⟨_, rfl, Free.Bel.refl _, rfl⟩)
  simp only [List.nil_append, List.cons_append]
  refine Free.Chain.pr (SlI [x, y]) [(3, 23), (12, 32)] [] (by kernel_rfl) (by kernel_rfl) rfl (SlI.stable _) ?_ ?_
  · (intro ev W hb hR hO hD; have hS := hF W hR; obtain ⟨hb1, hb2, hb3⟩ := hb; simp only [Free.AllDeps, Free.AllOuts, Free.At, List.getElem?_cons_succ, List.getElem?_cons_zero, Array.getD_eq_getD_getElem?, List.getElem?_toArray, Option.getD_some, and_true] at hO hD; go_simp; exact ⟨belAlloc _ _, SlI.two _ _ _ _⟩)
  simp only [List.nil_append, List.cons_append]
  refine Free.Chain.pr (fun v _ => v = .int .i64 z) [(13, 33), (12, 32)] [] (by kernel_rfl) (by kernel_rfl) rfl (fun _ _ _ _ h => h) ?_ ?_
  · (intro ev W hb hR hO hD; have hS := hF W hR; obtain ⟨hb1, hb2, hb3⟩ := hb; simp only [Free.AllDeps, Free.AllOuts, Free.At, List.getElem?_cons_succ, List.getElem?_cons_zero, Array.getD_eq_getD_getElem?, List.getElem?_toArray, Option.getD_some, and_true] at hO hD; go_simp; refine (first_sl [x, y] z _ _ (by simp [maxLen]) hz.out hD.1).mono ?_; rintro e W1 ⟨rfl, rfl⟩; exact ⟨_, rfl, Free.Bel.refl _, rfl⟩)
  simp only [List.nil_append, List.cons_append]
  refine Free.Chain.ex ?_ [(14, 34), (14, 34), (0, 20), (1, 21), (2, 22), (3, 23), (4, 24), (5, 25), (6, 26), (7, 27), (8, 28), (9, 29), (10, 30), (11, 31), (12, 32), (13, 33), (14, 34)] [] (by kernel_rfl) (by kernel_rfl) rfl Free.Bel.refl ?_ ?_
  rotate_left
  · (intro ev W hb hR hO hD; have hS := hF W hR; obtain ⟨hb1, hb2, hb3⟩ := hb; simp only [Free.AllDeps, Free.AllOuts, Free.At, List.getElem?_cons_succ, List.getElem?_cons_zero, Array.getD_eq_getD_getElem?, List.getElem?_toArray, Option.getD_some, and_true] at hO hD; go_simp; rfl)
  simp only [List.nil_append, List.cons_append]
  intro xs w4 hR hV
  simp only [Free.AllV, Free.At, List.length_cons, List.length_nil, Nat.reduceAdd, List.getElem?_cons_succ, List.getElem?_cons_zero, true_and] at hV
  simp only [Free.putsFrom, Act.put, hV, List.setIfInBounds_toArray, List.set_cons_succ, List.set_cons_zero]
  have T1 := HT1.out.keeps (Free.Bel.first hR)
  have HB1 := Lib.hid (Free.Bel.behind HB1.out (by omega) hR)
  have b0 := keepsB (Free.Bel.first hR) b0
  clear hR hV HT1
  have r0 := T1.c0
  have r1 := T1.c1
  have r2 := T1.f0
  have r3 := T1.f1
  obtain ⟨s0, s1⟩ := two_stores (w := w4) (b := bb + 1) (.int .i64 0) (.int .i64 0) r0 r1
  have hB9 := Lib.hid ((HB1.out.setCell (p := ⟨bb + 1, 0, none⟩) (by show bb ≤ bb + 1; omega) (.int .i64 0)).setCell (p := ⟨bb + 1, 1, none⟩) (by show bb ≤ bb + 1; omega) (.int .i64 0))
  go_wp2_with fail
  refine bodyPost_ret (v := .tuple #[.agg #[.int .i64 0, .int .i64 0], .int .i64 z]) ?_ rfl ⟨rfl, ?_⟩
  · simp [results, Tryz.results7, go_sem, s0, s1]
  · have hbb := HBB.out
    subst hbb
    exact hB9.out

set_option maxRecDepth 100000 in
set_option maxHeartbeats 2000000 in
theorem mean_c (N lo hi D o : Int) (w : World) (hc : cargoB N lo hi = true) (hm : inB lo hi [D] = true) (hq0 : inB 0 N [o] = true) :
    Calls Tryz.prog 7 #[.agg #[.int .i64 N, .int .i64 lo, .int .i64 hi], .int .i64 D, .int .i64 o] w fun e w' => e = .returned (.tuple #[partV (D * o).toNat N.toNat, .int .i64 0]) ∧ Below w.heap.size w w' := by
  have hN := (cargoB_iff N lo hi).1 hc
  have hM : lo ≤ D ∧ D ≤ hi := by simpa [inB] using hm
  have hO : 0 ≤ o ∧ o ≤ N := by simpa [inB] using hq0
  have hx : Hid (unlessV (inB lo hi [D]) 2 = 0) := by simp [Hid, unlessV, hm]
  have hq : Hid (inB 0 N [o] = true) := hq0
  have hy : Hid (unlessV true 2 = 0) := by simp [Hid, unlessV]
  have hz : Hid (firstE [0, 0] = 0) := by simp [Hid, firstE]
  have hDo : 0 ≤ D * o ∧ D * o ≤ 1296 := ⟨Int.mul_nonneg (by omega) hO.1, Int.le_trans (Int.mul_le_mul (show D ≤ 36 by omega) (show o ≤ 36 by omega) hO.1 (by omega)) (by omega)⟩
  obtain ⟨px, py, hp⟩ : ∃ px py : Int, partV (D * o).toNat N.toNat = .agg #[.int .i64 px, .int .i64 py] := ⟨_, _, rfl⟩
  have HP := Lib.hid hp
  clear hp hq0 hm
  have hB0 : Below w.heap.size w ((w.alloc (.cells #[.int .i64 N, .int .i64 lo, .int .i64 hi] 28)).alloc (.cells #[.int .i64 0, .int .i64 0] 31)) := ((Below.refl _ w).alloc (Nat.le_refl _) _).alloc (by simp) _
  have hT : Two (w.heap.size + 1) (.int .i64 0) (.int .i64 0) ((w.alloc (.cells #[.int .i64 N, .int .i64 lo, .int .i64 hi] 28)).alloc (.cells #[.int .i64 0, .int .i64 0] 31)) := ⟨by simp [go_sem], by simp [go_sem], by simp [go_sem], by simp [go_sem]⟩
  have HT := Lib.hid hT
  have HB0 := Lib.hid hB0
  clear hT hB0
  go_enter Tryz.func7, Tryz.ntmps7
  go_wp2_with fail
  generalize ((w.alloc (.cells #[.int .i64 N, .int .i64 lo, .int .i64 hi] 28)).alloc (.cells #[.int .i64 0, .int .i64 0] 31)) = W0 at *
  generalize hbb : w.heap.size = bb at *
  have HBB := Lib.hid hbb
  clear hbb
  have hs0 : bb + 1 < W0.heap.size := lt_of_cell HT.out.c0
  refine (begun_ok N lo hi _ hc).mono ?_
  rintro e w1 ⟨hb, mb, kb, cb, rfl, hH, hmb, hhb, hB1⟩
  have HB1 := Lib.hid (HB0.out.trans (hB1.mono (by omega)))
  have HT1 := Lib.hid (HT.out.keeps hB1)
  have hs1 := hB1.size
  have b0 := hH.bags
  have b1 := hH.lo
  have b2 := hH.hi
  clear hB1 hH hmb hhb
  go_wp2_with fail
  have hF : ∀ W, Free.Bel w1.drew W → W.cell? ⟨hb, 0, none⟩ = some (.int .i64 N) ∧ W.cell? ⟨hb, 1, none⟩ = some (.int .i64 lo) ∧ W.cell? ⟨hb, 2, none⟩ = some (.int .i64 hi) :=
    fun W hW => ⟨keepsB hW b0, keepsB hW b1, keepsB hW b2⟩
  refine Free.wp_free (R := Free.Bel) (by kernel_rfl) (by kernel_rfl) Free.Bel.refl Free.Bel.trans ?_
  refine Free.Chain.ex ?_ [] [8] (by kernel_rfl) (by kernel_rfl) rfl Free.Bel.refl ?_ ?_
  rotate_left
  · (intro ev W hb hR hO hD; have hS := hF W hR; obtain ⟨hb1, hb2, hb3⟩ := hb; simp only [Free.AllDeps, Free.AllOuts, Free.At, List.getElem?_cons_succ, List.getElem?_cons_zero, Array.getD_eq_getD_getElem?, List.getElem?_toArray, Option.getD_some, and_true] at hO hD; go_simp; rfl)
  simp only [List.nil_append, List.cons_append]
  refine Free.Chain.ex ?_ [] [1] (by kernel_rfl) (by kernel_rfl) rfl Free.Bel.refl ?_ ?_
  rotate_left
  · (intro ev W hb hR hO hD; have hS := hF W hR; obtain ⟨hb1, hb2, hb3⟩ := hb; simp only [Free.AllDeps, Free.AllOuts, Free.At, List.getElem?_cons_succ, List.getElem?_cons_zero, Array.getD_eq_getD_getElem?, List.getElem?_toArray, Option.getD_some, and_true] at hO hD; go_simp; rfl)
  simp only [List.nil_append, List.cons_append]
  refine Free.Chain.pr (SlI [D]) [(1, 21)] [] (by kernel_rfl) (by kernel_rfl) rfl (SlI.stable _) ?_ ?_
  · (intro ev W hb hR hO hD; have hS := hF W hR; obtain ⟨hb1, hb2, hb3⟩ := hb; simp only [Free.AllDeps, Free.AllOuts, Free.At, List.getElem?_cons_succ, List.getElem?_cons_zero, Array.getD_eq_getD_getElem?, List.getElem?_toArray, Option.getD_some, and_true] at hO hD; go_simp; exact ⟨belAlloc _ _, SlI.one _ _ _⟩)
  simp only [List.nil_append, List.cons_append]
  refine Free.Chain.pr (fun v _ => v = .int .i64 0) [(0, 20), (2, 22)] [] (by kernel_rfl) (by kernel_rfl) rfl (fun _ _ _ _ h => h) ?_ ?_
  · (intro ev W hb hR hO hD; have hS := hF W hR; obtain ⟨hb1, hb2, hb3⟩ := hb; simp only [Free.AllDeps, Free.AllOuts, Free.At, List.getElem?_cons_succ, List.getElem?_cons_zero, Array.getD_eq_getD_getElem?, List.getElem?_toArray, Option.getD_some, and_true] at hO hD; go_simp; refine (may_any hb lo hi [D] _ 0 _ (by simp [maxLen]) hS.2.1 hS.2.2 hD.2 hx.out).mono ?_; rintro e W1 ⟨rfl, hB1⟩; exact ⟨_, rfl, hB1, rfl⟩)
  simp only [List.nil_append, List.cons_append]
  refine Free.Chain.ex ?_ [] [8] (by kernel_rfl) (by kernel_rfl) rfl Free.Bel.refl ?_ ?_
  rotate_left
  · (intro ev W hb hR hO hD; have hS := hF W hR; obtain ⟨hb1, hb2, hb3⟩ := hb; simp only [Free.AllDeps, Free.AllOuts, Free.At, List.getElem?_cons_succ, List.getElem?_cons_zero, Array.getD_eq_getD_getElem?, List.getElem?_toArray, Option.getD_some, and_true] at hO hD; go_simp; rfl)
  simp only [List.nil_append, List.cons_append]
  refine Free.Chain.ex ?_ [(4, 24)] [] (by kernel_rfl) (by kernel_rfl) rfl Free.Bel.refl ?_ ?_
  rotate_left
  · (intro ev W hb hR hO hD; have hS := hF W hR; obtain ⟨hb1, hb2, hb3⟩ := hb; simp only [Free.AllDeps, Free.AllOuts, Free.At, List.getElem?_cons_succ, List.getElem?_cons_zero, Array.getD_eq_getD_getElem?, List.getElem?_toArray, Option.getD_some, and_true] at hO hD; go_simp; rfl)
  simp only [List.nil_append, List.cons_append]
  refine Free.Chain.ex ?_ [(5, 25)] [] (by kernel_rfl) (by kernel_rfl) rfl Free.Bel.refl ?_ ?_
  rotate_left
  · (intro ev W hb hR hO hD; have hS := hF W hR; obtain ⟨hb1, hb2, hb3⟩ := hb; simp only [Free.AllDeps, Free.AllOuts, Free.At, List.getElem?_cons_succ, List.getElem?_cons_zero, Array.getD_eq_getD_getElem?, List.getElem?_toArray, Option.getD_some, and_true] at hO hD; go_simp; rfl)
  simp only [List.nil_append, List.cons_append]
  refine Free.Chain.ex ?_ [(6, 26)] [] (by kernel_rfl) (by kernel_rfl) rfl Free.Bel.refl ?_ ?_
  rotate_left
  · (intro ev W hb hR hO hD; have hS := hF W hR; obtain ⟨hb1, hb2, hb3⟩ := hb; simp only [Free.AllDeps, Free.AllOuts, Free.At, List.getElem?_cons_succ, List.getElem?_cons_zero, Array.getD_eq_getD_getElem?, List.getElem?_toArray, Option.getD_some, and_true] at hO hD; go_simp; rfl)
  simp only [List.nil_append, List.cons_append]
  refine Free.Chain.ex ?_ [(7, 27)] [] (by kernel_rfl) (by kernel_rfl) rfl Free.Bel.refl ?_ ?_
  rotate_left
  · (intro ev W hb hR hO hD; have hS := hF W hR; obtain ⟨hb1, hb2, hb3⟩ := hb; simp only [Free.AllDeps, Free.AllOuts, Free.At, List.getElem?_cons_succ, List.getElem?_cons_zero, Array.getD_eq_getD_getElem?, List.getElem?_toArray, Option.getD_some, and_true] at hO hD; go_simp; rfl)
  simp only [List.nil_append, List.cons_append]
  refine Free.Chain.ex ?_ [] [2] (by kernel_rfl) (by kernel_rfl) rfl Free.Bel.refl ?_ ?_
  rotate_left
  · (intro ev W hb hR hO hD; have hS := hF W hR; obtain ⟨hb1, hb2, hb3⟩ := hb; simp only [Free.AllDeps, Free.AllOuts, Free.At, List.getElem?_cons_succ, List.getElem?_cons_zero, Array.getD_eq_getD_getElem?, List.getElem?_toArray, Option.getD_some, and_true] at hO hD; go_simp; rfl)
  simp only [List.nil_append, List.cons_append]
  refine Free.Chain.pr (SlI [o]) [(9, 29)] [] (by kernel_rfl) (by kernel_rfl) rfl (SlI.stable _) ?_ ?_
  · (intro ev W hb hR hO hD; have hS := hF W hR; obtain ⟨hb1, hb2, hb3⟩ := hb; simp only [Free.AllDeps, Free.AllOuts, Free.At, List.getElem?_cons_succ, List.getElem?_cons_zero, Array.getD_eq_getD_getElem?, List.getElem?_toArray, Option.getD_some, and_true] at hO hD; go_simp; exact ⟨belAlloc _ _, SlI.one _ _ _⟩)
  simp only [List.nil_append, List.cons_append]
  refine Free.Chain.pr (fun v _ => v = .bool true) [(8, 28), (10, 30), (3, 23)] [] (by kernel_rfl) (by kernel_rfl) rfl (fun _ _ _ _ h => h) ?_ ?_
  · (intro ev W hb hR hO hD; have hS := hF W hR; obtain ⟨hb1, hb2, hb3⟩ := hb; simp only [Free.AllDeps, Free.AllOuts, Free.At, List.getElem?_cons_succ, List.getElem?_cons_zero, Array.getD_eq_getD_getElem?, List.getElem?_toArray, Option.getD_some, and_true] at hO hD; go_simp; refine (in_sl _ _ [o] true _ _ (by simp [maxLen]) hq.out hD.2.1).mono ?_; rintro e W1 ⟨rfl, hB1⟩; exact ⟨_, rfl, hB1, rfl⟩)
  simp only [List.nil_append, List.cons_append]
  refine Free.Chain.pr (fun v _ => v = .int .i64 0) [(11, 31), (11, 31)] [] (by kernel_rfl) (by kernel_rfl) rfl (fun _ _ _ _ h => h) ?_ ?_
  · (intro ev W hb hR hO hD; have hS := hF W hR; obtain ⟨hb1, hb2, hb3⟩ := hb; simp only [Free.AllDeps, Free.AllOuts, Free.At, List.getElem?_cons_succ, List.getElem?_cons_zero, Array.getD_eq_getD_getElem?, List.getElem?_toArray, Option.getD_some, and_true] at hO hD; go_simp; refine (unless_any true 2 0 _ hy.out).mono ?_; rintro e W1 ⟨rfl, rfl⟩; exact ⟨_, rfl, Free.Bel.refl _, rfl⟩)
  simp only [List.nil_append, List.cons_append]
  refine Free.Chain.pr (SlI [0, 0]) [(3, 23), (12, 32)] [] (by kernel_rfl) (by kernel_rfl) rfl (SlI.stable _) ?_ ?_
  · (intro ev W hb hR hO hD; have hS := hF W hR; obtain ⟨hb1, hb2, hb3⟩ := hb; simp only [Free.AllDeps, Free.AllOuts, Free.At, List.getElem?_cons_succ, List.getElem?_cons_zero, Array.getD_eq_getD_getElem?, List.getElem?_toArray, Option.getD_some, and_true] at hO hD; go_simp; exact ⟨belAlloc _ _, SlI.two _ _ _ _⟩)
  simp only [List.nil_append, List.cons_append]
  refine Free.Chain.pr (fun v _ => v = .int .i64 0) [(13, 33), (12, 32)] [] (by kernel_rfl) (by kernel_rfl) rfl (fun _ _ _ _ h => h) ?_ ?_
  · (intro ev W hb hR hO hD; have hS := hF W hR; obtain ⟨hb1, hb2, hb3⟩ := hb; simp only [Free.AllDeps, Free.AllOuts, Free.At, List.getElem?_cons_succ, List.getElem?_cons_zero, Array.getD_eq_getD_getElem?, List.getElem?_toArray, Option.getD_some, and_true] at hO hD; go_simp; refine (first_sl [0, 0] 0 _ _ (by simp [maxLen]) hz.out hD.1).mono ?_; rintro e W1 ⟨rfl, rfl⟩; exact ⟨_, rfl, Free.Bel.refl _, rfl⟩)
  simp only [List.nil_append, List.cons_append]
  refine Free.Chain.ex ?_ [(14, 34), (14, 34), (0, 20), (1, 21), (2, 22), (3, 23), (4, 24), (5, 25), (6, 26), (7, 27), (8, 28), (9, 29), (10, 30), (11, 31), (12, 32), (13, 33), (14, 34)] [] (by kernel_rfl) (by kernel_rfl) rfl Free.Bel.refl ?_ ?_
  rotate_left
  · (intro ev W hb hR hO hD; have hS := hF W hR; obtain ⟨hb1, hb2, hb3⟩ := hb; simp only [Free.AllDeps, Free.AllOuts, Free.At, List.getElem?_cons_succ, List.getElem?_cons_zero, Array.getD_eq_getD_getElem?, List.getElem?_toArray, Option.getD_some, and_true] at hO hD; go_simp; rfl)
  simp only [List.nil_append, List.cons_append]
  intro xs w4 hR hV
  simp only [Free.AllV, Free.At, List.length_cons, List.length_nil, Nat.reduceAdd, List.getElem?_cons_succ, List.getElem?_cons_zero, true_and] at hV
  simp only [Free.putsFrom, Act.put, hV, List.setIfInBounds_toArray, List.set_cons_succ, List.set_cons_zero]
  have T1 := HT1.out.keeps (Free.Bel.first hR)
  have HB1 := Lib.hid (Free.Bel.behind HB1.out (by omega) hR)
  have b0 := keepsB (Free.Bel.first hR) b0
  clear hR hV HT1
  go_wp2_with fail
  refine (part_int (D * o) N hDo.1 (by omega) (by omega) (by omega) _ HP.out _).mono ?_
  rintro e w5 ⟨rfl, hB5⟩
  have T0 := T1
  have T1 := T1.keeps hB5
  have hs4 : bb ≤ w4.heap.size := by have := lt_of_cell T0.c0; simp at this; omega
  have HB1 := Lib.hid (HB1.out.trans (hB5.mono hs4))
  clear hB5
  have r0 := T1.c0
  have r1 := T1.c1
  have r2 := T1.f0
  have r3 := T1.f1
  obtain ⟨s0, s1⟩ := two_stores (w := w5) (b := bb + 1) (.int .i64 px) (.int .i64 py) r0 r1
  have hB9 := Lib.hid ((HB1.out.setCell (p := ⟨bb + 1, 0, none⟩) (by show bb ≤ bb + 1; omega) (.int .i64 px)).setCell (p := ⟨bb + 1, 1, none⟩) (by show bb ≤ bb + 1; omega) (.int .i64 py))
  go_wp2_with fail
  refine bodyPost_ret (v := .tuple #[.agg #[.int .i64 px, .int .i64 py], .int .i64 0]) ?_ rfl ⟨by rw [HP.out], ?_⟩
  · simp [results, Tryz.results7, go_sem, s0, s1]
  · have hbb := HBB.out
    subst hbb
    exact hB9.out

theorem mean_any (N lo hi D o : Int) (w : World) :
    Calls Tryz.prog 7 #[.agg #[.int .i64 N, .int .i64 lo, .int .i64 hi], .int .i64 D, .int .i64 o] w fun e w' => e = .returned (.tuple (if cargoB N lo hi = false then #[zeroPart, .int .i64 10] else if meanE N lo hi D o ≠ 0 then #[zeroPart, .int .i64 (meanE N lo hi D o)] else #[partV (D * o).toNat N.toNat, .int .i64 0])) ∧ Below w.heap.size w w' := by
  cases hc : cargoB N lo hi
  · simpa [zeroPart] using mean_a N lo hi D o w hc
  · by_cases hz : meanE N lo hi D o = 0
    · have hm : inB lo hi [D] = true := by
        cases h : inB lo hi [D]
        · simp [meanE, h, unlessV, firstE] at hz
        · rfl
      have hq : inB 0 N [o] = true := by
        cases h : inB 0 N [o]
        · simp [meanE, hm, h, unlessV, firstE] at hz
        · rfl
      simpa [hz] using mean_c N lo hi D o w hc hm hq
    · rw [if_neg (by simp), if_pos hz]
      exact mean_b N lo hi D o w hc _ _ _ _ rfl rfl rfl rfl (by show (meanE N lo hi D o != 0) = true; simpa using hz)
end Go.Proofs.YtigdpohdihopjaaGreatDoor

/- The helpers of chapter 01's laws that make cargoes, draws, fractions, a double rule, terms. -/
namespace Go.Proofs.YtigdpohdihopjaaGreatDoor
set_option linter.unusedSimpArgs false
set_option linter.unusedVariables false
open Go.RowKit

set_option maxRecDepth 100000 in
set_option maxHeartbeats 1000000 in
theorem bags_any (n : Int) (w : World) : Calls Tryz.prog 6 #[.int .i64 n] w fun e w' => e = .returned (.agg #[.int .i64 n, .int .i64 0, .int .i64 n]) ∧ Below w.heap.size w w' := by
  have hB : Below w.heap.size w (w.alloc (.cells #[.int .i64 0, .int .i64 0, .int .i64 0] 28)) := (Below.refl _ w).alloc (Nat.le_refl _) _
  go_enter Tryz.func6, Tryz.ntmps6
  go_wp2_with fail
  refine bodyPost_ret (v := .agg #[.int .i64 n, .int .i64 0, .int .i64 n]) (by simp [results, Tryz.results6, go_sem]) rfl ⟨rfl, ?_⟩
  exact (Below.refl _ w).alloc (Nat.le_refl _) _
set_option maxRecDepth 100000 in
set_option maxHeartbeats 1000000 in
theorem drawn_any (a b : Int) (w : World) : Calls Tryz.prog 9 #[.int .i64 a, .int .i64 b] w fun e w' => e = .returned (.agg #[.int .i64 a, .int .i64 b]) ∧ Below w.heap.size w w' := by
  have hB : Below w.heap.size w (w.alloc (.cells #[.int .i64 0, .int .i64 0] 37)) := (Below.refl _ w).alloc (Nat.le_refl _) _
  go_enter Tryz.func9, Tryz.ntmps9
  go_wp2_with fail
  refine bodyPost_ret (v := .agg #[.int .i64 a, .int .i64 b]) (by simp [results, Tryz.results9, go_sem]) rfl ⟨rfl, ?_⟩
  exact (Below.refl _ w).alloc (Nat.le_refl _) _
set_option maxRecDepth 100000 in
set_option maxHeartbeats 1000000 in
theorem partL_any (a b : Int) (w : World) : Calls Tryz.prog 12 #[.int .i64 a, .int .i64 b] w fun e w' => e = .returned (.agg #[.int .i64 a, .int .i64 b]) ∧ Below w.heap.size w w' := by
  have hB : Below w.heap.size w (w.alloc (.cells #[.int .i64 0, .int .i64 0] 31)) := (Below.refl _ w).alloc (Nat.le_refl _) _
  go_enter Tryz.func12, Tryz.ntmps12
  go_wp2_with fail
  refine bodyPost_ret (v := .agg #[.int .i64 a, .int .i64 b]) (by simp [results, Tryz.results12, go_sem]) rfl ⟨rfl, ?_⟩
  exact (Below.refl _ w).alloc (Nat.le_refl _) _
set_option maxRecDepth 100000 in
set_option maxHeartbeats 1000000 in
theorem twice1_any (w : World) : Calls Tryz.prog 31 #[] w fun e w' => e = .returned (.agg #[.int .i64 2, .int .i64 0, .int .i64 2, .int .i64 2, .int .i64 1]) ∧ Below w.heap.size w w' := by
  have hB : Below w.heap.size w (w.alloc (.cells #[.int .i64 0, .int .i64 0, .int .i64 0, .int .i64 0, .int .i64 0] 71)) := (Below.refl _ w).alloc (Nat.le_refl _) _
  go_enter Tryz.func31, Tryz.ntmps31
  go_wp2_with fail
  refine bodyPost_ret (v := .agg #[.int .i64 2, .int .i64 0, .int .i64 2, .int .i64 2, .int .i64 1]) (by simp [results, Tryz.results31, go_sem]) rfl ⟨rfl, ?_⟩
  exact (Below.refl _ w).alloc (Nat.le_refl _) _
set_option maxRecDepth 100000 in
set_option maxHeartbeats 1000000 in
theorem terms_any (w : World) : Calls Tryz.prog 17 #[] w fun e w' => ∃ v, e = .returned v ∧ PL [(5, 100), (10, 300), (30, 1000)] v w' ∧ Below w.heap.size w w' := by
  have hB : Below w.heap.size w (w.alloc (.cells #[.int .i64 5, .int .i64 100, .int .i64 10, .int .i64 300, .int .i64 30, .int .i64 1000] 73)) := (Below.refl _ w).alloc (Nat.le_refl _) _
  go_enter Tryz.func17, Tryz.ntmps17
  go_wp2_with fail
  go_ret
  refine ⟨_, rfl, ⟨_, _, rfl, by simp [maxLen], fun _ => ⟨_, 0, rfl, fun k hk => ?_⟩⟩, hB⟩
  match k, hk with
  | 0, _ => simp [go_sem]
  | 1, _ => simp [go_sem]
  | 2, _ => simp [go_sem]
end Go.Proofs.YtigdpohdihopjaaGreatDoor

/- The helpers of chapter 01's laws that take numbers: a number of the span, a fraction as so many of a number, fractions compared. -/
namespace Go.Proofs.YtigdpohdihopjaaGreatDoor
set_option linter.unusedSimpArgs false
set_option linter.unusedVariables false
open Go.RowKit Go.Proofs.YtigdpohdihopjaaGreatDoor.ML Go.Proofs.YtigdpohdihopjaaGreatDoor.Samp

/-- Two blocks that are stored at the end of a region, and what must be read ahead of that. -/
structure FO (L : List Nat) (mb i1 b1 i2 b2 : Nat) (x1 y1 u1 v1 x2 y2 u2 v2 : Value) (X : Free2.XT) (w : World) : Prop where
  f : F2 mb i1 b1 i2 b2 x1 y1 u1 v1 x2 y2 u2 v2 X w
  bef : ∀ j ∈ L, X j = none → X i1 = none ∧ X i2 = none
section
open Free2
variable {L : List Nat} {mb i1 b1 i2 b2 : Nat} {x1 y1 u1 v1 x2 y2 u2 v2 : Value} {X : XT} {w w' : World} {rs : List Nat}
theorem FO.start (h1 : Two b1 x1 y1 w) (h2 : Two b2 x2 y2 w) (hne : b1 ≠ b2 ∧ b1 ≠ mb ∧ b2 ≠ mb) : FO L mb i1 b1 i2 b2 x1 y1 u1 v1 x2 y2 u2 v2 (fun _ => none) w := ⟨.start h1 h2 hne, fun _ _ _ => ⟨rfl, rfl⟩⟩
theorem FO.skip (h : FO L mb i1 b1 i2 b2 x1 y1 u1 v1 x2 y2 u2 v2 X w) (n : Nat) (v : Value) (h1 : n ≠ i1) (h2 : n ≠ i2) : FO L mb i1 b1 i2 b2 x1 y1 u1 v1 x2 y2 u2 v2 (upd X n v) w :=
  ⟨h.f.skip n v h1 h2, fun j hj hx => by
    by_cases e : j = n
    · subst e; rw [upd_same] at hx; cases hx
    · rw [upd_other _ _ e] at hx
      rw [upd_other _ _ h1.symm, upd_other _ _ h2.symm]
      exact h.bef j hj hx⟩
theorem FO.kept (h : FO L mb i1 b1 i2 b2 x1 y1 u1 v1 x2 y2 u2 v2 X w) (hK : Kept mb w w') : FO L mb i1 b1 i2 b2 x1 y1 u1 v1 x2 y2 u2 v2 X w' := ⟨h.f.kept hK, h.bef⟩
theorem FO.old (h : FO L mb i1 b1 i2 b2 x1 y1 u1 v1 x2 y2 u2 v2 X w) (j : Nat) (hj : j ∈ L) (hx : X j = none) : Two b1 x1 y1 w ∧ Two b2 x2 y2 w := ⟨h.f.a.old (h.bef j hj hx).1, h.f.b.old (h.bef j hj hx).2⟩
theorem FO.at1 (h : FO L mb i1 b1 i2 b2 x1 y1 u1 v1 x2 y2 u2 v2 X w) (h12 : i1 ≠ i2) (h1 : b1 ∈ rs) (hx : X i1 = none) (hL : ∀ j ∈ L, X j ≠ none ∧ j ≠ i1) :
    Two b1 x1 y1 w ∧ KeptX mb rs w ((w.setCell ⟨b1, 0, none⟩ u1).setCell ⟨b1, 1, none⟩ v1) ∧ ∀ v, FO L mb i1 b1 i2 b2 x1 y1 u1 v1 x2 y2 u2 v2 (upd X i1 v) ((w.setCell ⟨b1, 0, none⟩ u1).setCell ⟨b1, 1, none⟩ v1) :=
  let ⟨a, b, c⟩ := h.f.at1 h12 h1 hx
  ⟨a, b, fun v => ⟨c v, fun j hj hx => by rw [upd_other _ _ (hL j hj).2] at hx; exact absurd hx (hL j hj).1⟩⟩
theorem FO.at2 (h : FO L mb i1 b1 i2 b2 x1 y1 u1 v1 x2 y2 u2 v2 X w) (h12 : i1 ≠ i2) (h1 : b2 ∈ rs) (hx : X i2 = none) (hL : ∀ j ∈ L, X j ≠ none ∧ j ≠ i2) :
    Two b2 x2 y2 w ∧ KeptX mb rs w ((w.setCell ⟨b2, 0, none⟩ u2).setCell ⟨b2, 1, none⟩ v2) ∧ ∀ v, FO L mb i1 b1 i2 b2 x1 y1 u1 v1 x2 y2 u2 v2 (upd X i2 v) ((w.setCell ⟨b2, 0, none⟩ u2).setCell ⟨b2, 1, none⟩ v2) :=
  let ⟨a, b, c⟩ := h.f.at2 h12 h1 hx
  ⟨a, b, fun v => ⟨c v, fun j hj hx => by rw [upd_other _ _ (hL j hj).2] at hx; exact absurd hx (hL j hj).1⟩⟩
end

end Go.Proofs.YtigdpohdihopjaaGreatDoor

/- What the chapter's examples return: the program's functions at the examples' numbers. -/
namespace Go.Proofs.YtigdpohdihopjaaGreatDoor
set_option linter.unusedSimpArgs false
set_option linter.unusedVariables false
open Go.RowKit Go.Proofs.YtigdpohdihopjaaGreatDoor.ML Go.Proofs.YtigdpohdihopjaaGreatDoor.Samp

abbrev cargo10 : Value := .agg #[.int .i64 10, .int .i64 0, .int .i64 10]
abbrev i2 (a b : Int) : Value := .agg #[.int .i64 a, .int .i64 b]
theorem al_ways (w : World) : Calls Tryz.prog 22 #[.int .i64 10, .int .i64 3] w fun e w' => e = .returned (.tuple #[.int .i64 120, .int .i64 0]) ∧ Below w.heap.size w w' := by
  have h := ways2_ok 10 3 w (by decide +kernel)
  rw [show chI 10 3 = 120 by decide +kernel] at h
  exact h
theorem al_chance (w : World) : Calls Tryz.prog 23 #[cargo10, .int .i64 4, i2 3 1] w fun e w' => e = .returned (.tuple #[i2 1 2, .int .i64 0]) ∧ Below w.heap.size w w' := by
  have h := chance_any 10 0 10 4 3 1 w
  rw [if_neg (by decide +kernel), if_neg (by decide +kernel), show partV (waysI 10 4 3 1).toNat (chI 10 3).toNat = i2 1 2 by kernel_rfl] at h
  exact h
theorem al_atmost (w : World) : Calls Tryz.prog 24 #[cargo10, .int .i64 4, i2 3 1] w fun e w' => e = .returned (.tuple #[i2 2 3, .int .i64 0]) ∧ Below w.heap.size w w' := by
  have h := atmost_any 10 0 10 4 3 1 w
  rw [if_neg (by decide +kernel), if_neg (by decide +kernel), show mostV 10 4 3 1 = i2 2 3 by kernel_rfl] at h
  exact h
theorem al_can (w : World) : Calls Tryz.prog 25 #[cargo10, i2 3 1] w fun e w' => e = .returned (.tuple #[i2 1 8, .int .i64 0]) ∧ Below w.heap.size w w' := by
  have h := can_any 10 0 10 3 1 w
  rw [show canR 10 0 10 3 1 = .tuple #[i2 1 8, .int .i64 0] by kernel_rfl] at h
  exact h
theorem al_likely (w : World) : Calls Tryz.prog 10 #[cargo10, i2 3 1] w fun e w' => (∃ v, e = .returned (.tuple #[v, .int .i64 0]) ∧ IL [3] v w') ∧ Below w.heap.size w w' := by
  have h := likely_any 10 0 10 3 1 w
  rw [show likeE 10 0 10 3 1 = 0 by decide +kernel, show likeA 10 0 10 3 1 = [3] by decide +kernel] at h
  exact h
theorem al_bound (w : World) : Calls Tryz.prog 26 #[cargo10, i2 3 0, i2 1 10] w fun e w' => e = .returned (.tuple #[.int .i64 4, .int .i64 0]) ∧ Below w.heap.size w w' := by
  have h := bound_any 10 0 10 3 0 1 10 w
  rw [show boundAll 10 0 10 3 0 1 10 = .tuple #[.int .i64 4, .int .i64 0] by kernel_rfl] at h
  exact h
theorem findAll_unique {N lo hi D n d k q k' q' : Int} (h : FindAll N lo hi D n d k q) (h' : FindAll N lo hi D n d k' q') : k = k' ∧ q = q' := by
  unfold FindAll at h h'
  split at h
  · rw [if_pos ‹_›] at h'; omega
  · split at h
    · rw [if_neg ‹_›, if_pos ‹_›] at h'; omega
    · rw [if_neg ‹_›, if_neg ‹_›] at h'; exact h.unique h'
theorem al_find (w : World) : Calls Tryz.prog 11 #[cargo10, .int .i64 2, i2 1 2] w fun e w' => e = .returned (.tuple #[.int .i64 3, .int .i64 0]) ∧ Below w.heap.size w w' := by
  refine (find_any 10 0 10 2 1 2 w).mono ?_
  rintro e w' ⟨⟨k, q, rfl, h⟩, hB⟩
  have hw : FindAll 10 0 10 2 1 2 3 0 := by
    rw [FindAll, if_neg (by decide +kernel), if_neg (by decide +kernel)]
    refine .inl ⟨rfl, 3, rfl, by omega, by decide +kernel, fun j hj => ?_⟩
    obtain rfl | rfl | rfl : j = 0 ∨ j = 1 ∨ j = 2 := by omega
    all_goals decide +kernel
  obtain ⟨rfl, rfl⟩ := findAll_unique h hw
  exact ⟨rfl, hB⟩
theorem al_least (w : World) : Calls Tryz.prog 27 #[cargo10, .int .i64 1, .int .i64 5, i2 3 10, i2 1 10] w fun e w' => e = .returned (.tuple #[i2 3 0, .int .i64 0]) ∧ Below w.heap.size w w' := by
  refine (least_all 10 0 10 1 5 3 10 1 10 w).mono ?_
  rintro e w' ⟨⟨o, a, q, rfl, h⟩, hB⟩
  have hw : LeastAll 10 0 10 1 5 3 10 1 10 3 0 0 := by
    rw [LeastAll, if_neg (by decide +kernel), if_neg (by decide +kernel)]
    refine .inl ⟨rfl, by omega, by omega, by omega, by decide +kernel, fun o' a' h1 h2 h3 => ?_, fun a' h1 h2 => by omega⟩
    obtain ⟨rfl, rfl⟩ | ⟨rfl, rfl⟩ | ⟨rfl, rfl⟩ | ⟨rfl, rfl⟩ | ⟨rfl, rfl⟩ | ⟨rfl, rfl⟩ : (o' = 0 ∧ a' = 0) ∨ (o' = 1 ∧ a' = 0) ∨ (o' = 1 ∧ a' = 1) ∨ (o' = 2 ∧ a' = 0) ∨ (o' = 2 ∧ a' = 1) ∨ (o' = 2 ∧ a' = 2) := by omega
    all_goals decide +kernel
  obtain ⟨rfl, rfl, rfl⟩ := h.unique hw
  exact ⟨rfl, hB⟩
theorem al_twice (w : World) (hT : TabD w) : Calls Tryz.prog 28 #[cargo10, .agg #[.int .i64 2, .int .i64 0, .int .i64 2, .int .i64 2, .int .i64 1], .int .i64 4] w fun e w' => e = .returned (.tuple #[i2 11 21, i2 46 15, .int .i64 0]) ∧ Below w.heap.size w w' := by
  have h := twice_any 10 0 10 2 0 2 2 1 4 w hT
  rw [show twiceAll 10 0 10 4 2 0 2 2 1 = .tuple #[i2 11 21, i2 46 15, .int .i64 0] by kernel_rfl] at h
  exact h
theorem al_off (v : Value) (w : World) (hv : PL [(5, 100), (10, 300), (30, 1000)] v w) : Calls Tryz.prog 21 #[v, i2 10 1] w fun e w' => e = .returned (.tuple #[.int .i64 300, .int .i64 0]) ∧ Below w.heap.size w w' := by
  have h := offA_any [(5, 100), (10, 300), (30, 1000)] v 10 1 w hv
  rw [show offAll [(5, 100), (10, 300), (30, 1000)] 10 1 = .tuple #[.int .i64 300, .int .i64 0] by kernel_rfl] at h
  exact h
theorem al_award (w : World) : Calls Tryz.prog 18 #[.int .i64 100, .int .i64 120, .int .i64 90] w fun e w' => e = .returned (.tuple #[.int .i64 100, .int .i64 0]) ∧ Below w.heap.size w w' := by
  have h := award_any 100 120 90 w
  rw [if_neg (by decide +kernel), show awardV 100 120 90 = 100 by decide +kernel] at h
  exact h
end Go.Proofs.YtigdpohdihopjaaGreatDoor

/- Structs of any sizes that a region makes and stores once, in whatever order: any number of them. -/
namespace Go.Proofs.YtigdpohdihopjaaGreatDoor
set_option linter.unusedSimpArgs false
set_option linter.unusedVariables false
open Go.RowKit Go.Proofs.YtigdpohdihopjaaGreatDoor.Free2

/-- Operation i makes a block, operation j stores it. -/
structure LocE where
  i : Nat
  j : Nat
  o0 : Obj
  o1 : Obj
structure LL (s0 : Nat) (L : List LocE) (X : XT) (w : World) : Prop where
  size : s0 ≤ w.heap.size
  first : ∀ e ∈ L, X e.i = none → X e.j = none
  blk : ∀ e ∈ L, ∀ v, X e.i = some v → ∃ b, v = ptr b ∧ s0 ≤ b ∧ (X e.j = none → w.heap[b]? = some e.o0) ∧ (X e.j ≠ none → w.heap[b]? = some e.o1)
  ne : ∀ e ∈ L, ∀ f ∈ L, e.i ≠ f.i → ∀ v, X e.i = some v → X f.i ≠ some v
section
variable {s0 : Nat} {L : List LocE} {X : XT} {w w' : World}
theorem LL.start (hs : s0 ≤ w.heap.size) : LL s0 L (fun _ => none) w := ⟨hs, fun _ _ _ => rfl, fun e _ v h => (by cases h), fun e _ f _ _ v h => (by cases h)⟩
theorem LL.skip (h : LL s0 L X w) (n : Nat) (v : Value) (hn : ∀ e ∈ L, n ≠ e.i ∧ n ≠ e.j) : LL s0 L (upd X n v) w :=
  ⟨h.size, fun e he => by rw [upd_other _ _ (hn e he).1.symm, upd_other _ _ (hn e he).2.symm]; exact h.first e he,
   fun e he => by rw [upd_other _ _ (hn e he).1.symm, upd_other _ _ (hn e he).2.symm]; exact h.blk e he,
   fun e he f hf => by rw [upd_other _ _ (hn e he).1.symm, upd_other _ _ (hn f hf).1.symm]; exact h.ne e he f hf⟩
theorem LL.bel (h : LL s0 L X w) (hB : Below w.heap.size w w') : LL s0 L X w' :=
  ⟨Nat.le_trans h.size hB.size, h.first, fun e he v hv => by
    obtain ⟨b, rfl, h1, h3, h4⟩ := h.blk e he v hv
    exact ⟨b, rfl, h1, fun hj => (hB.block b (lt_of_heap (h3 hj))).trans (h3 hj), fun hj => (hB.block b (lt_of_heap (h4 hj))).trans (h4 hj)⟩, h.ne⟩
theorem LL.new (h : LL s0 L X w) (e : LocE) (he : e ∈ L) (hd : ∀ f ∈ L, e.i ≠ f.j ∧ (e.i = f.i → e = f)) (hi : X e.i = none) : LL s0 L (upd X e.i (ptr w.heap.size)) (w.alloc e.o0) := by
  refine ⟨by have := h.size; simp; omega, fun f hf h0 => ?_, fun f hf v hv => ?_, fun f hf g hg hne v hv => ?_⟩
  · rw [upd_other _ _ (hd f hf).1.symm]
    by_cases hq : e.i = f.i
    · have := (hd f hf).2 hq; subst this; exact h.first e he hi
    · rw [upd_other _ _ (Ne.symm hq)] at h0; exact h.first f hf h0
  · rw [upd_other _ _ (hd f hf).1.symm]
    by_cases hq : e.i = f.i
    · have := (hd f hf).2 hq; subst this
      rw [upd_same] at hv
      cases hv
      exact ⟨_, rfl, h.size, fun _ => World.alloc_heap_new w e.o0, fun hj => absurd (h.first e he hi) hj⟩
    · rw [upd_other _ _ (Ne.symm hq)] at hv
      obtain ⟨b, rfl, h1, h3, h4⟩ := h.blk f hf v hv
      exact ⟨b, rfl, h1, fun hj => (Below.heap_alloc _ _ _ (lt_of_heap (h3 hj))).trans (h3 hj), fun hj => (Below.heap_alloc _ _ _ (lt_of_heap (h4 hj))).trans (h4 hj)⟩
  · have hlt : ∀ f ∈ L, ∀ b, X f.i = some (ptr b) → b < w.heap.size := fun f hf b hb => by
      obtain ⟨b', hbb, _, h3, h4⟩ := h.blk f hf _ hb
      cases hbb
      by_cases hx : X f.j = none
      · exact lt_of_heap (h3 hx)
      · exact lt_of_heap (h4 hx)
    by_cases hq : e.i = f.i
    · rw [← hq, upd_same] at hv
      cases hv
      rw [upd_other _ _ (fun h => hne (hq ▸ h.symm))]
      intro hg2
      have := hlt g hg _ hg2
      omega
    · rw [upd_other _ _ (Ne.symm hq)] at hv
      by_cases hq2 : e.i = g.i
      · rw [← hq2, upd_same]
        intro h2
        cases h2
        have := hlt f hf _ hv
        omega
      · rw [upd_other _ _ (Ne.symm hq2)]
        exact h.ne f hf g hg hne v hv
/-- What is found where it is stored. -/
theorem LL.at_ (h : LL s0 L X w) (e : LocE) (he : e ∈ L) {v : Value} (hv : X e.i = some v) (hj : X e.j = none) : ∃ b, v = ptr b ∧ s0 ≤ b ∧ w.heap[b]? = some e.o0 := by
  obtain ⟨b, rfl, h1, h3, h4⟩ := h.blk e he v hv
  exact ⟨b, rfl, h1, h3 hj⟩
theorem LL.stored (h : LL s0 L X w) (e : LocE) (he : e ∈ L) (hd : ∀ f ∈ L, e.j ≠ f.i ∧ (e.j = f.j → e = f) ∧ (e.i = f.i → e = f)) {b : Nat} (hv : X e.i = some (ptr b)) (hb : w'.heap[b]? = some e.o1) (ho : ∀ k, k ≠ b → w'.heap[k]? = w.heap[k]?) (hs : w.heap.size ≤ w'.heap.size) (u : Value) : LL s0 L (upd X e.j u) w' := by
  refine ⟨Nat.le_trans h.size hs, fun f hf h0 => ?_, fun f hf v hv' => ?_, fun f hf g hg hne v => ?_⟩
  · rw [upd_other _ _ (hd f hf).1.symm] at h0
    by_cases hq : e.j = f.j
    · have := (hd f hf).2.1 hq; subst this; rw [hv] at h0; cases h0
    · rw [upd_other _ _ (Ne.symm hq)]; exact h.first f hf h0
  · rw [upd_other _ _ (hd f hf).1.symm] at hv'
    by_cases hq : e.j = f.j
    · have := (hd f hf).2.1 hq; subst this
      rw [hv] at hv'
      cases hv'
      rw [upd_same]
      obtain ⟨b', hbb, h1, _⟩ := h.blk e he _ hv
      cases hbb
      exact ⟨b, rfl, h1, (fun h => by cases h), fun _ => hb⟩
    · rw [upd_other _ _ (Ne.symm hq)]
      obtain ⟨b', rfl, h1, h3, h4⟩ := h.blk f hf v hv'
      have hn : b' ≠ b := by
        rintro rfl
        by_cases hq2 : e.i = f.i
        · have := (hd f hf).2.2 hq2; subst this; exact hq rfl
        · exact h.ne e he f hf hq2 _ hv hv'
      exact ⟨b', rfl, h1, fun hj => (ho b' hn).trans (h3 hj), fun hj => (ho b' hn).trans (h4 hj)⟩
  · rw [upd_other _ _ (hd f hf).1.symm, upd_other _ _ (hd g hg).1.symm]
    exact h.ne f hf g hg hne v
theorem LL.done (h : LL s0 L X w) (e : LocE) (he : e ∈ L) {v u : Value} (hv : X e.i = some v) (hu : X e.j = some u) : ∃ b, v = ptr b ∧ s0 ≤ b ∧ w.heap[b]? = some e.o1 := by
  obtain ⟨b, rfl, h1, h3, h4⟩ := h.blk e he v hv
  exact ⟨b, rfl, h1, h4 (by simp [hu])⟩
theorem below_setNew {b o : Nat} {v : Value} (hs : s0 ≤ b) : Below s0 w (w.setCell ⟨b, o, none⟩ v) := (Below.refl s0 w).setCell (p := ⟨b, o, none⟩) hs v
theorem heap_setCell_other {b o k : Nat} {v : Value} (hk : k ≠ b) : (w.setCell ⟨b, o, none⟩ v).heap[k]? = w.heap[k]? := by
  show (w.heap.modify b _)[k]? = _
  rw [Array.getElem?_modify, if_neg (Ne.symm hk)]
/-- Stores into a block one behind the other. -/
def putsW (b : Nat) : List (Nat × Value) → World → World
  | [], w => w
  | x :: r, w => putsW b r (w.setCell ⟨b, x.1, none⟩ x.2)
theorem putsW_other {b k : Nat} (hk : k ≠ b) : ∀ (l : List (Nat × Value)) (w : World), (putsW b l w).heap[k]? = w.heap[k]?
  | [], _ => rfl
  | x :: r, w => (putsW_other hk r _).trans (heap_setCell_other hk)
theorem putsW_below {b : Nat} (hs : s0 ≤ b) : ∀ (l : List (Nat × Value)) (w : World), Below s0 w (putsW b l w)
  | [], _ => Below.refl _ _
  | x :: r, w => (below_setNew hs).trans (putsW_below hs r _)
theorem putsW_same {b : Nat} {t : TypeId} {f : Nat × Nat} : ∀ (l : List (Nat × Value)) (w : World) (c : Array Value), w.heap[b]? = some (.cells c t f) → (putsW b l w).heap[b]? = some (.cells (l.foldl (fun c x => c.setIfInBounds x.1 x.2) c) t f)
  | [], _, _, h => h
  | x :: r, w, c, h => putsW_same r _ _ (heap_setCell_same x.2 h)
/-- One struct is stored: all at once. -/
theorem LL.puts (h : LL s0 L X w) (e : LocE) (he : e ∈ L) (hd : ∀ f ∈ L, e.j ≠ f.i ∧ (e.j = f.j → e = f) ∧ (e.i = f.i → e = f)) {b : Nat} {c : Array Value} {t : TypeId} (hv : X e.i = some (ptr b)) (hs : s0 ≤ b) (hb : w.heap[b]? = some (.cells c t (0, 0))) (l : List (Nat × Value)) (ho : e.o1 = .cells (l.foldl (fun c x => c.setIfInBounds x.1 x.2) c) t (0, 0)) (u : Value) :
    Below s0 w (putsW b l w) ∧ LL s0 L (upd X e.j u) (putsW b l w) :=
  ⟨putsW_below hs l w, h.stored e he hd hv (by rw [ho]; exact putsW_same l w c hb) (fun k hk => putsW_other hk l w) (putsW_below hs l w).size u⟩
end
end Go.Proofs.YtigdpohdihopjaaGreatDoor

