/- The cargo at work: ways, the middle, the chance of at most so many. -/
import Derived.Test.YthhallnkpbgomaaDoorSampDraw
import Derived.Test.YthhallnkpbgomaaDoorSampPart
import Derived.Test.YthhallnkpbgomaaDoorSampRes
namespace Go.Proofs.YthhallnkpbgomaaDoor
set_option linter.unusedSimpArgs false
set_option linter.unusedVariables false
open Go.RowKit Go.Proofs.YthhallnkpbgomaaDoor.ML Go.Proofs.YthhallnkpbgomaaDoor.Samp

/-- The ways of a draw. -/
def waysI (N D o f : Int) : Int := chI D f * chI (N - D) (o - f)
theorem chI_pow (n k : Int) (h : 0 ≤ n) : 0 ≤ chI n k ∧ chI n k ≤ (2 ^ n.toNat : Nat) := by
  unfold chI
  have := Nat.one_le_two_pow (n := n.toNat)
  split
  · omega
  · split
    · omega
    · have h1 := nCk_le n.toNat k.toNat
      omega
theorem waysI_bound (N D o f : Int) (hN : N ≤ 36) (h0 : 0 ≤ D) (h1 : D ≤ N) : 0 ≤ waysI N D o f ∧ waysI N D o f ≤ 68719476736 := by
  obtain ⟨a0, a1⟩ := chI_pow D f h0
  obtain ⟨b0, b1⟩ := chI_pow (N - D) (o - f) (by omega)
  refine ⟨Int.mul_nonneg a0 b0, ?_⟩
  have h2 : chI D f * chI (N - D) (o - f) ≤ ((2 ^ D.toNat : Nat) : Int) * ((2 ^ (N - D).toNat : Nat) : Int) := Int.mul_le_mul a1 b1 b0 (by omega)
  have h3 : (2 ^ D.toNat : Nat) * (2 ^ (N - D).toNat : Nat) ≤ 2 ^ 36 := by
    rw [← Nat.pow_add]
    exact Nat.pow_le_pow_right (by omega) (by omega)
  have h4 : (2 : Nat) ^ 36 = 68719476736 := by decide
  have h5 : ((2 ^ D.toNat : Nat) : Int) * ((2 ^ (N - D).toNat : Nat) : Int) = (((2 ^ D.toNat : Nat) * (2 ^ (N - D).toNat : Nat) : Nat) : Int) := by simp
  unfold waysI
  omega

set_option maxRecDepth 100000 in
set_option maxHeartbeats 2000000 in
theorem ways_any (hb : Nat) (N lo hi D o f : Int) (mb kb cb : Nat) (w : World) (hH : Hold hb N lo hi mb kb cb w) (hN : N ≤ 36) (h0 : 0 ≤ D) (h1 : D ≤ N) (ho : -1000 ≤ o ∧ o ≤ 1000) (hf : -1000 ≤ f ∧ f ≤ 1000) :
    Calls Tryd.prog 64 #[.pointer (some ⟨hb, 0, none⟩), .int .i64 D, .agg #[.int .i64 o, .int .i64 f]] w fun e w' => e = .returned (.int .i64 (waysI N D o f)) ∧ Kept mb w w' := by
  have hwb := waysI_bound N D o f hN h0 h1
  have hwv : Hid (waysI N D o f = chI D f * chI (N - D) (o - f)) := rfl
  have K0 : Kept mb w (w.alloc (.cells #[.int .i64 o, .int .i64 f] 60)) := (Kept.refl _ w).alloc _
  have c0 : (w.alloc (.cells #[.int .i64 o, .int .i64 f] 60)).cell? ⟨w.heap.size, 0, none⟩ = some (.int .i64 o) := by simp [go_sem]
  have c1 : (w.alloc (.cells #[.int .i64 o, .int .i64 f] 60)).cell? ⟨w.heap.size, 1, none⟩ = some (.int .i64 f) := by simp [go_sem]
  have H0 := hH.kept K0
  have ne0 := H0.ctr.memo.ne c0
  have HB := Lib.hid (And.intro hwb ne0)
  have HV := Lib.hid hwv.out
  have HK0 := Lib.hid K0
  have HH := Lib.hid H0
  clear hwb hwv ne0 K0 H0 hH
  go_enter Tryd.func64, Tryd.ntmps64
  go_wp2_with fail
  generalize w.alloc (.cells #[.int .i64 o, .int .i64 f] 60) = W0 at *
  generalize w.heap.size = bb at *
  have hF : ∀ W, Kept mb W0.drew W → W.cell? ⟨bb, 0, none⟩ = some (.int .i64 o) ∧ W.cell? ⟨bb, 1, none⟩ = some (.int .i64 f) ∧ W.cell? ⟨hb, 0, none⟩ = some (.int .i64 N) ∧ W.cell? ⟨hb, 3, none⟩ = some (setsV kb cb) :=
    fun W hW => ⟨hW.cell c0 HB.out.2, hW.cell c1 HB.out.2, (HH.out.kept ((Kept.refl _ _).drew.trans hW)).bags, (HH.out.kept ((Kept.refl _ _).drew.trans hW)).sets⟩
  have hC : Hid (∀ W, Kept mb W0.drew W → Ctr mb kb cb W) := fun W hW => (HH.out.kept ((Kept.refl _ _).drew.trans hW)).ctr
  have q1 : IntKind.i64.wrap (N - D) = N - D := IntWalk.i64_in _ (by omega)
  have q2 : IntKind.i64.wrap (o - f) = o - f := IntWalk.i64_in _ (by omega)
  have q3 : IntKind.i64.wrap (chI D f * chI (N - D) (o - f)) = waysI N D o f := by rw [HV.out]; exact IntWalk.i64_in _ (by have := HB.out.1; rw [HV.out] at this; omega)
  refine Free.wp_free (R := Kept mb) (by kernel_rfl) (by kernel_rfl) (Kept.refl mb) (fun _ _ _ h k => h.trans k) ?_
  refine Free.Chain.ex ?_ [] [0] (by kernel_rfl) (by kernel_rfl) rfl (Kept.refl mb) ?_ ?_
  rotate_left
  · (intro ev W hb hR hO hD; have hS := hF W hR; obtain ⟨hb1, hb2, hb3⟩ := hb; simp only [Free.AllDeps, Free.AllOuts, Free.At, List.getElem?_cons_succ, List.getElem?_cons_zero, Array.getD_eq_getD_getElem?, List.getElem?_toArray, Option.getD_some, and_true] at hO hD; go_simp; rfl)
  simp only [List.nil_append, List.cons_append]
  refine Free.Chain.ex ?_ [(0, 7)] [] (by kernel_rfl) (by kernel_rfl) rfl (Kept.refl mb) ?_ ?_
  rotate_left
  · (intro ev W hb hR hO hD; have hS := hF W hR; obtain ⟨hb1, hb2, hb3⟩ := hb; simp only [Free.AllDeps, Free.AllOuts, Free.At, List.getElem?_cons_succ, List.getElem?_cons_zero, Array.getD_eq_getD_getElem?, List.getElem?_toArray, Option.getD_some, and_true] at hO hD; go_simp; rfl)
  simp only [List.nil_append, List.cons_append]
  refine Free.Chain.ex ?_ [(1, 8)] [] (by kernel_rfl) (by kernel_rfl) rfl (Kept.refl mb) ?_ ?_
  rotate_left
  · (intro ev W hb hR hO hD; have hS := hF W hR; obtain ⟨hb1, hb2, hb3⟩ := hb; simp only [Free.AllDeps, Free.AllOuts, Free.At, List.getElem?_cons_succ, List.getElem?_cons_zero, Array.getD_eq_getD_getElem?, List.getElem?_toArray, Option.getD_some, and_true] at hO hD; go_simp; rfl)
  simp only [List.nil_append, List.cons_append]
  refine Free.Chain.ex ?_ [(2, 9)] [] (by kernel_rfl) (by kernel_rfl) rfl (Kept.refl mb) ?_ ?_
  rotate_left
  · (intro ev W hb hR hO hD; have hS := hF W hR; obtain ⟨hb1, hb2, hb3⟩ := hb; simp only [Free.AllDeps, Free.AllOuts, Free.At, List.getElem?_cons_succ, List.getElem?_cons_zero, Array.getD_eq_getD_getElem?, List.getElem?_toArray, Option.getD_some, and_true] at hO hD; go_simp; rfl)
  simp only [List.nil_append, List.cons_append]
  refine Free.Chain.ex ?_ [] [1] (by kernel_rfl) (by kernel_rfl) rfl (Kept.refl mb) ?_ ?_
  rotate_left
  · (intro ev W hb hR hO hD; have hS := hF W hR; obtain ⟨hb1, hb2, hb3⟩ := hb; simp only [Free.AllDeps, Free.AllOuts, Free.At, List.getElem?_cons_succ, List.getElem?_cons_zero, Array.getD_eq_getD_getElem?, List.getElem?_toArray, Option.getD_some, and_true] at hO hD; go_simp; rfl)
  simp only [List.nil_append, List.cons_append]
  refine Free.Chain.ex ?_ [] [5] (by kernel_rfl) (by kernel_rfl) rfl (Kept.refl mb) ?_ ?_
  rotate_left
  · (intro ev W hb hR hO hD; have hS := hF W hR; obtain ⟨hb1, hb2, hb3⟩ := hb; simp only [Free.AllDeps, Free.AllOuts, Free.At, List.getElem?_cons_succ, List.getElem?_cons_zero, Array.getD_eq_getD_getElem?, List.getElem?_toArray, Option.getD_some, and_true] at hO hD; go_simp; rfl)
  simp only [List.nil_append, List.cons_append]
  refine Free.Chain.ex ?_ [(5, 12)] [] (by kernel_rfl) (by kernel_rfl) rfl (Kept.refl mb) ?_ ?_
  rotate_left
  · (intro ev W hb hR hO hD; have hS := hF W hR; obtain ⟨hb1, hb2, hb3⟩ := hb; simp only [Free.AllDeps, Free.AllOuts, Free.At, List.getElem?_cons_succ, List.getElem?_cons_zero, Array.getD_eq_getD_getElem?, List.getElem?_toArray, Option.getD_some, and_true] at hO hD; go_simp; rfl)
  simp only [List.nil_append, List.cons_append]
  refine Free.Chain.pr (fun v _ => v = .int .i64 (chI D f)) [(3, 10), (4, 11), (6, 13)] [] (by kernel_rfl) (by kernel_rfl) rfl (fun _ _ _ _ h => h) ?_ ?_
  · (intro ev W hb hR hO hD; have hS := hF W hR; obtain ⟨hb1, hb2, hb3⟩ := hb; simp only [Free.AllDeps, Free.AllOuts, Free.At, List.getElem?_cons_succ, List.getElem?_cons_zero, Array.getD_eq_getD_getElem?, List.getElem?_toArray, Option.getD_some, and_true] at hO hD; go_simp; refine (count_call D f mb kb cb _ (by omega) (hC.out _ hR)).mono ?_; rintro e W1 ⟨rfl, hB1⟩; exact ⟨_, rfl, hB1, rfl⟩)
  simp only [List.nil_append, List.cons_append]
  refine Free.Chain.ex ?_ [] [0] (by kernel_rfl) (by kernel_rfl) rfl (Kept.refl mb) ?_ ?_
  rotate_left
  · (intro ev W hb hR hO hD; have hS := hF W hR; obtain ⟨hb1, hb2, hb3⟩ := hb; simp only [Free.AllDeps, Free.AllOuts, Free.At, List.getElem?_cons_succ, List.getElem?_cons_zero, Array.getD_eq_getD_getElem?, List.getElem?_toArray, Option.getD_some, and_true] at hO hD; go_simp; rfl)
  simp only [List.nil_append, List.cons_append]
  refine Free.Chain.ex ?_ [(8, 15)] [] (by kernel_rfl) (by kernel_rfl) rfl (Kept.refl mb) ?_ ?_
  rotate_left
  · (intro ev W hb hR hO hD; have hS := hF W hR; obtain ⟨hb1, hb2, hb3⟩ := hb; simp only [Free.AllDeps, Free.AllOuts, Free.At, List.getElem?_cons_succ, List.getElem?_cons_zero, Array.getD_eq_getD_getElem?, List.getElem?_toArray, Option.getD_some, and_true] at hO hD; go_simp; rfl)
  simp only [List.nil_append, List.cons_append]
  refine Free.Chain.ex ?_ [(9, 16)] [] (by kernel_rfl) (by kernel_rfl) rfl (Kept.refl mb) ?_ ?_
  rotate_left
  · (intro ev W hb hR hO hD; have hS := hF W hR; obtain ⟨hb1, hb2, hb3⟩ := hb; simp only [Free.AllDeps, Free.AllOuts, Free.At, List.getElem?_cons_succ, List.getElem?_cons_zero, Array.getD_eq_getD_getElem?, List.getElem?_toArray, Option.getD_some, and_true] at hO hD; go_simp; rfl)
  simp only [List.nil_append, List.cons_append]
  refine Free.Chain.ex ?_ [(10, 17)] [] (by kernel_rfl) (by kernel_rfl) rfl (Kept.refl mb) ?_ ?_
  rotate_left
  · (intro ev W hb hR hO hD; have hS := hF W hR; obtain ⟨hb1, hb2, hb3⟩ := hb; simp only [Free.AllDeps, Free.AllOuts, Free.At, List.getElem?_cons_succ, List.getElem?_cons_zero, Array.getD_eq_getD_getElem?, List.getElem?_toArray, Option.getD_some, and_true] at hO hD; go_simp; rfl)
  simp only [List.nil_append, List.cons_append]
  refine Free.Chain.ex ?_ [] [0] (by kernel_rfl) (by kernel_rfl) rfl (Kept.refl mb) ?_ ?_
  rotate_left
  · (intro ev W hb hR hO hD; have hS := hF W hR; obtain ⟨hb1, hb2, hb3⟩ := hb; simp only [Free.AllDeps, Free.AllOuts, Free.At, List.getElem?_cons_succ, List.getElem?_cons_zero, Array.getD_eq_getD_getElem?, List.getElem?_toArray, Option.getD_some, and_true] at hO hD; go_simp; rfl)
  simp only [List.nil_append, List.cons_append]
  refine Free.Chain.ex ?_ [(12, 19)] [] (by kernel_rfl) (by kernel_rfl) rfl (Kept.refl mb) ?_ ?_
  rotate_left
  · (intro ev W hb hR hO hD; have hS := hF W hR; obtain ⟨hb1, hb2, hb3⟩ := hb; simp only [Free.AllDeps, Free.AllOuts, Free.At, List.getElem?_cons_succ, List.getElem?_cons_zero, Array.getD_eq_getD_getElem?, List.getElem?_toArray, Option.getD_some, and_true] at hO hD; go_simp; rfl)
  simp only [List.nil_append, List.cons_append]
  refine Free.Chain.ex ?_ [(13, 20)] [] (by kernel_rfl) (by kernel_rfl) rfl (Kept.refl mb) ?_ ?_
  rotate_left
  · (intro ev W hb hR hO hD; have hS := hF W hR; obtain ⟨hb1, hb2, hb3⟩ := hb; simp only [Free.AllDeps, Free.AllOuts, Free.At, List.getElem?_cons_succ, List.getElem?_cons_zero, Array.getD_eq_getD_getElem?, List.getElem?_toArray, Option.getD_some, and_true] at hO hD; go_simp; rfl)
  simp only [List.nil_append, List.cons_append]
  refine Free.Chain.ex ?_ [(14, 21)] [] (by kernel_rfl) (by kernel_rfl) rfl (Kept.refl mb) ?_ ?_
  rotate_left
  · (intro ev W hb hR hO hD; have hS := hF W hR; obtain ⟨hb1, hb2, hb3⟩ := hb; simp only [Free.AllDeps, Free.AllOuts, Free.At, List.getElem?_cons_succ, List.getElem?_cons_zero, Array.getD_eq_getD_getElem?, List.getElem?_toArray, Option.getD_some, and_true] at hO hD; go_simp; rfl)
  simp only [List.nil_append, List.cons_append]
  refine Free.Chain.ex ?_ [(15, 22)] [] (by kernel_rfl) (by kernel_rfl) rfl (Kept.refl mb) ?_ ?_
  rotate_left
  · (intro ev W hb hR hO hD; have hS := hF W hR; obtain ⟨hb1, hb2, hb3⟩ := hb; simp only [Free.AllDeps, Free.AllOuts, Free.At, List.getElem?_cons_succ, List.getElem?_cons_zero, Array.getD_eq_getD_getElem?, List.getElem?_toArray, Option.getD_some, and_true] at hO hD; go_simp; rfl)
  simp only [List.nil_append, List.cons_append]
  refine Free.Chain.ex ?_ [] [1] (by kernel_rfl) (by kernel_rfl) rfl (Kept.refl mb) ?_ ?_
  rotate_left
  · (intro ev W hb hR hO hD; have hS := hF W hR; obtain ⟨hb1, hb2, hb3⟩ := hb; simp only [Free.AllDeps, Free.AllOuts, Free.At, List.getElem?_cons_succ, List.getElem?_cons_zero, Array.getD_eq_getD_getElem?, List.getElem?_toArray, Option.getD_some, and_true] at hO hD; go_simp; rfl)
  simp only [List.nil_append, List.cons_append]
  refine Free.Chain.ex ?_ [(16, 23), (17, 24)] [] (by kernel_rfl) (by kernel_rfl) rfl (Kept.refl mb) ?_ ?_
  rotate_left
  · (intro ev W hb hR hO hD; have hS := hF W hR; obtain ⟨hb1, hb2, hb3⟩ := hb; simp only [Free.AllDeps, Free.AllOuts, Free.At, List.getElem?_cons_succ, List.getElem?_cons_zero, Array.getD_eq_getD_getElem?, List.getElem?_toArray, Option.getD_some, and_true] at hO hD; go_simp; rfl)
  simp only [List.nil_append, List.cons_append]
  refine Free.Chain.ex ?_ [] [5] (by kernel_rfl) (by kernel_rfl) rfl (Kept.refl mb) ?_ ?_
  rotate_left
  · (intro ev W hb hR hO hD; have hS := hF W hR; obtain ⟨hb1, hb2, hb3⟩ := hb; simp only [Free.AllDeps, Free.AllOuts, Free.At, List.getElem?_cons_succ, List.getElem?_cons_zero, Array.getD_eq_getD_getElem?, List.getElem?_toArray, Option.getD_some, and_true] at hO hD; go_simp; rfl)
  simp only [List.nil_append, List.cons_append]
  refine Free.Chain.ex ?_ [(19, 26)] [] (by kernel_rfl) (by kernel_rfl) rfl (Kept.refl mb) ?_ ?_
  rotate_left
  · (intro ev W hb hR hO hD; have hS := hF W hR; obtain ⟨hb1, hb2, hb3⟩ := hb; simp only [Free.AllDeps, Free.AllOuts, Free.At, List.getElem?_cons_succ, List.getElem?_cons_zero, Array.getD_eq_getD_getElem?, List.getElem?_toArray, Option.getD_some, and_true] at hO hD; go_simp; rfl)
  simp only [List.nil_append, List.cons_append]
  refine Free.Chain.ex ?_ [] [5] (by kernel_rfl) (by kernel_rfl) rfl (Kept.refl mb) ?_ ?_
  rotate_left
  · (intro ev W hb hR hO hD; have hS := hF W hR; obtain ⟨hb1, hb2, hb3⟩ := hb; simp only [Free.AllDeps, Free.AllOuts, Free.At, List.getElem?_cons_succ, List.getElem?_cons_zero, Array.getD_eq_getD_getElem?, List.getElem?_toArray, Option.getD_some, and_true] at hO hD; go_simp; rfl)
  simp only [List.nil_append, List.cons_append]
  refine Free.Chain.ex ?_ [(21, 28)] [] (by kernel_rfl) (by kernel_rfl) rfl (Kept.refl mb) ?_ ?_
  rotate_left
  · (intro ev W hb hR hO hD; have hS := hF W hR; obtain ⟨hb1, hb2, hb3⟩ := hb; simp only [Free.AllDeps, Free.AllOuts, Free.At, List.getElem?_cons_succ, List.getElem?_cons_zero, Array.getD_eq_getD_getElem?, List.getElem?_toArray, Option.getD_some, and_true] at hO hD; go_simp; rfl)
  simp only [List.nil_append, List.cons_append]
  refine Free.Chain.ex ?_ [(20, 27), (22, 29)] [] (by kernel_rfl) (by kernel_rfl) rfl (Kept.refl mb) ?_ ?_
  rotate_left
  · (intro ev W hb hR hO hD; have hS := hF W hR; obtain ⟨hb1, hb2, hb3⟩ := hb; simp only [Free.AllDeps, Free.AllOuts, Free.At, List.getElem?_cons_succ, List.getElem?_cons_zero, Array.getD_eq_getD_getElem?, List.getElem?_toArray, Option.getD_some, and_true] at hO hD; go_simp; rfl)
  simp only [List.nil_append, List.cons_append]
  refine Free.Chain.pr (fun v _ => v = .int .i64 (chI (N - D) (o - f))) [(11, 18), (18, 25), (23, 30), (7, 14)] [] (by kernel_rfl) (by kernel_rfl) rfl (fun _ _ _ _ h => h) ?_ ?_
  · (intro ev W hb hR hO hD; have hS := hF W hR; obtain ⟨hb1, hb2, hb3⟩ := hb; simp only [Free.AllDeps, Free.AllOuts, Free.At, List.getElem?_cons_succ, List.getElem?_cons_zero, Array.getD_eq_getD_getElem?, List.getElem?_toArray, Option.getD_some, and_true] at hO hD; go_simp; refine (count_call (N - D) (o - f) mb kb cb _ (by omega) (hC.out _ hR)).mono ?_; rintro e W1 ⟨rfl, hB1⟩; exact ⟨_, rfl, hB1, rfl⟩)
  simp only [List.nil_append, List.cons_append]
  refine Free.Chain.ex ?_ [(7, 14), (24, 31)] [] (by kernel_rfl) (by kernel_rfl) rfl (Kept.refl mb) ?_ ?_
  rotate_left
  · (intro ev W hb hR hO hD; have hS := hF W hR; obtain ⟨hb1, hb2, hb3⟩ := hb; simp only [Free.AllDeps, Free.AllOuts, Free.At, List.getElem?_cons_succ, List.getElem?_cons_zero, Array.getD_eq_getD_getElem?, List.getElem?_toArray, Option.getD_some, and_true] at hO hD; go_simp; rfl)
  simp only [List.nil_append, List.cons_append]
  refine Free.Chain.ex ?_ [(25, 32), (24, 31), (0, 7), (1, 8), (2, 9), (3, 10), (4, 11), (5, 12), (6, 13), (7, 14), (8, 15), (9, 16), (10, 17), (11, 18), (12, 19), (13, 20), (14, 21), (15, 22), (16, 23), (17, 24), (18, 25), (19, 26), (20, 27), (21, 28), (22, 29), (23, 30), (24, 31), (25, 32)] [] (by kernel_rfl) (by kernel_rfl) rfl (Kept.refl mb) ?_ ?_
  rotate_left
  · (intro ev W hb hR hO hD; have hS := hF W hR; obtain ⟨hb1, hb2, hb3⟩ := hb; simp only [Free.AllDeps, Free.AllOuts, Free.At, List.getElem?_cons_succ, List.getElem?_cons_zero, Array.getD_eq_getD_getElem?, List.getElem?_toArray, Option.getD_some, and_true] at hO hD; go_simp; rfl)
  simp only [List.nil_append, List.cons_append]
  intro xs w' hR hV
  simp only [Free.AllV, Free.At, List.length_cons, List.length_nil, Nat.reduceAdd, List.getElem?_cons_succ, List.getElem?_cons_zero, true_and] at hV
  simp only [Free.putsFrom, Act.put, hV, List.setIfInBounds_toArray, List.set_cons_succ, List.set_cons_zero]
  go_wp2_with fail
  go_ret
  exact ⟨rfl, (HK0.out.drew).trans hR⟩

/-- The value of a function of what is found. -/
structure OfFound (g : Nat) (caps : Array Value) (of : Int → Int) (mb : Nat) (o : Int) (w0 : World) : Prop where
  enters : ∀ args w, (callFunc g args).run Tryd.prog w = .ok (.enter g args) w
  calls : ∀ W k, Kept mb w0 W → 0 ≤ k → k ≤ o → Calls Tryd.prog g (#[.int .i64 k] ++ caps) W fun e W' => e = .returned (.int .i64 (of k)) ∧ Kept mb W W'

/-- The sum over what is found: 0 .. n - 1. -/
def midI (N D o : Int) (of : Int → Int) : Nat → Int
  | 0 => 0
  | n + 1 => midI N D o of n + of n * waysI N D o n
theorem midI_bound (N D o : Int) (of : Int → Int) (hN : N ≤ 36) (h0 : 0 ≤ D) (h1 : D ≤ N) : ∀ n : Nat, (∀ k : Nat, k < n → 0 ≤ of k ∧ of k ≤ 1000000) → 0 ≤ midI N D o of n ∧ midI N D o of n ≤ n * 68719476736000000
  | 0, _ => by simp [midI]
  | n + 1, h => by
    obtain ⟨a, b⟩ := midI_bound N D o of hN h0 h1 n fun k hk => h k (by omega)
    obtain ⟨c, d⟩ := waysI_bound N D o n hN h0 h1
    obtain ⟨e, f⟩ := h n (by omega)
    have h2 : 0 ≤ of n * waysI N D o n := Int.mul_nonneg e c
    have h3 : of n * waysI N D o n ≤ 1000000 * 68719476736 := Int.mul_le_mul f d c (by omega)
    simp only [midI]
    omega

set_option maxRecDepth 100000 in
set_option maxHeartbeats 4000000 in
theorem middle_any (hb : Nat) (N lo hi D o : Int) (mb kb cb g : Nat) (caps : Array Value) (of : Int → Int) (w : World) (hH : Hold hb N lo hi mb kb cb w) (hN : N ≤ 36) (h0 : 0 ≤ D) (h1 : D ≤ N) (ho : 0 ≤ o ∧ o ≤ N)
    (hof : ∀ k : Int, 0 ≤ k → k ≤ o → 0 ≤ of k ∧ of k ≤ 1000000) (hg : OfFound g caps of mb o w) :
    Calls Tryd.prog 89 #[.pointer (some ⟨hb, 0, none⟩), .int .i64 D, .int .i64 o, .func (.func g) #[] caps] w fun e w' => e = .returned (partV (midI N D o of (o + 1).toNat).toNat (chI N o).toNat) ∧ Kept mb w w' := by
  have hsum : Hid (∀ n : Nat, (n : Int) ≤ o + 1 → 0 ≤ midI N D o of n ∧ midI N D o of n ≤ n * 68719476736000000) := fun n hn => midI_bound N D o of hN h0 h1 n fun k hk => hof k (by omega) (by omega)
  have K0 : Kept mb w (w.alloc (.cells #[.int .i64 0, .int .i64 0] 31)) := (Kept.refl _ w).alloc _
  have HOF := Lib.hid hof
  have HG := Lib.hid hg
  have HK0 := Lib.hid K0
  have HH := Lib.hid hH
  have hent := hg.enters
  clear hof hg K0 hH
  go_enter Tryd.func89, Tryd.ntmps89
  go_wp2
  have hbb1 : w.heap.size < (w.alloc (.cells #[.int .i64 0, .int .i64 0] 31)).heap.size := by simp
  have z0 : (w.alloc (.cells #[.int .i64 0, .int .i64 0] 31)).cell? ⟨w.heap.size, 0, none⟩ = some (.int .i64 0) := by simp [go_sem]
  have z1 : (w.alloc (.cells #[.int .i64 0, .int .i64 0] 31)).cell? ⟨w.heap.size, 1, none⟩ = some (.int .i64 0) := by simp [go_sem]
  have z2 : (w.alloc (.cells #[.int .i64 0, .int .i64 0] 31)).frozen? ⟨w.heap.size, 0, none⟩ = false := by simp [go_sem]
  have z3 : (w.alloc (.cells #[.int .i64 0, .int .i64 0] 31)).frozen? ⟨w.heap.size, 1, none⟩ = false := by simp [go_sem]
  have hrb := HH.out.ctr.memo
  have nes : Hid (w.heap.size ≠ mb ∧ kb ≠ w.heap.size ∧ cb ≠ w.heap.size ∧ hb ≠ w.heap.size) := by
    refine ⟨?_, ?_, ?_, ?_⟩
    · obtain ⟨l, hl, _⟩ := hrb; have := hl.lt; omega
    · have := lt_of_cell HH.out.ctr.known; simp at this; omega
    · have := lt_of_cell HH.out.ctr.count; simp at this; omega
    · have := lt_of_cell HH.out.bags; simp at this; omega
  have HZ := Lib.hid (And.intro z0 (And.intro z1 (And.intro z2 z3)))
  clear z0 z1 z2 z3 hrb
  generalize w.alloc (.cells #[.int .i64 0, .int .i64 0] 31) = W0 at *
  generalize hbb : w.heap.size = rb at *
  have HBB := Lib.hid hbb
  clear hbb
  go_loopw [9, 13] (fun s i wr => ∃ k : Nat, (k : Int) ≤ o + 1 ∧ i = .int .i64 k ∧ s = .int .i64 (midI N D o of k) ∧ Kept mb W0 wr) (fun _ i _ => (o + 1 - intOf i).toNat)
  case atStart => exact ⟨0, by omega, rfl, rfl, Kept.refl _ _⟩
  case round =>
    obtain ⟨k, hk, rfl, rfl, hK⟩ := hrel
    have HK := Lib.hid hK
    clear hK
    by_cases hlt : (k : Int) ≤ o
    · have hf := HOF.out k (by omega) hlt
      have hw := waysI_bound N D o k hN h0 h1
      have hp : 0 ≤ of k * waysI N D o k ∧ of k * waysI N D o k ≤ 68719476736000000 :=
        ⟨Int.mul_nonneg hf.1 hw.1, Int.le_trans (Int.mul_le_mul hf.2 hw.2 hw.1 (by omega)) (by omega)⟩
      have hs := hsum.out k hk
      have hs' : 0 ≤ midI N D o of k + of k * waysI N D o k ∧ midI N D o of k + of k * waysI N D o k ≤ ((k + 1 : Nat) : Int) * 68719476736000000 := hsum.out (k + 1) (by omega)
      have hstep : Hid (midI N D o of (k + 1) = midI N D o of k + of k * waysI N D o k) := rfl
      have hc1 := Lib.hid (HG.out.calls wr k (HK0.out.trans HK.out) (by omega) hlt)
      have hc2 : Hid (∀ W, Kept mb wr W → Calls Tryd.prog 64 #[.pointer (some ⟨hb, 0, none⟩), .int .i64 D, .agg #[.int .i64 o, .int .i64 k]] W fun e w' => e = .returned (.int .i64 (waysI N D o k)) ∧ Kept mb W w') :=
        fun W hW => ways_any hb N lo hi D o k mb kb cb W (HH.out.kept ((HK0.out.trans HK.out).trans hW)) hN h0 h1 (by omega) (by omega)
      generalize midI N D o of k = S0 at *
      generalize of k = F at *
      generalize waysI N D o k = G at *
      generalize hFG : F * G = FG at *
      have HFG := Lib.hid hFG
      go_wp2_with fail
      refine hc1.out.mono ?_
      rintro e W1 ⟨rfl, hK1⟩
      have HK1 := Lib.hid hK1
      clear hK1
      go_wp2_with fail
      refine (hc2.out _ HK1.out).mono ?_
      rintro e W2 ⟨rfl, hK2⟩
      have HK2 := Lib.hid ((HK.out.trans HK1.out).trans hK2)
      clear hK2
      go_wp2_with fail
      go_roundw
      case rel => exact ⟨k + 1, by omega, by go_num, by rw [hstep.out], HK2.out⟩
      case measure => simp [intOf]; omega
    · have hko : (k : Int) = o + 1 := by omega
      have hkn : Hid (k = (o + 1).toNat) := by show k = _; omega
      have hs := hsum.out k hk
      have hA : 1 ≤ chI N o ∧ chI N o ≤ 68719476736 := ⟨by
        obtain ⟨a, ha⟩ := Int.eq_ofNat_of_zero_le ho.1
        obtain ⟨b, hb⟩ := Int.eq_ofNat_of_zero_le (show 0 ≤ N by omega)
        rw [ha, hb]
        show 1 ≤ chI ((b : Nat) : Int) ((a : Nat) : Int)
        rw [chI_nat]; have := nCk_pos b a (by omega); omega, (chI_bound N o hN).2⟩
      have hcc : Hid (∀ W, Ctr mb kb cb W → Calls Tryd.prog 107 #[.int .i64 N, .int .i64 o, .pointer (some ⟨kb, 0, none⟩), .pointer (some ⟨cb, 0, none⟩)] W fun e w' => e = .returned (.int .i64 (chI N o)) ∧ Kept mb W w') :=
        fun W hW => count_call N o mb kb cb W hN hW
      obtain ⟨px, py, hp⟩ : ∃ px py : Int, partV (midI N D o of k).toNat (chI N o).toNat = .agg #[.int .i64 px, .int .i64 py] := ⟨_, _, rfl⟩
      have HP0 : Hid (partV (midI N D o of (o + 1).toNat).toNat (chI N o).toNat = .agg #[.int .i64 px, .int .i64 py]) := by rw [← hkn.out]; exact hp
      have HP := Lib.hid hp
      clear hp
      have hw1 := HH.out.kept (HK0.out.trans HK.out)
      have hne := nes.out
      have d0 := HK.out.cell HZ.out.1 (by simpa using hne.1)
      have d1 := HK.out.cell HZ.out.2.1 (by simpa using hne.1)
      have hblk := HK.out.block rb hbb1 hne.1
      have d2 : wr.frozen? ⟨rb, 0, none⟩ = false := (World.frozen?_of_block (w := W0) (a := ⟨rb, 0, none⟩) hblk).trans HZ.out.2.2.1
      have d3 : wr.frozen? ⟨rb, 1, none⟩ = false := (World.frozen?_of_block (w := W0) (a := ⟨rb, 1, none⟩) hblk).trans HZ.out.2.2.2
      have hsz : rb < wr.heap.size := Nat.lt_of_lt_of_le hbb1 HK.out.size
      generalize midI N D o of k = S0 at *
      generalize hAe : chI N o = A at *
      have HAE := Lib.hid hAe
      clear hAe
      have HW1 := Lib.hid hw1
      have HNE := Lib.hid hne
      have HHZ := Lib.hid hsz
      have HKK := HK
      clear hw1 hne hblk hsz
      go_wp2_with fail
      have hF : ∀ W, KeptR mb rb [.int .i64 px, .int .i64 py] wr.drew W → W.cell? ⟨hb, 0, none⟩ = some (.int .i64 N) ∧ W.cell? ⟨hb, 3, none⟩ = some (setsV kb cb) ∧ (W.cell? ⟨rb, 0, none⟩).isSome = true ∧ (W.cell? ⟨rb, 1, none⟩).isSome = true ∧ W.frozen? ⟨rb, 0, none⟩ = false ∧ W.frozen? ⟨rb, 1, none⟩ = false :=
        fun W hW => have h := KeptR.hold (HW1.out.kept (Kept.refl _ _).drew) hW HNE.out.2.1 HNE.out.2.2.1 HNE.out.2.2.2
          ⟨h.bags, h.sets, hW.there 0 (by simpa using congrArg Option.isSome d0), hW.there 1 (by simpa using congrArg Option.isSome d1), (hW.frozen 0).trans d2, (hW.frozen 1).trans d3⟩
      have hC : Hid (∀ W, KeptR mb rb [.int .i64 px, .int .i64 py] wr.drew W → Ctr mb kb cb W ∧ rb < W.heap.size) := fun W hW =>
        ⟨(KeptR.hold (HW1.out.kept (Kept.refl _ _).drew) hW HNE.out.2.1 HNE.out.2.2.1 HNE.out.2.2.2).ctr, Nat.lt_of_lt_of_le HHZ.out hW.size⟩
      have HA := Lib.hid hA
      clear hA
      refine Free.wp_free (R := KeptR mb rb [.int .i64 px, .int .i64 py]) (by kernel_rfl) (by kernel_rfl) (KeptR.refl mb rb _) (fun _ _ _ h k => h.trans k) ?_
      refine Free.Chain.ex ?_ [] [9] (by kernel_rfl) (by kernel_rfl) rfl (KeptR.refl mb rb _) ?_ ?_
      rotate_left
      · (intro ev W hb hR hO hD; have hS := hF W hR; obtain ⟨hb1, hb2, hb3⟩ := hb; simp only [Free.AllDeps, Free.AllOuts, Free.At, List.getElem?_cons_succ, List.getElem?_cons_zero, Array.getD_eq_getD_getElem?, List.getElem?_toArray, Option.getD_some, and_true] at hO hD; go_simp; rfl)
      simp only [List.nil_append, List.cons_append]
      refine Free.Chain.ex ?_ [] [0] (by kernel_rfl) (by kernel_rfl) rfl (KeptR.refl mb rb _) ?_ ?_
      rotate_left
      · (intro ev W hb hR hO hD; have hS := hF W hR; obtain ⟨hb1, hb2, hb3⟩ := hb; simp only [Free.AllDeps, Free.AllOuts, Free.At, List.getElem?_cons_succ, List.getElem?_cons_zero, Array.getD_eq_getD_getElem?, List.getElem?_toArray, Option.getD_some, and_true] at hO hD; go_simp; rfl)
      simp only [List.nil_append, List.cons_append]
      refine Free.Chain.ex ?_ [(1, 30)] [] (by kernel_rfl) (by kernel_rfl) rfl (KeptR.refl mb rb _) ?_ ?_
      rotate_left
      · (intro ev W hb hR hO hD; have hS := hF W hR; obtain ⟨hb1, hb2, hb3⟩ := hb; simp only [Free.AllDeps, Free.AllOuts, Free.At, List.getElem?_cons_succ, List.getElem?_cons_zero, Array.getD_eq_getD_getElem?, List.getElem?_toArray, Option.getD_some, and_true] at hO hD; go_simp; rfl)
      simp only [List.nil_append, List.cons_append]
      refine Free.Chain.ex ?_ [(2, 31)] [] (by kernel_rfl) (by kernel_rfl) rfl (KeptR.refl mb rb _) ?_ ?_
      rotate_left
      · (intro ev W hb hR hO hD; have hS := hF W hR; obtain ⟨hb1, hb2, hb3⟩ := hb; simp only [Free.AllDeps, Free.AllOuts, Free.At, List.getElem?_cons_succ, List.getElem?_cons_zero, Array.getD_eq_getD_getElem?, List.getElem?_toArray, Option.getD_some, and_true] at hO hD; go_simp; rfl)
      simp only [List.nil_append, List.cons_append]
      refine Free.Chain.ex ?_ [(3, 32)] [] (by kernel_rfl) (by kernel_rfl) rfl (KeptR.refl mb rb _) ?_ ?_
      rotate_left
      · (intro ev W hb hR hO hD; have hS := hF W hR; obtain ⟨hb1, hb2, hb3⟩ := hb; simp only [Free.AllDeps, Free.AllOuts, Free.At, List.getElem?_cons_succ, List.getElem?_cons_zero, Array.getD_eq_getD_getElem?, List.getElem?_toArray, Option.getD_some, and_true] at hO hD; go_simp; rfl)
      simp only [List.nil_append, List.cons_append]
      refine Free.Chain.ex ?_ [] [0] (by kernel_rfl) (by kernel_rfl) rfl (KeptR.refl mb rb _) ?_ ?_
      rotate_left
      · (intro ev W hb hR hO hD; have hS := hF W hR; obtain ⟨hb1, hb2, hb3⟩ := hb; simp only [Free.AllDeps, Free.AllOuts, Free.At, List.getElem?_cons_succ, List.getElem?_cons_zero, Array.getD_eq_getD_getElem?, List.getElem?_toArray, Option.getD_some, and_true] at hO hD; go_simp; rfl)
      simp only [List.nil_append, List.cons_append]
      refine Free.Chain.ex ?_ [(5, 34)] [] (by kernel_rfl) (by kernel_rfl) rfl (KeptR.refl mb rb _) ?_ ?_
      rotate_left
      · (intro ev W hb hR hO hD; have hS := hF W hR; obtain ⟨hb1, hb2, hb3⟩ := hb; simp only [Free.AllDeps, Free.AllOuts, Free.At, List.getElem?_cons_succ, List.getElem?_cons_zero, Array.getD_eq_getD_getElem?, List.getElem?_toArray, Option.getD_some, and_true] at hO hD; go_simp; rfl)
      simp only [List.nil_append, List.cons_append]
      refine Free.Chain.ex ?_ [(6, 35)] [] (by kernel_rfl) (by kernel_rfl) rfl (KeptR.refl mb rb _) ?_ ?_
      rotate_left
      · (intro ev W hb hR hO hD; have hS := hF W hR; obtain ⟨hb1, hb2, hb3⟩ := hb; simp only [Free.AllDeps, Free.AllOuts, Free.At, List.getElem?_cons_succ, List.getElem?_cons_zero, Array.getD_eq_getD_getElem?, List.getElem?_toArray, Option.getD_some, and_true] at hO hD; go_simp; rfl)
      simp only [List.nil_append, List.cons_append]
      refine Free.Chain.ex ?_ [(7, 36)] [] (by kernel_rfl) (by kernel_rfl) rfl (KeptR.refl mb rb _) ?_ ?_
      rotate_left
      · (intro ev W hb hR hO hD; have hS := hF W hR; obtain ⟨hb1, hb2, hb3⟩ := hb; simp only [Free.AllDeps, Free.AllOuts, Free.At, List.getElem?_cons_succ, List.getElem?_cons_zero, Array.getD_eq_getD_getElem?, List.getElem?_toArray, Option.getD_some, and_true] at hO hD; go_simp; rfl)
      simp only [List.nil_append, List.cons_append]
      refine Free.Chain.ex ?_ [(8, 37)] [] (by kernel_rfl) (by kernel_rfl) rfl (KeptR.refl mb rb _) ?_ ?_
      rotate_left
      · (intro ev W hb hR hO hD; have hS := hF W hR; obtain ⟨hb1, hb2, hb3⟩ := hb; simp only [Free.AllDeps, Free.AllOuts, Free.At, List.getElem?_cons_succ, List.getElem?_cons_zero, Array.getD_eq_getD_getElem?, List.getElem?_toArray, Option.getD_some, and_true] at hO hD; go_simp; rfl)
      simp only [List.nil_append, List.cons_append]
      refine Free.Chain.ex ?_ [] [2] (by kernel_rfl) (by kernel_rfl) rfl (KeptR.refl mb rb _) ?_ ?_
      rotate_left
      · (intro ev W hb hR hO hD; have hS := hF W hR; obtain ⟨hb1, hb2, hb3⟩ := hb; simp only [Free.AllDeps, Free.AllOuts, Free.At, List.getElem?_cons_succ, List.getElem?_cons_zero, Array.getD_eq_getD_getElem?, List.getElem?_toArray, Option.getD_some, and_true] at hO hD; go_simp; rfl)
      simp only [List.nil_append, List.cons_append]
      refine Free.Chain.pr (fun v _ => v = .int .i64 A) [(4, 33), (9, 38), (10, 39)] [] (by kernel_rfl) (by kernel_rfl) rfl (fun _ _ _ _ h => h) ?_ ?_
      · (intro ev W hb hR hO hD; have hS := hF W hR; obtain ⟨hb1, hb2, hb3⟩ := hb; simp only [Free.AllDeps, Free.AllOuts, Free.At, List.getElem?_cons_succ, List.getElem?_cons_zero, Array.getD_eq_getD_getElem?, List.getElem?_toArray, Option.getD_some, and_true] at hO hD; go_simp; refine (hcc.out _ (hC.out _ hR).1).mono ?_; rintro e W1 ⟨rfl, hB1⟩; exact ⟨_, rfl, KeptR.of_kept hB1 HNE.out.1 (hC.out _ hR).2, rfl⟩)
      simp only [List.nil_append, List.cons_append]
      refine Free.Chain.pr (fun v _ => v = .agg #[.int .i64 px, .int .i64 py]) [(0, 29), (11, 40), (11, 40)] [] (by kernel_rfl) (by kernel_rfl) rfl (fun _ _ _ _ h => h) ?_ ?_
      · (intro ev W hb hR hO hD; have hS := hF W hR; obtain ⟨hb1, hb2, hb3⟩ := hb; simp only [Free.AllDeps, Free.AllOuts, Free.At, List.getElem?_cons_succ, List.getElem?_cons_zero, Array.getD_eq_getD_getElem?, List.getElem?_toArray, Option.getD_some, and_true] at hO hD; go_simp; refine (part_int S0 A (by omega) (by have := HA.out; omega) (by omega) (by have := HA.out; omega) _ HP.out _).mono ?_; rintro e W1 ⟨rfl, hB1⟩; exact ⟨_, rfl, KeptR.of_kept (.of_below hB1) HNE.out.1 (hC.out _ hR).2, rfl⟩)
      simp only [List.nil_append, List.cons_append]
      refine Free.Chain.pr (fun _ w => w.cell? ⟨rb, 0, none⟩ = some (.int .i64 px) ∧ w.cell? ⟨rb, 1, none⟩ = some (.int .i64 py)) [(12, 41), (12, 41), (0, 29), (1, 30), (2, 31), (3, 32), (4, 33), (5, 34), (6, 35), (7, 36), (8, 37), (9, 38), (10, 39), (11, 40), (12, 41)] [8] (by kernel_rfl) (by kernel_rfl) rfl (KeptR.stable2) ?_ ?_
      · (intro ev W hb hR hO hD; have hS := hF W hR; obtain ⟨hb1, hb2, hb3⟩ := hb; simp only [Free.AllDeps, Free.AllOuts, Free.At, List.getElem?_cons_succ, List.getElem?_cons_zero, Array.getD_eq_getD_getElem?, List.getElem?_toArray, Option.getD_some, and_true] at hO hD; (obtain ⟨u0, hu0⟩ := Option.isSome_iff_exists.1 hS.2.2.1); (obtain ⟨u1, hu1⟩ := Option.isSome_iff_exists.1 hS.2.2.2.1); go_simp; exact KeptR.store2 HNE.out.1 hu0 hu1)
      simp only [List.nil_append, List.cons_append]
      intro xs w' hR hV
      simp only [Free.AllV, Free.At, List.length_cons, List.length_nil, Nat.reduceAdd, List.getElem?_cons_succ, List.getElem?_cons_zero, true_and] at hV
      simp only [Free.putsFrom, Act.put, hV, List.setIfInBounds_toArray, List.set_cons_succ, List.set_cons_zero]
      go_wp2_with fail
      have hcell := hV.2
      refine bodyPost_ret (v := .agg #[.int .i64 px, .int .i64 py]) ?_ rfl ⟨?_, ?_⟩
      · simp [results, Tryd.results89, go_sem, hcell]
      · rw [HAE.out, HP0.out]
      · exact KeptR.kept ((HK0.out.trans HK.out).drew) hR (Nat.le_of_eq HBB.out)
end Go.Proofs.YthhallnkpbgomaaDoor
