/- The cargo at work: ways, the middle, the chance of at most so many. -/
import Derived.Test.YtinndhmjojpekaaDoorB1
import Derived.RegionTactic
import Derived.RangeFuncBox
import Derived.RangeFuncNested
import Derived.RangeFuncBound
import Derived.RangeFuncCalls
import Derived.RangeFuncLeaves
import Derived.Shelf.Abstract
import Derived.WalkKit
import Derived.OwnWalkIn
import Derived.TacticsInMore
import Derived.LoopNIn
import Derived.LoopIn
import Derived.Maps.AppendAt
import Derived.Outline
import Derived.Deep.DeepAppendWide
namespace Go.Proofs.YtinndhmjojpekaaDoor
set_option linter.unusedSimpArgs false
set_option linter.unusedVariables false
open Go.RowKit Go.Proofs.YtinndhmjojpekaaDoor.ML Go.Proofs.YtinndhmjojpekaaDoor.Samp

/-- The ways of a draw. -/
def waysI (N D o f : Int) : Int := chI D f * chI (N - D) (o - f)
theorem chI_pow (n k : Int) (h : 0 ≤ n) : 0 ≤ chI n k ∧ chI n k ≤ (2 ^ n.toNat : Nat) := by
  unfold chI
  have := Nat.one_le_two_pow (n := n.toNat)
  split
  · omega
  · split
    · omega
    · have h1 := nCk_le n.toNat k.toNat
      omega
theorem waysI_bound (N D o f : Int) (hN : N ≤ 36) (h0 : 0 ≤ D) (h1 : D ≤ N) : 0 ≤ waysI N D o f ∧ waysI N D o f ≤ 68719476736 := by
  obtain ⟨a0, a1⟩ := chI_pow D f h0
  obtain ⟨b0, b1⟩ := chI_pow (N - D) (o - f) (by omega)
  refine ⟨Int.mul_nonneg a0 b0, ?_⟩
  have h2 : chI D f * chI (N - D) (o - f) ≤ ((2 ^ D.toNat : Nat) : Int) * ((2 ^ (N - D).toNat : Nat) : Int) := Int.mul_le_mul a1 b1 b0 (by omega)
  have h3 : (2 ^ D.toNat : Nat) * (2 ^ (N - D).toNat : Nat) ≤ 2 ^ 36 := by
    rw [← Nat.pow_add]
    exact Nat.pow_le_pow_right (by omega) (by omega)
  have h4 : (2 : Nat) ^ 36 = 68719476736 := by decide
  have h5 : ((2 ^ D.toNat : Nat) : Int) * ((2 ^ (N - D).toNat : Nat) : Int) = (((2 ^ D.toNat : Nat) * (2 ^ (N - D).toNat : Nat) : Nat) : Int) := by simp
  unfold waysI
  omega

set_option maxRecDepth 100000 in
set_option maxHeartbeats 2000000 in
theorem ways_any (hb : Nat) (N lo hi D o f : Int) (mb kb cb : Nat) (w : World) (hH : Hold hb N lo hi mb kb cb w) (hN : N ≤ 36) (h0 : 0 ≤ D) (h1 : D ≤ N) (ho : -1000 ≤ o ∧ o ≤ 1000) (hf : -1000 ≤ f ∧ f ≤ 1000) :
    Calls Tryd.prog 29 #[.pointer (some ⟨hb, 0, none⟩), .int .i64 D, .agg #[.int .i64 o, .int .i64 f]] w fun e w' => e = .returned (.int .i64 (waysI N D o f)) ∧ Kept mb w w' := by
  have hwb := waysI_bound N D o f hN h0 h1
  have hwv : Hid (waysI N D o f = chI D f * chI (N - D) (o - f)) := rfl
  have K0 : Kept mb w (w.alloc (.cells #[.int .i64 o, .int .i64 f] 49)) := (Kept.refl _ w).alloc _
  have c0 : (w.alloc (.cells #[.int .i64 o, .int .i64 f] 49)).cell? ⟨w.heap.size, 0, none⟩ = some (.int .i64 o) := by simp [go_sem]
  have c1 : (w.alloc (.cells #[.int .i64 o, .int .i64 f] 49)).cell? ⟨w.heap.size, 1, none⟩ = some (.int .i64 f) := by simp [go_sem]
  have H0 := hH.kept K0
  have ne0 := H0.ctr.memo.ne c0
  have HB := Lib.hid (And.intro hwb ne0)
  have HV := Lib.hid hwv.out
  have HK0 := Lib.hid K0
  have HH := Lib.hid H0
  clear hwb hwv ne0 K0 H0 hH
  go_enter Tryd.func29, Tryd.ntmps29
  go_wp2_with fail
  generalize w.alloc (.cells #[.int .i64 o, .int .i64 f] 49) = W0 at *
  generalize w.heap.size = bb at *
  have hF : ∀ W, Kept mb W0.drew W → W.cell? ⟨bb, 0, none⟩ = some (.int .i64 o) ∧ W.cell? ⟨bb, 1, none⟩ = some (.int .i64 f) ∧ W.cell? ⟨hb, 0, none⟩ = some (.int .i64 N) ∧ W.cell? ⟨hb, 3, none⟩ = some (setsV kb cb) :=
    fun W hW => ⟨hW.cell c0 HB.out.2, hW.cell c1 HB.out.2, (HH.out.kept ((Kept.refl _ _).drew.trans hW)).bags, (HH.out.kept ((Kept.refl _ _).drew.trans hW)).sets⟩
  have hC : Hid (∀ W, Kept mb W0.drew W → Ctr mb kb cb W) := fun W hW => (HH.out.kept ((Kept.refl _ _).drew.trans hW)).ctr
  have q1 : IntKind.i64.wrap (N - D) = N - D := IntWalk.i64_in _ (by omega)
  have q2 : IntKind.i64.wrap (o - f) = o - f := IntWalk.i64_in _ (by omega)
  have q3 : IntKind.i64.wrap (chI D f * chI (N - D) (o - f)) = waysI N D o f := by rw [HV.out]; exact IntWalk.i64_in _ (by have := HB.out.1; rw [HV.out] at this; omega)
  refine Free.wp_free (R := Kept mb) (by kernel_rfl) (by kernel_rfl) (Kept.refl mb) (fun _ _ _ h k => h.trans k) ?_
  refine Free.Chain.ex ?_ [] [0] (by kernel_rfl) (by kernel_rfl) rfl (Kept.refl mb) ?_ ?_
  rotate_left
  · (intro ev W hb hR hO hD; have hS := hF W hR; obtain ⟨hb1, hb2, hb3⟩ := hb; simp only [Free.AllDeps, Free.AllOuts, Free.At, List.getElem?_cons_succ, List.getElem?_cons_zero, Array.getD_eq_getD_getElem?, List.getElem?_toArray, Option.getD_some, and_true] at hO hD; go_simp; rfl)
  simp only [List.nil_append, List.cons_append]
  refine Free.Chain.ex ?_ [(0, 7)] [] (by kernel_rfl) (by kernel_rfl) rfl (Kept.refl mb) ?_ ?_
  rotate_left
  · (intro ev W hb hR hO hD; have hS := hF W hR; obtain ⟨hb1, hb2, hb3⟩ := hb; simp only [Free.AllDeps, Free.AllOuts, Free.At, List.getElem?_cons_succ, List.getElem?_cons_zero, Array.getD_eq_getD_getElem?, List.getElem?_toArray, Option.getD_some, and_true] at hO hD; go_simp; rfl)
  simp only [List.nil_append, List.cons_append]
  refine Free.Chain.ex ?_ [(1, 8)] [] (by kernel_rfl) (by kernel_rfl) rfl (Kept.refl mb) ?_ ?_
  rotate_left
  · (intro ev W hb hR hO hD; have hS := hF W hR; obtain ⟨hb1, hb2, hb3⟩ := hb; simp only [Free.AllDeps, Free.AllOuts, Free.At, List.getElem?_cons_succ, List.getElem?_cons_zero, Array.getD_eq_getD_getElem?, List.getElem?_toArray, Option.getD_some, and_true] at hO hD; go_simp; rfl)
  simp only [List.nil_append, List.cons_append]
  refine Free.Chain.ex ?_ [(2, 9)] [] (by kernel_rfl) (by kernel_rfl) rfl (Kept.refl mb) ?_ ?_
  rotate_left
  · (intro ev W hb hR hO hD; have hS := hF W hR; obtain ⟨hb1, hb2, hb3⟩ := hb; simp only [Free.AllDeps, Free.AllOuts, Free.At, List.getElem?_cons_succ, List.getElem?_cons_zero, Array.getD_eq_getD_getElem?, List.getElem?_toArray, Option.getD_some, and_true] at hO hD; go_simp; rfl)
  simp only [List.nil_append, List.cons_append]
  refine Free.Chain.ex ?_ [] [1] (by kernel_rfl) (by kernel_rfl) rfl (Kept.refl mb) ?_ ?_
  rotate_left
  · (intro ev W hb hR hO hD; have hS := hF W hR; obtain ⟨hb1, hb2, hb3⟩ := hb; simp only [Free.AllDeps, Free.AllOuts, Free.At, List.getElem?_cons_succ, List.getElem?_cons_zero, Array.getD_eq_getD_getElem?, List.getElem?_toArray, Option.getD_some, and_true] at hO hD; go_simp; rfl)
  simp only [List.nil_append, List.cons_append]
  refine Free.Chain.ex ?_ [] [5] (by kernel_rfl) (by kernel_rfl) rfl (Kept.refl mb) ?_ ?_
  rotate_left
  · (intro ev W hb hR hO hD; have hS := hF W hR; obtain ⟨hb1, hb2, hb3⟩ := hb; simp only [Free.AllDeps, Free.AllOuts, Free.At, List.getElem?_cons_succ, List.getElem?_cons_zero, Array.getD_eq_getD_getElem?, List.getElem?_toArray, Option.getD_some, and_true] at hO hD; go_simp; rfl)
  simp only [List.nil_append, List.cons_append]
  refine Free.Chain.ex ?_ [(5, 12)] [] (by kernel_rfl) (by kernel_rfl) rfl (Kept.refl mb) ?_ ?_
  rotate_left
  · (intro ev W hb hR hO hD; have hS := hF W hR; obtain ⟨hb1, hb2, hb3⟩ := hb; simp only [Free.AllDeps, Free.AllOuts, Free.At, List.getElem?_cons_succ, List.getElem?_cons_zero, Array.getD_eq_getD_getElem?, List.getElem?_toArray, Option.getD_some, and_true] at hO hD; go_simp; rfl)
  simp only [List.nil_append, List.cons_append]
  refine Free.Chain.pr (fun v _ => v = .int .i64 (chI D f)) [(3, 10), (4, 11), (6, 13)] [] (by kernel_rfl) (by kernel_rfl) rfl (fun _ _ _ _ h => h) ?_ ?_
  · (intro ev W hb hR hO hD; have hS := hF W hR; obtain ⟨hb1, hb2, hb3⟩ := hb; simp only [Free.AllDeps, Free.AllOuts, Free.At, List.getElem?_cons_succ, List.getElem?_cons_zero, Array.getD_eq_getD_getElem?, List.getElem?_toArray, Option.getD_some, and_true] at hO hD; go_simp; refine (count_call D f mb kb cb _ (by omega) (hC.out _ hR)).mono ?_; rintro e W1 ⟨rfl, hB1⟩; exact ⟨_, rfl, hB1, rfl⟩)
  simp only [List.nil_append, List.cons_append]
  refine Free.Chain.ex ?_ [] [0] (by kernel_rfl) (by kernel_rfl) rfl (Kept.refl mb) ?_ ?_
  rotate_left
  · (intro ev W hb hR hO hD; have hS := hF W hR; obtain ⟨hb1, hb2, hb3⟩ := hb; simp only [Free.AllDeps, Free.AllOuts, Free.At, List.getElem?_cons_succ, List.getElem?_cons_zero, Array.getD_eq_getD_getElem?, List.getElem?_toArray, Option.getD_some, and_true] at hO hD; go_simp; rfl)
  simp only [List.nil_append, List.cons_append]
  refine Free.Chain.ex ?_ [(8, 15)] [] (by kernel_rfl) (by kernel_rfl) rfl (Kept.refl mb) ?_ ?_
  rotate_left
  · (intro ev W hb hR hO hD; have hS := hF W hR; obtain ⟨hb1, hb2, hb3⟩ := hb; simp only [Free.AllDeps, Free.AllOuts, Free.At, List.getElem?_cons_succ, List.getElem?_cons_zero, Array.getD_eq_getD_getElem?, List.getElem?_toArray, Option.getD_some, and_true] at hO hD; go_simp; rfl)
  simp only [List.nil_append, List.cons_append]
  refine Free.Chain.ex ?_ [(9, 16)] [] (by kernel_rfl) (by kernel_rfl) rfl (Kept.refl mb) ?_ ?_
  rotate_left
  · (intro ev W hb hR hO hD; have hS := hF W hR; obtain ⟨hb1, hb2, hb3⟩ := hb; simp only [Free.AllDeps, Free.AllOuts, Free.At, List.getElem?_cons_succ, List.getElem?_cons_zero, Array.getD_eq_getD_getElem?, List.getElem?_toArray, Option.getD_some, and_true] at hO hD; go_simp; rfl)
  simp only [List.nil_append, List.cons_append]
  refine Free.Chain.ex ?_ [(10, 17)] [] (by kernel_rfl) (by kernel_rfl) rfl (Kept.refl mb) ?_ ?_
  rotate_left
  · (intro ev W hb hR hO hD; have hS := hF W hR; obtain ⟨hb1, hb2, hb3⟩ := hb; simp only [Free.AllDeps, Free.AllOuts, Free.At, List.getElem?_cons_succ, List.getElem?_cons_zero, Array.getD_eq_getD_getElem?, List.getElem?_toArray, Option.getD_some, and_true] at hO hD; go_simp; rfl)
  simp only [List.nil_append, List.cons_append]
  refine Free.Chain.ex ?_ [] [0] (by kernel_rfl) (by kernel_rfl) rfl (Kept.refl mb) ?_ ?_
  rotate_left
  · (intro ev W hb hR hO hD; have hS := hF W hR; obtain ⟨hb1, hb2, hb3⟩ := hb; simp only [Free.AllDeps, Free.AllOuts, Free.At, List.getElem?_cons_succ, List.getElem?_cons_zero, Array.getD_eq_getD_getElem?, List.getElem?_toArray, Option.getD_some, and_true] at hO hD; go_simp; rfl)
  simp only [List.nil_append, List.cons_append]
  refine Free.Chain.ex ?_ [(12, 19)] [] (by kernel_rfl) (by kernel_rfl) rfl (Kept.refl mb) ?_ ?_
  rotate_left
  · (intro ev W hb hR hO hD; have hS := hF W hR; obtain ⟨hb1, hb2, hb3⟩ := hb; simp only [Free.AllDeps, Free.AllOuts, Free.At, List.getElem?_cons_succ, List.getElem?_cons_zero, Array.getD_eq_getD_getElem?, List.getElem?_toArray, Option.getD_some, and_true] at hO hD; go_simp; rfl)
  simp only [List.nil_append, List.cons_append]
  refine Free.Chain.ex ?_ [(13, 20)] [] (by kernel_rfl) (by kernel_rfl) rfl (Kept.refl mb) ?_ ?_
  rotate_left
  · (intro ev W hb hR hO hD; have hS := hF W hR; obtain ⟨hb1, hb2, hb3⟩ := hb; simp only [Free.AllDeps, Free.AllOuts, Free.At, List.getElem?_cons_succ, List.getElem?_cons_zero, Array.getD_eq_getD_getElem?, List.getElem?_toArray, Option.getD_some, and_true] at hO hD; go_simp; rfl)
  simp only [List.nil_append, List.cons_append]
  refine Free.Chain.ex ?_ [(14, 21)] [] (by kernel_rfl) (by kernel_rfl) rfl (Kept.refl mb) ?_ ?_
  rotate_left
  · (intro ev W hb hR hO hD; have hS := hF W hR; obtain ⟨hb1, hb2, hb3⟩ := hb; simp only [Free.AllDeps, Free.AllOuts, Free.At, List.getElem?_cons_succ, List.getElem?_cons_zero, Array.getD_eq_getD_getElem?, List.getElem?_toArray, Option.getD_some, and_true] at hO hD; go_simp; rfl)
  simp only [List.nil_append, List.cons_append]
  refine Free.Chain.ex ?_ [(15, 22)] [] (by kernel_rfl) (by kernel_rfl) rfl (Kept.refl mb) ?_ ?_
  rotate_left
  · (intro ev W hb hR hO hD; have hS := hF W hR; obtain ⟨hb1, hb2, hb3⟩ := hb; simp only [Free.AllDeps, Free.AllOuts, Free.At, List.getElem?_cons_succ, List.getElem?_cons_zero, Array.getD_eq_getD_getElem?, List.getElem?_toArray, Option.getD_some, and_true] at hO hD; go_simp; rfl)
  simp only [List.nil_append, List.cons_append]
  refine Free.Chain.ex ?_ [] [1] (by kernel_rfl) (by kernel_rfl) rfl (Kept.refl mb) ?_ ?_
  rotate_left
  · (intro ev W hb hR hO hD; have hS := hF W hR; obtain ⟨hb1, hb2, hb3⟩ := hb; simp only [Free.AllDeps, Free.AllOuts, Free.At, List.getElem?_cons_succ, List.getElem?_cons_zero, Array.getD_eq_getD_getElem?, List.getElem?_toArray, Option.getD_some, and_true] at hO hD; go_simp; rfl)
  simp only [List.nil_append, List.cons_append]
  refine Free.Chain.ex ?_ [(16, 23), (17, 24)] [] (by kernel_rfl) (by kernel_rfl) rfl (Kept.refl mb) ?_ ?_
  rotate_left
  · (intro ev W hb hR hO hD; have hS := hF W hR; obtain ⟨hb1, hb2, hb3⟩ := hb; simp only [Free.AllDeps, Free.AllOuts, Free.At, List.getElem?_cons_succ, List.getElem?_cons_zero, Array.getD_eq_getD_getElem?, List.getElem?_toArray, Option.getD_some, and_true] at hO hD; go_simp; rfl)
  simp only [List.nil_append, List.cons_append]
  refine Free.Chain.ex ?_ [] [5] (by kernel_rfl) (by kernel_rfl) rfl (Kept.refl mb) ?_ ?_
  rotate_left
  · (intro ev W hb hR hO hD; have hS := hF W hR; obtain ⟨hb1, hb2, hb3⟩ := hb; simp only [Free.AllDeps, Free.AllOuts, Free.At, List.getElem?_cons_succ, List.getElem?_cons_zero, Array.getD_eq_getD_getElem?, List.getElem?_toArray, Option.getD_some, and_true] at hO hD; go_simp; rfl)
  simp only [List.nil_append, List.cons_append]
  refine Free.Chain.ex ?_ [(19, 26)] [] (by kernel_rfl) (by kernel_rfl) rfl (Kept.refl mb) ?_ ?_
  rotate_left
  · (intro ev W hb hR hO hD; have hS := hF W hR; obtain ⟨hb1, hb2, hb3⟩ := hb; simp only [Free.AllDeps, Free.AllOuts, Free.At, List.getElem?_cons_succ, List.getElem?_cons_zero, Array.getD_eq_getD_getElem?, List.getElem?_toArray, Option.getD_some, and_true] at hO hD; go_simp; rfl)
  simp only [List.nil_append, List.cons_append]
  refine Free.Chain.ex ?_ [] [5] (by kernel_rfl) (by kernel_rfl) rfl (Kept.refl mb) ?_ ?_
  rotate_left
  · (intro ev W hb hR hO hD; have hS := hF W hR; obtain ⟨hb1, hb2, hb3⟩ := hb; simp only [Free.AllDeps, Free.AllOuts, Free.At, List.getElem?_cons_succ, List.getElem?_cons_zero, Array.getD_eq_getD_getElem?, List.getElem?_toArray, Option.getD_some, and_true] at hO hD; go_simp; rfl)
  simp only [List.nil_append, List.cons_append]
  refine Free.Chain.ex ?_ [(21, 28)] [] (by kernel_rfl) (by kernel_rfl) rfl (Kept.refl mb) ?_ ?_
  rotate_left
  · (intro ev W hb hR hO hD; have hS := hF W hR; obtain ⟨hb1, hb2, hb3⟩ := hb; simp only [Free.AllDeps, Free.AllOuts, Free.At, List.getElem?_cons_succ, List.getElem?_cons_zero, Array.getD_eq_getD_getElem?, List.getElem?_toArray, Option.getD_some, and_true] at hO hD; go_simp; rfl)
  simp only [List.nil_append, List.cons_append]
  refine Free.Chain.ex ?_ [(20, 27), (22, 29)] [] (by kernel_rfl) (by kernel_rfl) rfl (Kept.refl mb) ?_ ?_
  rotate_left
  · (intro ev W hb hR hO hD; have hS := hF W hR; obtain ⟨hb1, hb2, hb3⟩ := hb; simp only [Free.AllDeps, Free.AllOuts, Free.At, List.getElem?_cons_succ, List.getElem?_cons_zero, Array.getD_eq_getD_getElem?, List.getElem?_toArray, Option.getD_some, and_true] at hO hD; go_simp; rfl)
  simp only [List.nil_append, List.cons_append]
  refine Free.Chain.pr (fun v _ => v = .int .i64 (chI (N - D) (o - f))) [(11, 18), (18, 25), (23, 30), (7, 14)] [] (by kernel_rfl) (by kernel_rfl) rfl (fun _ _ _ _ h => h) ?_ ?_
  · (intro ev W hb hR hO hD; have hS := hF W hR; obtain ⟨hb1, hb2, hb3⟩ := hb; simp only [Free.AllDeps, Free.AllOuts, Free.At, List.getElem?_cons_succ, List.getElem?_cons_zero, Array.getD_eq_getD_getElem?, List.getElem?_toArray, Option.getD_some, and_true] at hO hD; go_simp; refine (count_call (N - D) (o - f) mb kb cb _ (by omega) (hC.out _ hR)).mono ?_; rintro e W1 ⟨rfl, hB1⟩; exact ⟨_, rfl, hB1, rfl⟩)
  simp only [List.nil_append, List.cons_append]
  refine Free.Chain.ex ?_ [(7, 14), (24, 31)] [] (by kernel_rfl) (by kernel_rfl) rfl (Kept.refl mb) ?_ ?_
  rotate_left
  · (intro ev W hb hR hO hD; have hS := hF W hR; obtain ⟨hb1, hb2, hb3⟩ := hb; simp only [Free.AllDeps, Free.AllOuts, Free.At, List.getElem?_cons_succ, List.getElem?_cons_zero, Array.getD_eq_getD_getElem?, List.getElem?_toArray, Option.getD_some, and_true] at hO hD; go_simp; rfl)
  simp only [List.nil_append, List.cons_append]
  refine Free.Chain.ex ?_ [(25, 32), (24, 31), (0, 7), (1, 8), (2, 9), (3, 10), (4, 11), (5, 12), (6, 13), (7, 14), (8, 15), (9, 16), (10, 17), (11, 18), (12, 19), (13, 20), (14, 21), (15, 22), (16, 23), (17, 24), (18, 25), (19, 26), (20, 27), (21, 28), (22, 29), (23, 30), (24, 31), (25, 32)] [] (by kernel_rfl) (by kernel_rfl) rfl (Kept.refl mb) ?_ ?_
  rotate_left
  · (intro ev W hb hR hO hD; have hS := hF W hR; obtain ⟨hb1, hb2, hb3⟩ := hb; simp only [Free.AllDeps, Free.AllOuts, Free.At, List.getElem?_cons_succ, List.getElem?_cons_zero, Array.getD_eq_getD_getElem?, List.getElem?_toArray, Option.getD_some, and_true] at hO hD; go_simp; rfl)
  simp only [List.nil_append, List.cons_append]
  intro xs w' hR hV
  simp only [Free.AllV, Free.At, List.length_cons, List.length_nil, Nat.reduceAdd, List.getElem?_cons_succ, List.getElem?_cons_zero, true_and] at hV
  simp only [Free.putsFrom, Act.put, hV, List.setIfInBounds_toArray, List.set_cons_succ, List.set_cons_zero]
  go_wp2_with fail
  go_ret
  exact ⟨rfl, (HK0.out.drew).trans hR⟩

/-- The value of a function of what is found. -/
structure OfFound (g : Nat) (caps : Array Value) (of : Int → Int) (mb : Nat) (o : Int) (w0 : World) : Prop where
  enters : ∀ args w, (callFunc g args).run Tryd.prog w = .ok (.enter g args) w
  calls : ∀ W k, Kept mb w0 W → 0 ≤ k → k ≤ o → Calls Tryd.prog g (#[.int .i64 k] ++ caps) W fun e W' => e = .returned (.int .i64 (of k)) ∧ Kept mb W W'

/-- The sum over what is found: 0 .. n - 1. -/
def midI (N D o : Int) (of : Int → Int) : Nat → Int
  | 0 => 0
  | n + 1 => midI N D o of n + of n * waysI N D o n
theorem midI_bound (N D o : Int) (of : Int → Int) (hN : N ≤ 36) (h0 : 0 ≤ D) (h1 : D ≤ N) : ∀ n : Nat, (∀ k : Nat, k < n → 0 ≤ of k ∧ of k ≤ 1000000) → 0 ≤ midI N D o of n ∧ midI N D o of n ≤ n * 68719476736000000
  | 0, _ => by simp [midI]
  | n + 1, h => by
    obtain ⟨a, b⟩ := midI_bound N D o of hN h0 h1 n fun k hk => h k (by omega)
    obtain ⟨c, d⟩ := waysI_bound N D o n hN h0 h1
    obtain ⟨e, f⟩ := h n (by omega)
    have h2 : 0 ≤ of n * waysI N D o n := Int.mul_nonneg e c
    have h3 : of n * waysI N D o n ≤ 1000000 * 68719476736 := Int.mul_le_mul f d c (by omega)
    simp only [midI]
    omega

set_option maxRecDepth 100000 in
set_option maxHeartbeats 4000000 in
theorem middle_any (hb : Nat) (N lo hi D o : Int) (mb kb cb g : Nat) (caps : Array Value) (of : Int → Int) (w : World) (hH : Hold hb N lo hi mb kb cb w) (hN : N ≤ 36) (h0 : 0 ≤ D) (h1 : D ≤ N) (ho : 0 ≤ o ∧ o ≤ N)
    (hof : ∀ k : Int, 0 ≤ k → k ≤ o → 0 ≤ of k ∧ of k ≤ 1000000) (hg : OfFound g caps of mb o w) :
    Calls Tryd.prog 58 #[.pointer (some ⟨hb, 0, none⟩), .int .i64 D, .int .i64 o, .func (.func g) #[] caps] w fun e w' => e = .returned (partV (midI N D o of (o + 1).toNat).toNat (chI N o).toNat) ∧ Kept mb w w' := by
  have hsum : Hid (∀ n : Nat, (n : Int) ≤ o + 1 → 0 ≤ midI N D o of n ∧ midI N D o of n ≤ n * 68719476736000000) := fun n hn => midI_bound N D o of hN h0 h1 n fun k hk => hof k (by omega) (by omega)
  have K0 : Kept mb w (w.alloc (.cells #[.int .i64 0, .int .i64 0] 32)) := (Kept.refl _ w).alloc _
  have HOF := Lib.hid hof
  have HG := Lib.hid hg
  have HK0 := Lib.hid K0
  have HH := Lib.hid hH
  have hent := hg.enters
  clear hof hg K0 hH
  go_enter Tryd.func58, Tryd.ntmps58
  go_wp2
  have hbb1 : w.heap.size < (w.alloc (.cells #[.int .i64 0, .int .i64 0] 32)).heap.size := by simp
  have z0 : (w.alloc (.cells #[.int .i64 0, .int .i64 0] 32)).cell? ⟨w.heap.size, 0, none⟩ = some (.int .i64 0) := by simp [go_sem]
  have z1 : (w.alloc (.cells #[.int .i64 0, .int .i64 0] 32)).cell? ⟨w.heap.size, 1, none⟩ = some (.int .i64 0) := by simp [go_sem]
  have z2 : (w.alloc (.cells #[.int .i64 0, .int .i64 0] 32)).frozen? ⟨w.heap.size, 0, none⟩ = false := by simp [go_sem]
  have z3 : (w.alloc (.cells #[.int .i64 0, .int .i64 0] 32)).frozen? ⟨w.heap.size, 1, none⟩ = false := by simp [go_sem]
  have hrb := HH.out.ctr.memo
  have nes : Hid (w.heap.size ≠ mb ∧ kb ≠ w.heap.size ∧ cb ≠ w.heap.size ∧ hb ≠ w.heap.size) := by
    refine ⟨?_, ?_, ?_, ?_⟩
    · obtain ⟨l, hl, _⟩ := hrb; have := hl.lt; omega
    · have := lt_of_cell HH.out.ctr.known; simp at this; omega
    · have := lt_of_cell HH.out.ctr.count; simp at this; omega
    · have := lt_of_cell HH.out.bags; simp at this; omega
  have HZ := Lib.hid (And.intro z0 (And.intro z1 (And.intro z2 z3)))
  clear z0 z1 z2 z3 hrb
  generalize w.alloc (.cells #[.int .i64 0, .int .i64 0] 32) = W0 at *
  generalize hbb : w.heap.size = rb at *
  have HBB := Lib.hid hbb
  clear hbb
  go_loopw [9, 13] (fun s i wr => ∃ k : Nat, (k : Int) ≤ o + 1 ∧ i = .int .i64 k ∧ s = .int .i64 (midI N D o of k) ∧ Kept mb W0 wr) (fun _ i _ => (o + 1 - intOf i).toNat)
  case atStart => exact ⟨0, by omega, rfl, rfl, Kept.refl _ _⟩
  case round =>
    obtain ⟨k, hk, rfl, rfl, hK⟩ := hrel
    have HK := Lib.hid hK
    clear hK
    by_cases hlt : (k : Int) ≤ o
    · have hf := HOF.out k (by omega) hlt
      have hw := waysI_bound N D o k hN h0 h1
      have hp : 0 ≤ of k * waysI N D o k ∧ of k * waysI N D o k ≤ 68719476736000000 :=
        ⟨Int.mul_nonneg hf.1 hw.1, Int.le_trans (Int.mul_le_mul hf.2 hw.2 hw.1 (by omega)) (by omega)⟩
      have hs := hsum.out k hk
      have hs' : 0 ≤ midI N D o of k + of k * waysI N D o k ∧ midI N D o of k + of k * waysI N D o k ≤ ((k + 1 : Nat) : Int) * 68719476736000000 := hsum.out (k + 1) (by omega)
      have hstep : Hid (midI N D o of (k + 1) = midI N D o of k + of k * waysI N D o k) := rfl
      have hc1 := Lib.hid (HG.out.calls wr k (HK0.out.trans HK.out) (by omega) hlt)
      have hc2 : Hid (∀ W, Kept mb wr W → Calls Tryd.prog 29 #[.pointer (some ⟨hb, 0, none⟩), .int .i64 D, .agg #[.int .i64 o, .int .i64 k]] W fun e w' => e = .returned (.int .i64 (waysI N D o k)) ∧ Kept mb W w') :=
        fun W hW => ways_any hb N lo hi D o k mb kb cb W (HH.out.kept ((HK0.out.trans HK.out).trans hW)) hN h0 h1 (by omega) (by omega)
      generalize midI N D o of k = S0 at *
      generalize of k = F at *
      generalize waysI N D o k = G at *
      generalize hFG : F * G = FG at *
      have HFG := Lib.hid hFG
      go_wp2_with fail
      refine hc1.out.mono ?_
      rintro e W1 ⟨rfl, hK1⟩
      have HK1 := Lib.hid hK1
      clear hK1
      go_wp2_with fail
      refine (hc2.out _ HK1.out).mono ?_
      rintro e W2 ⟨rfl, hK2⟩
      have HK2 := Lib.hid ((HK.out.trans HK1.out).trans hK2)
      clear hK2
      go_wp2_with fail
      go_roundw
      case rel => exact ⟨k + 1, by omega, by go_num, by rw [hstep.out], HK2.out⟩
      case measure => simp [intOf]; omega
    · have hko : (k : Int) = o + 1 := by omega
      have hkn : Hid (k = (o + 1).toNat) := by show k = _; omega
      have hs := hsum.out k hk
      have hA : 1 ≤ chI N o ∧ chI N o ≤ 68719476736 := ⟨by
        obtain ⟨a, ha⟩ := Int.eq_ofNat_of_zero_le ho.1
        obtain ⟨b, hb⟩ := Int.eq_ofNat_of_zero_le (show 0 ≤ N by omega)
        rw [ha, hb]
        show 1 ≤ chI ((b : Nat) : Int) ((a : Nat) : Int)
        rw [chI_nat]; have := nCk_pos b a (by omega); omega, (chI_bound N o hN).2⟩
      have hcc : Hid (∀ W, Ctr mb kb cb W → Calls Tryd.prog 57 #[.int .i64 N, .int .i64 o, .pointer (some ⟨kb, 0, none⟩), .pointer (some ⟨cb, 0, none⟩)] W fun e w' => e = .returned (.int .i64 (chI N o)) ∧ Kept mb W w') :=
        fun W hW => count_call N o mb kb cb W hN hW
      obtain ⟨px, py, hp⟩ : ∃ px py : Int, partV (midI N D o of k).toNat (chI N o).toNat = .agg #[.int .i64 px, .int .i64 py] := ⟨_, _, rfl⟩
      have HP0 : Hid (partV (midI N D o of (o + 1).toNat).toNat (chI N o).toNat = .agg #[.int .i64 px, .int .i64 py]) := by rw [← hkn.out]; exact hp
      have HP := Lib.hid hp
      clear hp
      have hw1 := HH.out.kept (HK0.out.trans HK.out)
      have hne := nes.out
      have d0 := HK.out.cell HZ.out.1 (by simpa using hne.1)
      have d1 := HK.out.cell HZ.out.2.1 (by simpa using hne.1)
      have hblk := HK.out.block rb hbb1 hne.1
      have d2 : wr.frozen? ⟨rb, 0, none⟩ = false := (World.frozen?_of_block (w := W0) (a := ⟨rb, 0, none⟩) hblk).trans HZ.out.2.2.1
      have d3 : wr.frozen? ⟨rb, 1, none⟩ = false := (World.frozen?_of_block (w := W0) (a := ⟨rb, 1, none⟩) hblk).trans HZ.out.2.2.2
      have hsz : rb < wr.heap.size := Nat.lt_of_lt_of_le hbb1 HK.out.size
      generalize midI N D o of k = S0 at *
      generalize hAe : chI N o = A at *
      have HAE := Lib.hid hAe
      clear hAe
      have HW1 := Lib.hid hw1
      have HNE := Lib.hid hne
      have HHZ := Lib.hid hsz
      have HKK := HK
      clear hw1 hne hblk hsz
      go_wp2_with fail
      have hF : ∀ W, KeptR mb rb [.int .i64 px, .int .i64 py] wr.drew W → W.cell? ⟨hb, 0, none⟩ = some (.int .i64 N) ∧ W.cell? ⟨hb, 3, none⟩ = some (setsV kb cb) ∧ (W.cell? ⟨rb, 0, none⟩).isSome = true ∧ (W.cell? ⟨rb, 1, none⟩).isSome = true ∧ W.frozen? ⟨rb, 0, none⟩ = false ∧ W.frozen? ⟨rb, 1, none⟩ = false :=
        fun W hW => have h := KeptR.hold (HW1.out.kept (Kept.refl _ _).drew) hW HNE.out.2.1 HNE.out.2.2.1 HNE.out.2.2.2
          ⟨h.bags, h.sets, hW.there 0 (by simpa using congrArg Option.isSome d0), hW.there 1 (by simpa using congrArg Option.isSome d1), (hW.frozen 0).trans d2, (hW.frozen 1).trans d3⟩
      have hC : Hid (∀ W, KeptR mb rb [.int .i64 px, .int .i64 py] wr.drew W → Ctr mb kb cb W ∧ rb < W.heap.size) := fun W hW =>
        ⟨(KeptR.hold (HW1.out.kept (Kept.refl _ _).drew) hW HNE.out.2.1 HNE.out.2.2.1 HNE.out.2.2.2).ctr, Nat.lt_of_lt_of_le HHZ.out hW.size⟩
      have HA := Lib.hid hA
      clear hA
      refine Free.wp_free (R := KeptR mb rb [.int .i64 px, .int .i64 py]) (by kernel_rfl) (by kernel_rfl) (KeptR.refl mb rb _) (fun _ _ _ h k => h.trans k) ?_
      refine Free.Chain.ex ?_ [] [9] (by kernel_rfl) (by kernel_rfl) rfl (KeptR.refl mb rb _) ?_ ?_
      rotate_left
      · (intro ev W hb hR hO hD; have hS := hF W hR; obtain ⟨hb1, hb2, hb3⟩ := hb; simp only [Free.AllDeps, Free.AllOuts, Free.At, List.getElem?_cons_succ, List.getElem?_cons_zero, Array.getD_eq_getD_getElem?, List.getElem?_toArray, Option.getD_some, and_true] at hO hD; go_simp; rfl)
      simp only [List.nil_append, List.cons_append]
      refine Free.Chain.ex ?_ [] [0] (by kernel_rfl) (by kernel_rfl) rfl (KeptR.refl mb rb _) ?_ ?_
      rotate_left
      · (intro ev W hb hR hO hD; have hS := hF W hR; obtain ⟨hb1, hb2, hb3⟩ := hb; simp only [Free.AllDeps, Free.AllOuts, Free.At, List.getElem?_cons_succ, List.getElem?_cons_zero, Array.getD_eq_getD_getElem?, List.getElem?_toArray, Option.getD_some, and_true] at hO hD; go_simp; rfl)
      simp only [List.nil_append, List.cons_append]
      refine Free.Chain.ex ?_ [(1, 30)] [] (by kernel_rfl) (by kernel_rfl) rfl (KeptR.refl mb rb _) ?_ ?_
      rotate_left
      · (intro ev W hb hR hO hD; have hS := hF W hR; obtain ⟨hb1, hb2, hb3⟩ := hb; simp only [Free.AllDeps, Free.AllOuts, Free.At, List.getElem?_cons_succ, List.getElem?_cons_zero, Array.getD_eq_getD_getElem?, List.getElem?_toArray, Option.getD_some, and_true] at hO hD; go_simp; rfl)
      simp only [List.nil_append, List.cons_append]
      refine Free.Chain.ex ?_ [(2, 31)] [] (by kernel_rfl) (by kernel_rfl) rfl (KeptR.refl mb rb _) ?_ ?_
      rotate_left
      · (intro ev W hb hR hO hD; have hS := hF W hR; obtain ⟨hb1, hb2, hb3⟩ := hb; simp only [Free.AllDeps, Free.AllOuts, Free.At, List.getElem?_cons_succ, List.getElem?_cons_zero, Array.getD_eq_getD_getElem?, List.getElem?_toArray, Option.getD_some, and_true] at hO hD; go_simp; rfl)
      simp only [List.nil_append, List.cons_append]
      refine Free.Chain.ex ?_ [(3, 32)] [] (by kernel_rfl) (by kernel_rfl) rfl (KeptR.refl mb rb _) ?_ ?_
      rotate_left
      · (intro ev W hb hR hO hD; have hS := hF W hR; obtain ⟨hb1, hb2, hb3⟩ := hb; simp only [Free.AllDeps, Free.AllOuts, Free.At, List.getElem?_cons_succ, List.getElem?_cons_zero, Array.getD_eq_getD_getElem?, List.getElem?_toArray, Option.getD_some, and_true] at hO hD; go_simp; rfl)
      simp only [List.nil_append, List.cons_append]
      refine Free.Chain.ex ?_ [] [0] (by kernel_rfl) (by kernel_rfl) rfl (KeptR.refl mb rb _) ?_ ?_
      rotate_left
      · (intro ev W hb hR hO hD; have hS := hF W hR; obtain ⟨hb1, hb2, hb3⟩ := hb; simp only [Free.AllDeps, Free.AllOuts, Free.At, List.getElem?_cons_succ, List.getElem?_cons_zero, Array.getD_eq_getD_getElem?, List.getElem?_toArray, Option.getD_some, and_true] at hO hD; go_simp; rfl)
      simp only [List.nil_append, List.cons_append]
      refine Free.Chain.ex ?_ [(5, 34)] [] (by kernel_rfl) (by kernel_rfl) rfl (KeptR.refl mb rb _) ?_ ?_
      rotate_left
      · (intro ev W hb hR hO hD; have hS := hF W hR; obtain ⟨hb1, hb2, hb3⟩ := hb; simp only [Free.AllDeps, Free.AllOuts, Free.At, List.getElem?_cons_succ, List.getElem?_cons_zero, Array.getD_eq_getD_getElem?, List.getElem?_toArray, Option.getD_some, and_true] at hO hD; go_simp; rfl)
      simp only [List.nil_append, List.cons_append]
      refine Free.Chain.ex ?_ [(6, 35)] [] (by kernel_rfl) (by kernel_rfl) rfl (KeptR.refl mb rb _) ?_ ?_
      rotate_left
      · (intro ev W hb hR hO hD; have hS := hF W hR; obtain ⟨hb1, hb2, hb3⟩ := hb; simp only [Free.AllDeps, Free.AllOuts, Free.At, List.getElem?_cons_succ, List.getElem?_cons_zero, Array.getD_eq_getD_getElem?, List.getElem?_toArray, Option.getD_some, and_true] at hO hD; go_simp; rfl)
      simp only [List.nil_append, List.cons_append]
      refine Free.Chain.ex ?_ [(7, 36)] [] (by kernel_rfl) (by kernel_rfl) rfl (KeptR.refl mb rb _) ?_ ?_
      rotate_left
      · (intro ev W hb hR hO hD; have hS := hF W hR; obtain ⟨hb1, hb2, hb3⟩ := hb; simp only [Free.AllDeps, Free.AllOuts, Free.At, List.getElem?_cons_succ, List.getElem?_cons_zero, Array.getD_eq_getD_getElem?, List.getElem?_toArray, Option.getD_some, and_true] at hO hD; go_simp; rfl)
      simp only [List.nil_append, List.cons_append]
      refine Free.Chain.ex ?_ [(8, 37)] [] (by kernel_rfl) (by kernel_rfl) rfl (KeptR.refl mb rb _) ?_ ?_
      rotate_left
      · (intro ev W hb hR hO hD; have hS := hF W hR; obtain ⟨hb1, hb2, hb3⟩ := hb; simp only [Free.AllDeps, Free.AllOuts, Free.At, List.getElem?_cons_succ, List.getElem?_cons_zero, Array.getD_eq_getD_getElem?, List.getElem?_toArray, Option.getD_some, and_true] at hO hD; go_simp; rfl)
      simp only [List.nil_append, List.cons_append]
      refine Free.Chain.ex ?_ [] [2] (by kernel_rfl) (by kernel_rfl) rfl (KeptR.refl mb rb _) ?_ ?_
      rotate_left
      · (intro ev W hb hR hO hD; have hS := hF W hR; obtain ⟨hb1, hb2, hb3⟩ := hb; simp only [Free.AllDeps, Free.AllOuts, Free.At, List.getElem?_cons_succ, List.getElem?_cons_zero, Array.getD_eq_getD_getElem?, List.getElem?_toArray, Option.getD_some, and_true] at hO hD; go_simp; rfl)
      simp only [List.nil_append, List.cons_append]
      refine Free.Chain.pr (fun v _ => v = .int .i64 A) [(4, 33), (9, 38), (10, 39)] [] (by kernel_rfl) (by kernel_rfl) rfl (fun _ _ _ _ h => h) ?_ ?_
      · (intro ev W hb hR hO hD; have hS := hF W hR; obtain ⟨hb1, hb2, hb3⟩ := hb; simp only [Free.AllDeps, Free.AllOuts, Free.At, List.getElem?_cons_succ, List.getElem?_cons_zero, Array.getD_eq_getD_getElem?, List.getElem?_toArray, Option.getD_some, and_true] at hO hD; go_simp; refine (hcc.out _ (hC.out _ hR).1).mono ?_; rintro e W1 ⟨rfl, hB1⟩; exact ⟨_, rfl, KeptR.of_kept hB1 HNE.out.1 (hC.out _ hR).2, rfl⟩)
      simp only [List.nil_append, List.cons_append]
      refine Free.Chain.pr (fun v _ => v = .agg #[.int .i64 px, .int .i64 py]) [(0, 29), (11, 40), (11, 40)] [] (by kernel_rfl) (by kernel_rfl) rfl (fun _ _ _ _ h => h) ?_ ?_
      · (intro ev W hb hR hO hD; have hS := hF W hR; obtain ⟨hb1, hb2, hb3⟩ := hb; simp only [Free.AllDeps, Free.AllOuts, Free.At, List.getElem?_cons_succ, List.getElem?_cons_zero, Array.getD_eq_getD_getElem?, List.getElem?_toArray, Option.getD_some, and_true] at hO hD; go_simp; refine (part_int S0 A (by omega) (by have := HA.out; omega) (by omega) (by have := HA.out; omega) _ HP.out _).mono ?_; rintro e W1 ⟨rfl, hB1⟩; exact ⟨_, rfl, KeptR.of_kept (.of_below hB1) HNE.out.1 (hC.out _ hR).2, rfl⟩)
      simp only [List.nil_append, List.cons_append]
      refine Free.Chain.pr (fun _ w => w.cell? ⟨rb, 0, none⟩ = some (.int .i64 px) ∧ w.cell? ⟨rb, 1, none⟩ = some (.int .i64 py)) [(12, 41), (12, 41), (0, 29), (1, 30), (2, 31), (3, 32), (4, 33), (5, 34), (6, 35), (7, 36), (8, 37), (9, 38), (10, 39), (11, 40), (12, 41)] [8] (by kernel_rfl) (by kernel_rfl) rfl (KeptR.stable2) ?_ ?_
      · (intro ev W hb hR hO hD; have hS := hF W hR; obtain ⟨hb1, hb2, hb3⟩ := hb; simp only [Free.AllDeps, Free.AllOuts, Free.At, List.getElem?_cons_succ, List.getElem?_cons_zero, Array.getD_eq_getD_getElem?, List.getElem?_toArray, Option.getD_some, and_true] at hO hD; (obtain ⟨u0, hu0⟩ := Option.isSome_iff_exists.1 hS.2.2.1); (obtain ⟨u1, hu1⟩ := Option.isSome_iff_exists.1 hS.2.2.2.1); go_simp; exact KeptR.store2 HNE.out.1 hu0 hu1)
      simp only [List.nil_append, List.cons_append]
      intro xs w' hR hV
      simp only [Free.AllV, Free.At, List.length_cons, List.length_nil, Nat.reduceAdd, List.getElem?_cons_succ, List.getElem?_cons_zero, true_and] at hV
      simp only [Free.putsFrom, Act.put, hV, List.setIfInBounds_toArray, List.set_cons_succ, List.set_cons_zero]
      go_wp2_with fail
      have hcell := hV.2
      refine bodyPost_ret (v := .agg #[.int .i64 px, .int .i64 py]) ?_ rfl ⟨?_, ?_⟩
      · simp [results, Tryd.results58, go_sem, hcell]
      · rw [HAE.out, HP0.out]
      · exact KeptR.kept ((HK0.out.trans HK.out).drew) hR (Nat.le_of_eq HBB.out)
end Go.Proofs.YtinndhmjojpekaaDoor

/- The chance of at most so many. -/
namespace Go.Proofs.YtinndhmjojpekaaDoor
set_option linter.unusedSimpArgs false
set_option linter.unusedVariables false
open Go.RowKit Go.Proofs.YtinndhmjojpekaaDoor.ML Go.Proofs.YtinndhmjojpekaaDoor.Samp

theorem T.uBool : Tryd.prog.underlying 4 = some .bool := by kernel_rfl
theorem T.uMapB : Tryd.prog.underlying 110 = some (.map 4 3) := by kernel_rfl
theorem T.bools : KeyL Tryd.prog 4 Value.bool := bool_keys T.uBool

/-- 1 of a number that is at most f, else 0. -/
def oneTo (f k : Int) : Int := if k ≤ f then 1 else 0

set_option maxRecDepth 100000 in
set_option maxHeartbeats 1000000 in
theorem most1_any (k f : Int) (b : Nat) (w : World) (h : w.cell? ⟨b, 1, none⟩ = some (.int .i64 f)) :
    Calls Tryd.prog 59 #[.int .i64 k, .pointer (some ⟨b, 0, none⟩)] w fun e w' => e = .returned (.int .i64 (oneTo f k)) ∧ Below w.heap.size w w' := by
  have hmm := @run_makeMap Tryd.prog
  obtain ⟨W1, g1, g2, g3, g4⟩ := (MapIs.made Value.bool w).update T.bools T.uMapB true (.int .i64 1)
  have hlt : b < w.heap.size := lt_of_cell h
  have c1 : W1.cell? ⟨b, 1, none⟩ = some (.int .i64 f) := by
    rw [World.cell?_of_block (w := w.alloc (.map #[] 0)) (g2.block b (by simp; omega) (by intro e; have := Option.some.inj e; omega))]
    exact keepsB ((Below.refl _ w).alloc (Nat.le_refl _) _) h
  have hB := Lib.hid (((Below.refl w.heap.size w).alloc (Nat.le_refl _) (.map #[] 0)).grown g2 (by simp) (by simp))
  have hl := g3.lookup T.bools T.uMapB (T.zInt W1)
  have l1 := hl true
  have l2 := hl false
  simp [assocSet, assoc] at l1 l2
  clear g2 g3 g4 hl h
  by_cases hk : k ≤ f
  · go_enter Tryd.func59, Tryd.ntmps59
    go_wp2_with fail
    go_ret
    exact ⟨by simp [oneTo, hk], hB.out⟩
  · go_enter Tryd.func59, Tryd.ntmps59
    go_wp2_with fail
    go_ret
    exact ⟨by simp [oneTo, hk], hB.out⟩

/-- How many sets have at most so many dirty ones. -/
def mostI (N D o f : Int) : Int := midI N D o (oneTo f) (o + 1).toNat
/-- The chance of at most so many. -/
def mostV (N D o f : Int) : Value := partV (mostI N D o f).toNat (chI N o).toNat

set_option maxRecDepth 100000 in
set_option maxHeartbeats 2000000 in
theorem most_any (hb : Nat) (N lo hi D o f : Int) (mb kb cb : Nat) (w : World) (hH : Hold hb N lo hi mb kb cb w) (hN : N ≤ 36) (h0 : 0 ≤ D) (h1 : D ≤ N) (ho : 0 ≤ o ∧ o ≤ N) :
    Calls Tryd.prog 37 #[.pointer (some ⟨hb, 0, none⟩), .int .i64 D, .agg #[.int .i64 o, .int .i64 f]] w fun e w' => e = .returned (mostV N D o f) ∧ Kept mb w w' := by
  have K0 : Kept mb w ((w.alloc (.cells #[.int .i64 o, .int .i64 f] 49)).alloc (.cells #[.int .i64 0, .int .i64 0] 32)) := ((Kept.refl _ w).alloc _).alloc _
  have c1 : ((w.alloc (.cells #[.int .i64 o, .int .i64 f] 49)).alloc (.cells #[.int .i64 0, .int .i64 0] 32)).cell? ⟨w.heap.size, 1, none⟩ = some (.int .i64 f) := by simp [go_sem]
  have H0 := hH.kept K0
  have hm := Lib.hid (middle_any hb N lo hi D o mb kb cb 59 #[.pointer (some ⟨w.heap.size, 0, none⟩)] (oneTo f) _ H0 hN h0 h1 ho (fun k _ _ => by unfold oneTo; split <;> omega)
    ⟨enters_of Tryd.func59 (by kernel_rfl) rfl, fun W k hW _ _ => (most1_any k f w.heap.size W (hW.cell c1 (H0.ctr.memo.ne c1))).mono fun e W' h => ⟨h.1, .of_below h.2⟩⟩)
  have z0 : ((w.alloc (.cells #[.int .i64 o, .int .i64 f] 49)).alloc (.cells #[.int .i64 0, .int .i64 0] 32)).cell? ⟨w.heap.size + 1, 0, none⟩ = some (.int .i64 0) := by simp [go_sem]
  have z1 : ((w.alloc (.cells #[.int .i64 o, .int .i64 f] 49)).alloc (.cells #[.int .i64 0, .int .i64 0] 32)).cell? ⟨w.heap.size + 1, 1, none⟩ = some (.int .i64 0) := by simp [go_sem]
  have hne := H0.ctr.memo.ne z0
  obtain ⟨px, py, hp⟩ : ∃ px py : Int, partV (midI N D o (oneTo f) (o + 1).toNat).toNat (chI N o).toNat = .agg #[.int .i64 px, .int .i64 py] := ⟨_, _, rfl⟩
  rw [hp] at hm
  have HP : Hid (mostV N D o f = .agg #[.int .i64 px, .int .i64 py]) := hp
  have HZ := Lib.hid (And.intro hne (And.intro z0 z1))
  have HK0 := Lib.hid K0
  clear hp hne z0 z1 K0 H0 c1 hH
  go_enter Tryd.func37, Tryd.ntmps37
  go_wp2_with fail
  refine hm.out.mono ?_
  rintro e W1 ⟨rfl, hK1⟩
  have d0 := hK1.cell HZ.out.2.1 HZ.out.1
  have d1 := hK1.cell HZ.out.2.2 HZ.out.1
  have d2 : W1.frozen? ⟨w.heap.size + 1, 0, none⟩ = false := by
    rw [World.frozen?_of_block (a := ⟨w.heap.size + 1, 0, none⟩) (hK1.block (w.heap.size + 1) (by simp) HZ.out.1)]; simp [go_sem]
  have d3 : W1.frozen? ⟨w.heap.size + 1, 1, none⟩ = false := by
    rw [World.frozen?_of_block (a := ⟨w.heap.size + 1, 1, none⟩) (hK1.block (w.heap.size + 1) (by simp) HZ.out.1)]; simp [go_sem]
  have HK1 := Lib.hid (HK0.out.trans hK1)
  have hne1 := HZ.out.1
  have hst := Lib.hid (KeptR.store2 (mb := mb) (x := .int .i64 px) (y := .int .i64 py) (by simpa using hne1) d0 d1)
  clear hK1 hne1
  generalize hbb : w.heap.size + 1 = rb at *
  have HBB := Lib.hid hbb
  clear hbb
  go_wp2_with fail
  have hcell := hst.out.2
  refine bodyPost_ret (v := .agg #[.int .i64 px, .int .i64 py]) ?_ rfl ⟨?_, ?_⟩
  · simp [results, Tryd.results37, go_sem, hcell]
  · rw [HP.out]
  · exact KeptR.kept HK1.out hst.out.1 (by have := HBB.out; omega)
end Go.Proofs.YtinndhmjojpekaaDoor

/- What package sample answers of chances. -/
namespace Go.Proofs.YtinndhmjojpekaaDoor
set_option linter.unusedSimpArgs false
set_option linter.unusedVariables false
open Go.RowKit Go.Proofs.YtinndhmjojpekaaDoor.ML Go.Proofs.YtinndhmjojpekaaDoor.Samp

/-- Two cells of a block that may be written. -/
structure Two (b : Nat) (x y : Value) (w : World) : Prop where
  c0 : w.cell? ⟨b, 0, none⟩ = some x
  c1 : w.cell? ⟨b, 1, none⟩ = some y
  f0 : w.frozen? ⟨b, 0, none⟩ = false
  f1 : w.frozen? ⟨b, 1, none⟩ = false
theorem Two.keeps {b : Nat} {x y : Value} {w w' : World} (h : Two b x y w) (hB : Below w.heap.size w w') : Two b x y w' :=
  have hlt : b < w.heap.size := lt_of_cell h.c0
  ⟨keepsB hB h.c0, keepsB hB h.c1, (hB.frozen (p := ⟨b, 0, none⟩) hlt).trans h.f0, (hB.frozen (p := ⟨b, 1, none⟩) hlt).trans h.f1⟩
theorem Two.kept {b mb : Nat} {x y : Value} {w w' : World} (h : Two b x y w) (hK : Kept mb w w') (hne : b ≠ mb) : Two b x y w' :=
  have hlt : b < w.heap.size := lt_of_cell h.c0
  have hb := hK.block b hlt hne
  ⟨hK.cell h.c0 hne, hK.cell h.c1 hne, (World.frozen?_of_block (w := w) (a := ⟨b, 0, none⟩) hb).trans h.f0, (World.frozen?_of_block (w := w) (a := ⟨b, 1, none⟩) hb).trans h.f1⟩

theorem results_two {w : World} {b : Nat} {x y : Value} (h : Two b x y w) : True := trivial

theorem chI_pos (N o : Int) (h0 : 0 ≤ N) (hN : N ≤ 36) (h1 : 0 ≤ o) (h2 : o ≤ N) : 1 ≤ chI N o ∧ chI N o ≤ 68719476736 := by
  refine ⟨?_, (chI_bound N o hN).2⟩
  obtain ⟨a, rfl⟩ := Int.eq_ofNat_of_zero_le h1
  obtain ⟨b, rfl⟩ := Int.eq_ofNat_of_zero_le h0
  show 1 ≤ chI ((b : Nat) : Int) ((a : Nat) : Int)
  rw [chI_nat]; have := nCk_pos b a (by omega); omega
def zeroPart : Value := .agg #[.int .i64 0, .int .i64 0]
/-- The error of a draw and a number of dirty bags. -/
def drawnE (N lo hi D o f : Int) : Int := firstE [unlessV (drawB N o f) 11, unlessV (inB lo hi [D]) 2]

set_option maxRecDepth 100000 in
set_option maxHeartbeats 2000000 in
theorem chance_a (N lo hi D o f : Int) (w : World) (hc : cargoB N lo hi = false) :
    Calls Tryd.prog 13 #[.agg #[.int .i64 N, .int .i64 lo, .int .i64 hi], .int .i64 D, .agg #[.int .i64 o, .int .i64 f]] w fun e w' => e = .returned (.tuple #[.agg #[.int .i64 0, .int .i64 0], .int .i64 10]) ∧ Below w.heap.size w w' := by
  have hB0 : Below w.heap.size w (((w.alloc (.cells #[.int .i64 N, .int .i64 lo, .int .i64 hi] 25)).alloc (.cells #[.int .i64 o, .int .i64 f] 49)).alloc (.cells #[.int .i64 0, .int .i64 0] 32)) := (((Below.refl _ w).alloc (Nat.le_refl _) _).alloc (by simp) _).alloc (by simp; omega) _
  have d0 : (((w.alloc (.cells #[.int .i64 N, .int .i64 lo, .int .i64 hi] 25)).alloc (.cells #[.int .i64 o, .int .i64 f] 49)).alloc (.cells #[.int .i64 0, .int .i64 0] 32)).cell? ⟨w.heap.size + 1, 0, none⟩ = some (.int .i64 o) := by simp [go_sem]
  have d1 : (((w.alloc (.cells #[.int .i64 N, .int .i64 lo, .int .i64 hi] 25)).alloc (.cells #[.int .i64 o, .int .i64 f] 49)).alloc (.cells #[.int .i64 0, .int .i64 0] 32)).cell? ⟨w.heap.size + 1, 1, none⟩ = some (.int .i64 f) := by simp [go_sem]
  have hT : Two (w.heap.size + 1 + 1) (.int .i64 0) (.int .i64 0) (((w.alloc (.cells #[.int .i64 N, .int .i64 lo, .int .i64 hi] 25)).alloc (.cells #[.int .i64 o, .int .i64 f] 49)).alloc (.cells #[.int .i64 0, .int .i64 0] 32)) := ⟨by simp [go_sem], by simp [go_sem], by simp [go_sem], by simp [go_sem]⟩
  have HT := Lib.hid (And.intro hT (And.intro d0 d1))
  have HB0 := Lib.hid hB0
  clear hT hB0 d0 d1
  go_enter Tryd.func13, Tryd.ntmps13
  go_wp2_with fail
  generalize (((w.alloc (.cells #[.int .i64 N, .int .i64 lo, .int .i64 hi] 25)).alloc (.cells #[.int .i64 o, .int .i64 f] 49)).alloc (.cells #[.int .i64 0, .int .i64 0] 32)) = W0 at *
  generalize hbb : w.heap.size = bb at *
  have HBB := Lib.hid hbb
  clear hbb
  have hs0 : bb + 1 + 1 < W0.heap.size := lt_of_cell HT.out.1.c0
  refine (begun_bad N lo hi _ hc).mono ?_
  rintro e w1 ⟨rfl, hB1⟩
  have T1 := HT.out.1.keeps hB1
  have HB1 := Lib.hid (HB0.out.trans (hB1.mono (by omega)))
  clear hB1
  have r0 := T1.c0
  have r1 := T1.c1
  have r2 := T1.f0
  have r3 := T1.f1
  obtain ⟨s0, s1⟩ := two_stores (w := w1) (b := bb + 1 + 1) (.int .i64 0) (.int .i64 0) r0 r1
  have hB9 := Lib.hid ((HB1.out.setCell (p := ⟨bb + 1 + 1, 0, none⟩) (by show bb ≤ bb + 1 + 1; omega) (.int .i64 0)).setCell (p := ⟨bb + 1 + 1, 1, none⟩) (by show bb ≤ bb + 1 + 1; omega) (.int .i64 0))
  go_wp2_with fail
  refine bodyPost_ret (v := .tuple #[.agg #[.int .i64 0, .int .i64 0], .int .i64 10]) ?_ rfl ⟨rfl, ?_⟩
  · simp [results, Tryd.results13, go_sem, s0, s1]
  · have hbb := HBB.out
    subst hbb
    exact hB9.out

set_option maxRecDepth 100000 in
set_option maxHeartbeats 2000000 in
theorem chance_b (N lo hi D o f : Int) (w : World) (hc : cargoB N lo hi = true) (x y z : Int) (hx : Hid (unlessV (drawB N o f) 11 = x)) (hy : Hid (unlessV (inB lo hi [D]) 2 = y)) (hz : Hid (firstE [x, y] = z)) (hz0 : (z != 0) = true) :
    Calls Tryd.prog 13 #[.agg #[.int .i64 N, .int .i64 lo, .int .i64 hi], .int .i64 D, .agg #[.int .i64 o, .int .i64 f]] w fun e w' => e = .returned (.tuple #[.agg #[.int .i64 0, .int .i64 0], .int .i64 z]) ∧ Below w.heap.size w w' := by
  have hB0 : Below w.heap.size w (((w.alloc (.cells #[.int .i64 N, .int .i64 lo, .int .i64 hi] 25)).alloc (.cells #[.int .i64 o, .int .i64 f] 49)).alloc (.cells #[.int .i64 0, .int .i64 0] 32)) := (((Below.refl _ w).alloc (Nat.le_refl _) _).alloc (by simp) _).alloc (by simp; omega) _
  have d0 : (((w.alloc (.cells #[.int .i64 N, .int .i64 lo, .int .i64 hi] 25)).alloc (.cells #[.int .i64 o, .int .i64 f] 49)).alloc (.cells #[.int .i64 0, .int .i64 0] 32)).cell? ⟨w.heap.size + 1, 0, none⟩ = some (.int .i64 o) := by simp [go_sem]
  have d1 : (((w.alloc (.cells #[.int .i64 N, .int .i64 lo, .int .i64 hi] 25)).alloc (.cells #[.int .i64 o, .int .i64 f] 49)).alloc (.cells #[.int .i64 0, .int .i64 0] 32)).cell? ⟨w.heap.size + 1, 1, none⟩ = some (.int .i64 f) := by simp [go_sem]
  have hT : Two (w.heap.size + 1 + 1) (.int .i64 0) (.int .i64 0) (((w.alloc (.cells #[.int .i64 N, .int .i64 lo, .int .i64 hi] 25)).alloc (.cells #[.int .i64 o, .int .i64 f] 49)).alloc (.cells #[.int .i64 0, .int .i64 0] 32)) := ⟨by simp [go_sem], by simp [go_sem], by simp [go_sem], by simp [go_sem]⟩
  have HT := Lib.hid (And.intro hT (And.intro d0 d1))
  have HB0 := Lib.hid hB0
  clear hT hB0 d0 d1
  go_enter Tryd.func13, Tryd.ntmps13
  go_wp2_with fail
  generalize (((w.alloc (.cells #[.int .i64 N, .int .i64 lo, .int .i64 hi] 25)).alloc (.cells #[.int .i64 o, .int .i64 f] 49)).alloc (.cells #[.int .i64 0, .int .i64 0] 32)) = W0 at *
  generalize hbb : w.heap.size = bb at *
  have HBB := Lib.hid hbb
  clear hbb
  have hs0 : bb + 1 + 1 < W0.heap.size := lt_of_cell HT.out.1.c0
  refine (begun_ok N lo hi _ hc).mono ?_
  rintro e w1 ⟨hb, mb, kb, cb, rfl, hH, hmb, hhb, hB1⟩
  have HB1 := Lib.hid (HB0.out.trans (hB1.mono (by omega)))
  have HH := Lib.hid (And.intro hH (And.intro hmb hhb))
  have T1 := HT.out.1.keeps hB1
  have e0 := keepsB hB1 HT.out.2.1
  have e1 := keepsB hB1 HT.out.2.2
  have hs1 := hB1.size
  have b0 := hH.bags
  have b1 := hH.lo
  have b2 := hH.hi
  have HT1 := Lib.hid T1
  clear hB1 hH hmb hhb T1
  go_wp2_with fail
  refine (draw_any hb N o f x _ b0 hx.out).mono ?_
  rintro e w2 ⟨rfl, hB2⟩
  have HB2 := Lib.hid (HB1.out.trans (hB2.mono (by omega)))
  have HH2 := Lib.hid (HH.out.1.kept (.of_below hB2))
  have e0 := keepsB hB2 e0
  have e1 := keepsB hB2 e1
  have b1 := keepsB hB2 b1
  have b2 := keepsB hB2 b2
  have HT2 := Lib.hid (HT1.out.keeps hB2)
  have hs2 := hB2.size
  clear hB2 HT1
  go_wp2_with fail
  refine (may_any hb lo hi [D] _ y _ (by simp [maxLen]) (keepsB (belAlloc _ _) b1) (keepsB (belAlloc _ _) b2) (SlI.one _ _ _) hy.out).mono ?_
  rintro e w3 ⟨rfl, hB3⟩
  have hB3 := Below.trans (belAlloc w2 _) (hB3.mono (by simp))
  have HB3 := Lib.hid (HB2.out.trans (hB3.mono (by omega)))
  have HH3 := Lib.hid (HH2.out.kept (.of_below hB3))
  have e0 := keepsB hB3 e0
  have e1 := keepsB hB3 e1
  have HT3 := Lib.hid (HT2.out.keeps hB3)
  have hs3 := hB3.size
  clear hB3 HT2 b0 b1 b2
  go_wp2_with fail
  refine (first_sl [x, y] z _ _ (by simp [maxLen]) hz.out (SlI.two _ _ _ _)).mono ?_
  rintro e w4 ⟨rfl, rfl⟩
  have T1 := HT3.out.keeps (belAlloc w3 (.cells #[.int .i64 x, .int .i64 y] 33))
  have HB1 := Lib.hid (HB3.out.alloc (by omega) (.cells #[.int .i64 x, .int .i64 y] 33))
  have r0 := T1.c0
  have r1 := T1.c1
  have r2 := T1.f0
  have r3 := T1.f1
  obtain ⟨s0, s1⟩ := two_stores (w := w3.alloc (.cells #[.int .i64 x, .int .i64 y] 33)) (b := bb + 1 + 1) (.int .i64 0) (.int .i64 0) r0 r1
  have hB9 := Lib.hid ((HB1.out.setCell (p := ⟨bb + 1 + 1, 0, none⟩) (by show bb ≤ bb + 1 + 1; omega) (.int .i64 0)).setCell (p := ⟨bb + 1 + 1, 1, none⟩) (by show bb ≤ bb + 1 + 1; omega) (.int .i64 0))
  go_wp2_with fail
  refine bodyPost_ret (v := .tuple #[.agg #[.int .i64 0, .int .i64 0], .int .i64 z]) ?_ rfl ⟨rfl, ?_⟩
  · simp [results, Tryd.results13, go_sem, s0, s1]
  · have hbb := HBB.out
    subst hbb
    exact hB9.out

set_option maxRecDepth 100000 in
set_option maxHeartbeats 2000000 in
theorem chance_c (N lo hi D o f : Int) (w : World) (hc : cargoB N lo hi = true) (hd : drawB N o f = true) (hm : inB lo hi [D] = true) :
    Calls Tryd.prog 13 #[.agg #[.int .i64 N, .int .i64 lo, .int .i64 hi], .int .i64 D, .agg #[.int .i64 o, .int .i64 f]] w fun e w' => e = .returned (.tuple #[partV (waysI N D o f).toNat (chI N o).toNat, .int .i64 0]) ∧ Below w.heap.size w w' := by
  have hN := (cargoB_iff N lo hi).1 hc
  have hD := (drawB_iff N o f).1 hd
  have hM : lo ≤ D ∧ D ≤ hi := by simpa [inB] using hm
  have hx : Hid (unlessV (drawB N o f) 11 = 0) := by simp [Hid, unlessV, hd]
  have hy : Hid (unlessV (inB lo hi [D]) 2 = 0) := by simp [Hid, unlessV, hm]
  have hz : Hid (firstE [0, 0] = 0) := by simp [Hid, firstE]
  have hB0 : Below w.heap.size w (((w.alloc (.cells #[.int .i64 N, .int .i64 lo, .int .i64 hi] 25)).alloc (.cells #[.int .i64 o, .int .i64 f] 49)).alloc (.cells #[.int .i64 0, .int .i64 0] 32)) := (((Below.refl _ w).alloc (Nat.le_refl _) _).alloc (by simp) _).alloc (by simp; omega) _
  have d0 : (((w.alloc (.cells #[.int .i64 N, .int .i64 lo, .int .i64 hi] 25)).alloc (.cells #[.int .i64 o, .int .i64 f] 49)).alloc (.cells #[.int .i64 0, .int .i64 0] 32)).cell? ⟨w.heap.size + 1, 0, none⟩ = some (.int .i64 o) := by simp [go_sem]
  have d1 : (((w.alloc (.cells #[.int .i64 N, .int .i64 lo, .int .i64 hi] 25)).alloc (.cells #[.int .i64 o, .int .i64 f] 49)).alloc (.cells #[.int .i64 0, .int .i64 0] 32)).cell? ⟨w.heap.size + 1, 1, none⟩ = some (.int .i64 f) := by simp [go_sem]
  have hT : Two (w.heap.size + 1 + 1) (.int .i64 0) (.int .i64 0) (((w.alloc (.cells #[.int .i64 N, .int .i64 lo, .int .i64 hi] 25)).alloc (.cells #[.int .i64 o, .int .i64 f] 49)).alloc (.cells #[.int .i64 0, .int .i64 0] 32)) := ⟨by simp [go_sem], by simp [go_sem], by simp [go_sem], by simp [go_sem]⟩
  have HT := Lib.hid (And.intro hT (And.intro d0 d1))
  have HB0 := Lib.hid hB0
  clear hT hB0 d0 d1
  go_enter Tryd.func13, Tryd.ntmps13
  go_wp2_with fail
  generalize (((w.alloc (.cells #[.int .i64 N, .int .i64 lo, .int .i64 hi] 25)).alloc (.cells #[.int .i64 o, .int .i64 f] 49)).alloc (.cells #[.int .i64 0, .int .i64 0] 32)) = W0 at *
  generalize hbb : w.heap.size = bb at *
  have HBB := Lib.hid hbb
  clear hbb
  have hs0 : bb + 1 + 1 < W0.heap.size := lt_of_cell HT.out.1.c0
  refine (begun_ok N lo hi _ hc).mono ?_
  rintro e w1 ⟨hb, mb, kb, cb, rfl, hH, hmb, hhb, hB1⟩
  have HB1 := Lib.hid (HB0.out.trans (hB1.mono (by omega)))
  have HH := Lib.hid (And.intro hH (And.intro hmb hhb))
  have T1 := HT.out.1.keeps hB1
  have e0 := keepsB hB1 HT.out.2.1
  have e1 := keepsB hB1 HT.out.2.2
  have hs1 := hB1.size
  have b0 := hH.bags
  have b1 := hH.lo
  have b2 := hH.hi
  have HT1 := Lib.hid T1
  clear hB1 hH hmb hhb T1
  go_wp2_with fail
  refine (draw_any hb N o f 0 _ b0 hx.out).mono ?_
  rintro e w2 ⟨rfl, hB2⟩
  have HB2 := Lib.hid (HB1.out.trans (hB2.mono (by omega)))
  have HH2 := Lib.hid (HH.out.1.kept (.of_below hB2))
  have e0 := keepsB hB2 e0
  have e1 := keepsB hB2 e1
  have b1 := keepsB hB2 b1
  have b2 := keepsB hB2 b2
  have HT2 := Lib.hid (HT1.out.keeps hB2)
  have hs2 := hB2.size
  clear hB2 HT1
  go_wp2_with fail
  refine (may_any hb lo hi [D] _ 0 _ (by simp [maxLen]) (keepsB (belAlloc _ _) b1) (keepsB (belAlloc _ _) b2) (SlI.one _ _ _) hy.out).mono ?_
  rintro e w3 ⟨rfl, hB3⟩
  have hB3 := Below.trans (belAlloc w2 _) (hB3.mono (by simp))
  have HB3 := Lib.hid (HB2.out.trans (hB3.mono (by omega)))
  have HH3 := Lib.hid (HH2.out.kept (.of_below hB3))
  have e0 := keepsB hB3 e0
  have e1 := keepsB hB3 e1
  have HT3 := Lib.hid (HT2.out.keeps hB3)
  have hs3 := hB3.size
  clear hB3 HT2 b0 b1 b2
  go_wp2_with fail
  refine (first_sl [0, 0] 0 _ _ (by simp [maxLen]) hz.out (SlI.two _ _ _ _)).mono ?_
  rintro e w4 ⟨rfl, rfl⟩
  obtain ⟨px, py, hp⟩ : ∃ px py : Int, partV (waysI N D o f).toNat (chI N o).toNat = .agg #[.int .i64 px, .int .i64 py] := ⟨_, _, rfl⟩
  have HP := Lib.hid hp
  clear hp
  have HK4 : Kept mb w3 (w3.alloc (.cells #[.int .i64 0, .int .i64 0] 33)) := (Kept.refl _ _).alloc _
  have HT4 := HT3.out.keeps (belAlloc w3 (.cells #[.int .i64 0, .int .i64 0] 33))
  have HB4 := Lib.hid (HB3.out.alloc (by omega) (.cells #[.int .i64 0, .int .i64 0] 33))
  have HH4 := Lib.hid (HH3.out.kept HK4)
  have e0 := HK4.cell e0 (HH3.out.ctr.memo.ne e0)
  have e1 := HK4.cell e1 (HH3.out.ctr.memo.ne e1)
  have g0 := HH4.out.bags
  have g3 := HH4.out.sets
  have nes : Hid (bb + 1 + 1 ≠ mb ∧ kb ≠ bb + 1 + 1 ∧ cb ≠ bb + 1 + 1 ∧ hb ≠ bb + 1 + 1 ∧ bb + 1 ≠ mb) := by
    have m := HH4.out.ctr.memo
    refine ⟨m.ne HT4.c0, ?_, ?_, ?_, m.ne e0⟩
    · intro e; have := HT4.c0; rw [← e, HH4.out.ctr.known] at this; cases this
    · intro e; have := HT4.c0; rw [← e, HH4.out.ctr.count] at this; cases this
    · have := HH.out.2.2; omega
  have hs4 : bb + 1 + 1 < (w3.alloc (.cells #[.int .i64 0, .int .i64 0] 33)).heap.size := lt_of_cell HT4.c0
  have HT5 := Lib.hid HT4
  clear HK4 HT4
  go_wp2_with fail
  generalize w3.alloc (.cells #[.int .i64 0, .int .i64 0] 33) = W4 at *
  generalize hrb : bb + 1 + 1 = rb at *
  have HRB := Lib.hid hrb
  clear hrb
  have hF : ∀ W, KeptR mb rb [.int .i64 px, .int .i64 py] W4.drew W → W.cell? ⟨bb + 1, 0, none⟩ = some (.int .i64 o) ∧ W.cell? ⟨bb + 1, 1, none⟩ = some (.int .i64 f) ∧ W.cell? ⟨hb, 0, none⟩ = some (.int .i64 N) ∧ W.cell? ⟨hb, 3, none⟩ = some (setsV kb cb) ∧ (W.cell? ⟨rb, 0, none⟩).isSome = true ∧ (W.cell? ⟨rb, 1, none⟩).isSome = true ∧ W.frozen? ⟨rb, 0, none⟩ = false ∧ W.frozen? ⟨rb, 1, none⟩ = false :=
    fun W hW => ⟨hW.cell e0 nes.out.2.2.2.2 (by have := HRB.out; show bb + 1 ≠ rb; omega), hW.cell e1 nes.out.2.2.2.2 (by have := HRB.out; show bb + 1 ≠ rb; omega),
      hW.cell g0 (HH4.out.ctr.memo.ne g0) nes.out.2.2.2.1, hW.cell g3 (HH4.out.ctr.memo.ne g3) nes.out.2.2.2.1,
      hW.there 0 (by simpa using congrArg Option.isSome HT5.out.c0), hW.there 1 (by simpa using congrArg Option.isSome HT5.out.c1), (hW.frozen 0).trans HT5.out.f0, (hW.frozen 1).trans HT5.out.f1⟩
  have hC : Hid (∀ W, KeptR mb rb [.int .i64 px, .int .i64 py] W4.drew W → Hold hb N lo hi mb kb cb W ∧ rb < W.heap.size) := fun W hW =>
    ⟨KeptR.hold (HH4.out.kept (Kept.refl _ _).drew) hW nes.out.2.1 nes.out.2.2.1 nes.out.2.2.2.1, Nat.lt_of_lt_of_le hs4 hW.size⟩
  have hwc : Hid (∀ W, Hold hb N lo hi mb kb cb W → Calls Tryd.prog 29 #[.pointer (some ⟨hb, 0, none⟩), .int .i64 D, .agg #[.int .i64 o, .int .i64 f]] W fun e w' => e = .returned (.int .i64 (waysI N D o f)) ∧ Kept mb W w') :=
    fun W hW => ways_any hb N lo hi D o f mb kb cb W hW (by omega) (by omega) (by omega) (by omega) (by omega)
  have hcc : Hid (∀ W, Ctr mb kb cb W → Calls Tryd.prog 57 #[.int .i64 N, .int .i64 o, .pointer (some ⟨kb, 0, none⟩), .pointer (some ⟨cb, 0, none⟩)] W fun e w' => e = .returned (.int .i64 (chI N o)) ∧ Kept mb W w') :=
    fun W hW => count_call N o mb kb cb W (by omega) hW
  have hways := Lib.hid (waysI_bound N D o f (by omega) (by omega) (by omega))
  have hA : Hid (1 ≤ chI N o ∧ chI N o ≤ 68719476736) := chI_pos N o (by omega) hN.2.1 hD.1 hD.2.1
  generalize hWe : waysI N D o f = WV at *
  generalize hAe : chI N o = A at *
  have HWA := Lib.hid (And.intro hWe hAe)
  clear hWe hAe
  refine Free.wp_free (R := KeptR mb rb [.int .i64 px, .int .i64 py]) (by kernel_rfl) (by kernel_rfl) (KeptR.refl mb rb _) (fun _ _ _ h k => h.trans k) ?_
  refine Free.Chain.ex ?_ [] [8] (by kernel_rfl) (by kernel_rfl) rfl (KeptR.refl mb rb _) ?_ ?_
  rotate_left
  · (intro ev W hb hR hO hD; have hS := hF W hR; obtain ⟨hb1, hb2, hb3⟩ := hb; simp only [Free.AllDeps, Free.AllOuts, Free.At, List.getElem?_cons_succ, List.getElem?_cons_zero, Array.getD_eq_getD_getElem?, List.getElem?_toArray, Option.getD_some, and_true] at hO hD; go_simp; rfl)
  simp only [List.nil_append, List.cons_append]
  refine Free.Chain.ex ?_ [] [1] (by kernel_rfl) (by kernel_rfl) rfl (KeptR.refl mb rb _) ?_ ?_
  rotate_left
  · (intro ev W hb hR hO hD; have hS := hF W hR; obtain ⟨hb1, hb2, hb3⟩ := hb; simp only [Free.AllDeps, Free.AllOuts, Free.At, List.getElem?_cons_succ, List.getElem?_cons_zero, Array.getD_eq_getD_getElem?, List.getElem?_toArray, Option.getD_some, and_true] at hO hD; go_simp; rfl)
  simp only [List.nil_append, List.cons_append]
  refine Free.Chain.ex ?_ [] [5] (by kernel_rfl) (by kernel_rfl) rfl (KeptR.refl mb rb _) ?_ ?_
  rotate_left
  · (intro ev W hb hR hO hD; have hS := hF W hR; obtain ⟨hb1, hb2, hb3⟩ := hb; simp only [Free.AllDeps, Free.AllOuts, Free.At, List.getElem?_cons_succ, List.getElem?_cons_zero, Array.getD_eq_getD_getElem?, List.getElem?_toArray, Option.getD_some, and_true] at hO hD; go_simp; rfl)
  simp only [List.nil_append, List.cons_append]
  refine Free.Chain.pr (fun v _ => v = .int .i64 WV) [(0, 33), (1, 34), (2, 35)] [] (by kernel_rfl) (by kernel_rfl) rfl (fun _ _ _ _ h => h) ?_ ?_
  · (intro ev W hb hR hO hD; have hS := hF W hR; obtain ⟨hb1, hb2, hb3⟩ := hb; simp only [Free.AllDeps, Free.AllOuts, Free.At, List.getElem?_cons_succ, List.getElem?_cons_zero, Array.getD_eq_getD_getElem?, List.getElem?_toArray, Option.getD_some, and_true] at hO hD; go_simp; refine (hwc.out _ (hC.out _ hR).1).mono ?_; rintro e W1 ⟨rfl, hB1⟩; exact ⟨_, rfl, KeptR.of_kept hB1 nes.out.1 (hC.out _ hR).2, rfl⟩)
  simp only [List.nil_append, List.cons_append]
  refine Free.Chain.ex ?_ [] [8] (by kernel_rfl) (by kernel_rfl) rfl (KeptR.refl mb rb _) ?_ ?_
  rotate_left
  · (intro ev W hb hR hO hD; have hS := hF W hR; obtain ⟨hb1, hb2, hb3⟩ := hb; simp only [Free.AllDeps, Free.AllOuts, Free.At, List.getElem?_cons_succ, List.getElem?_cons_zero, Array.getD_eq_getD_getElem?, List.getElem?_toArray, Option.getD_some, and_true] at hO hD; go_simp; rfl)
  simp only [List.nil_append, List.cons_append]
  refine Free.Chain.ex ?_ [(4, 37)] [] (by kernel_rfl) (by kernel_rfl) rfl (KeptR.refl mb rb _) ?_ ?_
  rotate_left
  · (intro ev W hb hR hO hD; have hS := hF W hR; obtain ⟨hb1, hb2, hb3⟩ := hb; simp only [Free.AllDeps, Free.AllOuts, Free.At, List.getElem?_cons_succ, List.getElem?_cons_zero, Array.getD_eq_getD_getElem?, List.getElem?_toArray, Option.getD_some, and_true] at hO hD; go_simp; rfl)
  simp only [List.nil_append, List.cons_append]
  refine Free.Chain.ex ?_ [(5, 38)] [] (by kernel_rfl) (by kernel_rfl) rfl (KeptR.refl mb rb _) ?_ ?_
  rotate_left
  · (intro ev W hb hR hO hD; have hS := hF W hR; obtain ⟨hb1, hb2, hb3⟩ := hb; simp only [Free.AllDeps, Free.AllOuts, Free.At, List.getElem?_cons_succ, List.getElem?_cons_zero, Array.getD_eq_getD_getElem?, List.getElem?_toArray, Option.getD_some, and_true] at hO hD; go_simp; rfl)
  simp only [List.nil_append, List.cons_append]
  refine Free.Chain.ex ?_ [(6, 39)] [] (by kernel_rfl) (by kernel_rfl) rfl (KeptR.refl mb rb _) ?_ ?_
  rotate_left
  · (intro ev W hb hR hO hD; have hS := hF W hR; obtain ⟨hb1, hb2, hb3⟩ := hb; simp only [Free.AllDeps, Free.AllOuts, Free.At, List.getElem?_cons_succ, List.getElem?_cons_zero, Array.getD_eq_getD_getElem?, List.getElem?_toArray, Option.getD_some, and_true] at hO hD; go_simp; rfl)
  simp only [List.nil_append, List.cons_append]
  refine Free.Chain.ex ?_ [] [8] (by kernel_rfl) (by kernel_rfl) rfl (KeptR.refl mb rb _) ?_ ?_
  rotate_left
  · (intro ev W hb hR hO hD; have hS := hF W hR; obtain ⟨hb1, hb2, hb3⟩ := hb; simp only [Free.AllDeps, Free.AllOuts, Free.At, List.getElem?_cons_succ, List.getElem?_cons_zero, Array.getD_eq_getD_getElem?, List.getElem?_toArray, Option.getD_some, and_true] at hO hD; go_simp; rfl)
  simp only [List.nil_append, List.cons_append]
  refine Free.Chain.ex ?_ [(8, 41)] [] (by kernel_rfl) (by kernel_rfl) rfl (KeptR.refl mb rb _) ?_ ?_
  rotate_left
  · (intro ev W hb hR hO hD; have hS := hF W hR; obtain ⟨hb1, hb2, hb3⟩ := hb; simp only [Free.AllDeps, Free.AllOuts, Free.At, List.getElem?_cons_succ, List.getElem?_cons_zero, Array.getD_eq_getD_getElem?, List.getElem?_toArray, Option.getD_some, and_true] at hO hD; go_simp; rfl)
  simp only [List.nil_append, List.cons_append]
  refine Free.Chain.ex ?_ [(9, 42)] [] (by kernel_rfl) (by kernel_rfl) rfl (KeptR.refl mb rb _) ?_ ?_
  rotate_left
  · (intro ev W hb hR hO hD; have hS := hF W hR; obtain ⟨hb1, hb2, hb3⟩ := hb; simp only [Free.AllDeps, Free.AllOuts, Free.At, List.getElem?_cons_succ, List.getElem?_cons_zero, Array.getD_eq_getD_getElem?, List.getElem?_toArray, Option.getD_some, and_true] at hO hD; go_simp; rfl)
  simp only [List.nil_append, List.cons_append]
  refine Free.Chain.ex ?_ [(10, 43)] [] (by kernel_rfl) (by kernel_rfl) rfl (KeptR.refl mb rb _) ?_ ?_
  rotate_left
  · (intro ev W hb hR hO hD; have hS := hF W hR; obtain ⟨hb1, hb2, hb3⟩ := hb; simp only [Free.AllDeps, Free.AllOuts, Free.At, List.getElem?_cons_succ, List.getElem?_cons_zero, Array.getD_eq_getD_getElem?, List.getElem?_toArray, Option.getD_some, and_true] at hO hD; go_simp; rfl)
  simp only [List.nil_append, List.cons_append]
  refine Free.Chain.ex ?_ [(11, 44)] [] (by kernel_rfl) (by kernel_rfl) rfl (KeptR.refl mb rb _) ?_ ?_
  rotate_left
  · (intro ev W hb hR hO hD; have hS := hF W hR; obtain ⟨hb1, hb2, hb3⟩ := hb; simp only [Free.AllDeps, Free.AllOuts, Free.At, List.getElem?_cons_succ, List.getElem?_cons_zero, Array.getD_eq_getD_getElem?, List.getElem?_toArray, Option.getD_some, and_true] at hO hD; go_simp; rfl)
  simp only [List.nil_append, List.cons_append]
  refine Free.Chain.ex ?_ [] [5] (by kernel_rfl) (by kernel_rfl) rfl (KeptR.refl mb rb _) ?_ ?_
  rotate_left
  · (intro ev W hb hR hO hD; have hS := hF W hR; obtain ⟨hb1, hb2, hb3⟩ := hb; simp only [Free.AllDeps, Free.AllOuts, Free.At, List.getElem?_cons_succ, List.getElem?_cons_zero, Array.getD_eq_getD_getElem?, List.getElem?_toArray, Option.getD_some, and_true] at hO hD; go_simp; rfl)
  simp only [List.nil_append, List.cons_append]
  refine Free.Chain.ex ?_ [(13, 46)] [] (by kernel_rfl) (by kernel_rfl) rfl (KeptR.refl mb rb _) ?_ ?_
  rotate_left
  · (intro ev W hb hR hO hD; have hS := hF W hR; obtain ⟨hb1, hb2, hb3⟩ := hb; simp only [Free.AllDeps, Free.AllOuts, Free.At, List.getElem?_cons_succ, List.getElem?_cons_zero, Array.getD_eq_getD_getElem?, List.getElem?_toArray, Option.getD_some, and_true] at hO hD; go_simp; rfl)
  simp only [List.nil_append, List.cons_append]
  refine Free.Chain.pr (fun v _ => v = .int .i64 A) [(7, 40), (12, 45), (14, 47), (3, 36)] [] (by kernel_rfl) (by kernel_rfl) rfl (fun _ _ _ _ h => h) ?_ ?_
  · (intro ev W hb hR hO hD; have hS := hF W hR; obtain ⟨hb1, hb2, hb3⟩ := hb; simp only [Free.AllDeps, Free.AllOuts, Free.At, List.getElem?_cons_succ, List.getElem?_cons_zero, Array.getD_eq_getD_getElem?, List.getElem?_toArray, Option.getD_some, and_true] at hO hD; go_simp; refine (hcc.out _ (hC.out _ hR).1.ctr).mono ?_; rintro e W1 ⟨rfl, hB1⟩; exact ⟨_, rfl, KeptR.of_kept hB1 nes.out.1 (hC.out _ hR).2, rfl⟩)
  simp only [List.nil_append, List.cons_append]
  refine Free.Chain.pr (fun v _ => v = .agg #[.int .i64 px, .int .i64 py]) [(3, 36), (15, 48), (15, 48)] [] (by kernel_rfl) (by kernel_rfl) rfl (fun _ _ _ _ h => h) ?_ ?_
  · (intro ev W hb hR hO hD; have hS := hF W hR; obtain ⟨hb1, hb2, hb3⟩ := hb; simp only [Free.AllDeps, Free.AllOuts, Free.At, List.getElem?_cons_succ, List.getElem?_cons_zero, Array.getD_eq_getD_getElem?, List.getElem?_toArray, Option.getD_some, and_true] at hO hD; go_simp; refine (part_int WV A hways.out.1 (by have := hA.out; omega) (by have := hways.out; omega) (by have := hA.out; omega) _ HP.out _).mono ?_; rintro e W1 ⟨rfl, hB1⟩; exact ⟨_, rfl, KeptR.of_kept (.of_below hB1) nes.out.1 (hC.out _ hR).2, rfl⟩)
  simp only [List.nil_append, List.cons_append]
  refine Free.Chain.pr (fun _ w => w.cell? ⟨rb, 0, none⟩ = some (.int .i64 px) ∧ w.cell? ⟨rb, 1, none⟩ = some (.int .i64 py)) [(16, 49), (16, 49), (0, 33), (1, 34), (2, 35), (3, 36), (4, 37), (5, 38), (6, 39), (7, 40), (8, 41), (9, 42), (10, 43), (11, 44), (12, 45), (13, 46), (14, 47), (15, 48), (16, 49)] [6] (by kernel_rfl) (by kernel_rfl) rfl (KeptR.stable2) ?_ ?_
  · (intro ev W hb hR hO hD; have hS := hF W hR; obtain ⟨hb1, hb2, hb3⟩ := hb; simp only [Free.AllDeps, Free.AllOuts, Free.At, List.getElem?_cons_succ, List.getElem?_cons_zero, Array.getD_eq_getD_getElem?, List.getElem?_toArray, Option.getD_some, and_true] at hO hD; (obtain ⟨u0, hu0⟩ := Option.isSome_iff_exists.1 (show (W.cell? ⟨rb, 0, none⟩).isSome = true by simp [hS])); (obtain ⟨u1, hu1⟩ := Option.isSome_iff_exists.1 (show (W.cell? ⟨rb, 1, none⟩).isSome = true by simp [hS])); go_simp; exact KeptR.store2 nes.out.1 hu0 hu1)
  simp only [List.nil_append, List.cons_append]
  refine Free.Chain.ex ?_ [(0, 33), (1, 34), (2, 35), (3, 36), (4, 37), (5, 38), (6, 39), (7, 40), (8, 41), (9, 42), (10, 43), (11, 44), (12, 45), (13, 46), (14, 47), (15, 48), (16, 49)] [] (by kernel_rfl) (by kernel_rfl) rfl (KeptR.refl mb rb _) ?_ ?_
  rotate_left
  · (intro ev W hb hR hO hD; have hS := hF W hR; obtain ⟨hb1, hb2, hb3⟩ := hb; simp only [Free.AllDeps, Free.AllOuts, Free.At, List.getElem?_cons_succ, List.getElem?_cons_zero, Array.getD_eq_getD_getElem?, List.getElem?_toArray, Option.getD_some, and_true] at hO hD; go_simp; rfl)
  simp only [List.nil_append, List.cons_append]
  intro xs w' hR hV
  simp only [Free.AllV, Free.At, List.length_cons, List.length_nil, Nat.reduceAdd, List.getElem?_cons_succ, List.getElem?_cons_zero, true_and] at hV
  simp only [Free.putsFrom, Act.put, hV, List.setIfInBounds_toArray, List.set_cons_succ, List.set_cons_zero]
  go_wp2_with fail
  have hcell := hV.1.2
  refine bodyPost_ret (v := .tuple #[.agg #[.int .i64 px, .int .i64 py], .int .i64 0]) ?_ rfl ⟨?_, ?_⟩
  · simp [results, Tryd.results13, go_sem, hcell]
  · rw [HWA.out.1, HWA.out.2, HP.out]
  · have hbb := HBB.out
    subst hbb
    have hsz := HB4.out.size
    exact ⟨hR.os.trans HB4.out.os, hR.tape.trans HB4.out.tape, hR.output.trans HB4.out.output, Nat.le_trans HB4.out.size hR.size, fun k hk => (hR.block k (Nat.lt_of_lt_of_le hk hsz) (by have := HH.out.2.1; have := HRB.out; omega) (by have := HRB.out; omega)).trans (HB4.out.block k hk)⟩

theorem chance_any (N lo hi D o f : Int) (w : World) :
    Calls Tryd.prog 13 #[.agg #[.int .i64 N, .int .i64 lo, .int .i64 hi], .int .i64 D, .agg #[.int .i64 o, .int .i64 f]] w fun e w' => e = .returned (.tuple (if cargoB N lo hi = false then #[zeroPart, .int .i64 10] else if drawnE N lo hi D o f ≠ 0 then #[zeroPart, .int .i64 (drawnE N lo hi D o f)] else #[partV (waysI N D o f).toNat (chI N o).toNat, .int .i64 0])) ∧ Below w.heap.size w w' := by
  cases hc : cargoB N lo hi
  · simpa [zeroPart] using chance_a N lo hi D o f w hc
  · by_cases hz : drawnE N lo hi D o f = 0
    · have hd : drawB N o f = true := by
        cases h : drawB N o f
        · simp [drawnE, h, unlessV, firstE] at hz
        · rfl
      have hm : inB lo hi [D] = true := by
        cases h : inB lo hi [D]
        · simp [drawnE, hd, h, unlessV, firstE] at hz
        · rfl
      simpa [hz] using chance_c N lo hi D o f w hc hd hm
    · rw [if_neg (by simp), if_pos hz]
      exact chance_b N lo hi D o f w hc _ _ _ rfl rfl rfl (by show (drawnE N lo hi D o f != 0) = true; simpa using hz)

set_option maxRecDepth 100000 in
set_option maxHeartbeats 2000000 in
theorem atmost_a (N lo hi D o f : Int) (w : World) (hc : cargoB N lo hi = false) :
    Calls Tryd.prog 15 #[.agg #[.int .i64 N, .int .i64 lo, .int .i64 hi], .int .i64 D, .agg #[.int .i64 o, .int .i64 f]] w fun e w' => e = .returned (.tuple #[.agg #[.int .i64 0, .int .i64 0], .int .i64 10]) ∧ Below w.heap.size w w' := by
  have hB0 : Below w.heap.size w (((w.alloc (.cells #[.int .i64 N, .int .i64 lo, .int .i64 hi] 25)).alloc (.cells #[.int .i64 o, .int .i64 f] 49)).alloc (.cells #[.int .i64 0, .int .i64 0] 32)) := (((Below.refl _ w).alloc (Nat.le_refl _) _).alloc (by simp) _).alloc (by simp; omega) _
  have d0 : (((w.alloc (.cells #[.int .i64 N, .int .i64 lo, .int .i64 hi] 25)).alloc (.cells #[.int .i64 o, .int .i64 f] 49)).alloc (.cells #[.int .i64 0, .int .i64 0] 32)).cell? ⟨w.heap.size + 1, 0, none⟩ = some (.int .i64 o) := by simp [go_sem]
  have d1 : (((w.alloc (.cells #[.int .i64 N, .int .i64 lo, .int .i64 hi] 25)).alloc (.cells #[.int .i64 o, .int .i64 f] 49)).alloc (.cells #[.int .i64 0, .int .i64 0] 32)).cell? ⟨w.heap.size + 1, 1, none⟩ = some (.int .i64 f) := by simp [go_sem]
  have hT : Two (w.heap.size + 1 + 1) (.int .i64 0) (.int .i64 0) (((w.alloc (.cells #[.int .i64 N, .int .i64 lo, .int .i64 hi] 25)).alloc (.cells #[.int .i64 o, .int .i64 f] 49)).alloc (.cells #[.int .i64 0, .int .i64 0] 32)) := ⟨by simp [go_sem], by simp [go_sem], by simp [go_sem], by simp [go_sem]⟩
  have HT := Lib.hid (And.intro hT (And.intro d0 d1))
  have HB0 := Lib.hid hB0
  clear hT hB0 d0 d1
  go_enter Tryd.func15, Tryd.ntmps15
  go_wp2_with fail
  generalize (((w.alloc (.cells #[.int .i64 N, .int .i64 lo, .int .i64 hi] 25)).alloc (.cells #[.int .i64 o, .int .i64 f] 49)).alloc (.cells #[.int .i64 0, .int .i64 0] 32)) = W0 at *
  generalize hbb : w.heap.size = bb at *
  have HBB := Lib.hid hbb
  clear hbb
  have hs0 : bb + 1 + 1 < W0.heap.size := lt_of_cell HT.out.1.c0
  refine (begun_bad N lo hi _ hc).mono ?_
  rintro e w1 ⟨rfl, hB1⟩
  have T1 := HT.out.1.keeps hB1
  have HB1 := Lib.hid (HB0.out.trans (hB1.mono (by omega)))
  clear hB1
  have r0 := T1.c0
  have r1 := T1.c1
  have r2 := T1.f0
  have r3 := T1.f1
  obtain ⟨s0, s1⟩ := two_stores (w := w1) (b := bb + 1 + 1) (.int .i64 0) (.int .i64 0) r0 r1
  have hB9 := Lib.hid ((HB1.out.setCell (p := ⟨bb + 1 + 1, 0, none⟩) (by show bb ≤ bb + 1 + 1; omega) (.int .i64 0)).setCell (p := ⟨bb + 1 + 1, 1, none⟩) (by show bb ≤ bb + 1 + 1; omega) (.int .i64 0))
  go_wp2_with fail
  refine bodyPost_ret (v := .tuple #[.agg #[.int .i64 0, .int .i64 0], .int .i64 10]) ?_ rfl ⟨rfl, ?_⟩
  · simp [results, Tryd.results15, go_sem, s0, s1]
  · have hbb := HBB.out
    subst hbb
    exact hB9.out

set_option maxRecDepth 100000 in
set_option maxHeartbeats 2000000 in
theorem atmost_b (N lo hi D o f : Int) (w : World) (hc : cargoB N lo hi = true) (x y z : Int) (hx : Hid (unlessV (drawB N o f) 11 = x)) (hy : Hid (unlessV (inB lo hi [D]) 2 = y)) (hz : Hid (firstE [x, y] = z)) (hz0 : (z != 0) = true) :
    Calls Tryd.prog 15 #[.agg #[.int .i64 N, .int .i64 lo, .int .i64 hi], .int .i64 D, .agg #[.int .i64 o, .int .i64 f]] w fun e w' => e = .returned (.tuple #[.agg #[.int .i64 0, .int .i64 0], .int .i64 z]) ∧ Below w.heap.size w w' := by
  have hB0 : Below w.heap.size w (((w.alloc (.cells #[.int .i64 N, .int .i64 lo, .int .i64 hi] 25)).alloc (.cells #[.int .i64 o, .int .i64 f] 49)).alloc (.cells #[.int .i64 0, .int .i64 0] 32)) := (((Below.refl _ w).alloc (Nat.le_refl _) _).alloc (by simp) _).alloc (by simp; omega) _
  have d0 : (((w.alloc (.cells #[.int .i64 N, .int .i64 lo, .int .i64 hi] 25)).alloc (.cells #[.int .i64 o, .int .i64 f] 49)).alloc (.cells #[.int .i64 0, .int .i64 0] 32)).cell? ⟨w.heap.size + 1, 0, none⟩ = some (.int .i64 o) := by simp [go_sem]
  have d1 : (((w.alloc (.cells #[.int .i64 N, .int .i64 lo, .int .i64 hi] 25)).alloc (.cells #[.int .i64 o, .int .i64 f] 49)).alloc (.cells #[.int .i64 0, .int .i64 0] 32)).cell? ⟨w.heap.size + 1, 1, none⟩ = some (.int .i64 f) := by simp [go_sem]
  have hT : Two (w.heap.size + 1 + 1) (.int .i64 0) (.int .i64 0) (((w.alloc (.cells #[.int .i64 N, .int .i64 lo, .int .i64 hi] 25)).alloc (.cells #[.int .i64 o, .int .i64 f] 49)).alloc (.cells #[.int .i64 0, .int .i64 0] 32)) := ⟨by simp [go_sem], by simp [go_sem], by simp [go_sem], by simp [go_sem]⟩
  have HT := Lib.hid (And.intro hT (And.intro d0 d1))
  have HB0 := Lib.hid hB0
  clear hT hB0 d0 d1
  go_enter Tryd.func15, Tryd.ntmps15
  go_wp2_with fail
  generalize (((w.alloc (.cells #[.int .i64 N, .int .i64 lo, .int .i64 hi] 25)).alloc (.cells #[.int .i64 o, .int .i64 f] 49)).alloc (.cells #[.int .i64 0, .int .i64 0] 32)) = W0 at *
  generalize hbb : w.heap.size = bb at *
  have HBB := Lib.hid hbb
  clear hbb
  have hs0 : bb + 1 + 1 < W0.heap.size := lt_of_cell HT.out.1.c0
  refine (begun_ok N lo hi _ hc).mono ?_
  rintro e w1 ⟨hb, mb, kb, cb, rfl, hH, hmb, hhb, hB1⟩
  have HB1 := Lib.hid (HB0.out.trans (hB1.mono (by omega)))
  have HH := Lib.hid (And.intro hH (And.intro hmb hhb))
  have T1 := HT.out.1.keeps hB1
  have e0 := keepsB hB1 HT.out.2.1
  have e1 := keepsB hB1 HT.out.2.2
  have hs1 := hB1.size
  have b0 := hH.bags
  have b1 := hH.lo
  have b2 := hH.hi
  have HT1 := Lib.hid T1
  clear hB1 hH hmb hhb T1
  go_wp2_with fail
  refine (draw_any hb N o f x _ b0 hx.out).mono ?_
  rintro e w2 ⟨rfl, hB2⟩
  have HB2 := Lib.hid (HB1.out.trans (hB2.mono (by omega)))
  have HH2 := Lib.hid (HH.out.1.kept (.of_below hB2))
  have e0 := keepsB hB2 e0
  have e1 := keepsB hB2 e1
  have b1 := keepsB hB2 b1
  have b2 := keepsB hB2 b2
  have HT2 := Lib.hid (HT1.out.keeps hB2)
  have hs2 := hB2.size
  clear hB2 HT1
  go_wp2_with fail
  refine (may_any hb lo hi [D] _ y _ (by simp [maxLen]) (keepsB (belAlloc _ _) b1) (keepsB (belAlloc _ _) b2) (SlI.one _ _ _) hy.out).mono ?_
  rintro e w3 ⟨rfl, hB3⟩
  have hB3 := Below.trans (belAlloc w2 _) (hB3.mono (by simp))
  have HB3 := Lib.hid (HB2.out.trans (hB3.mono (by omega)))
  have HH3 := Lib.hid (HH2.out.kept (.of_below hB3))
  have e0 := keepsB hB3 e0
  have e1 := keepsB hB3 e1
  have HT3 := Lib.hid (HT2.out.keeps hB3)
  have hs3 := hB3.size
  clear hB3 HT2 b0 b1 b2
  go_wp2_with fail
  refine (first_sl [x, y] z _ _ (by simp [maxLen]) hz.out (SlI.two _ _ _ _)).mono ?_
  rintro e w4 ⟨rfl, rfl⟩
  have T1 := HT3.out.keeps (belAlloc w3 (.cells #[.int .i64 x, .int .i64 y] 33))
  have HB1 := Lib.hid (HB3.out.alloc (by omega) (.cells #[.int .i64 x, .int .i64 y] 33))
  have r0 := T1.c0
  have r1 := T1.c1
  have r2 := T1.f0
  have r3 := T1.f1
  obtain ⟨s0, s1⟩ := two_stores (w := w3.alloc (.cells #[.int .i64 x, .int .i64 y] 33)) (b := bb + 1 + 1) (.int .i64 0) (.int .i64 0) r0 r1
  have hB9 := Lib.hid ((HB1.out.setCell (p := ⟨bb + 1 + 1, 0, none⟩) (by show bb ≤ bb + 1 + 1; omega) (.int .i64 0)).setCell (p := ⟨bb + 1 + 1, 1, none⟩) (by show bb ≤ bb + 1 + 1; omega) (.int .i64 0))
  go_wp2_with fail
  refine bodyPost_ret (v := .tuple #[.agg #[.int .i64 0, .int .i64 0], .int .i64 z]) ?_ rfl ⟨rfl, ?_⟩
  · simp [results, Tryd.results15, go_sem, s0, s1]
  · have hbb := HBB.out
    subst hbb
    exact hB9.out

set_option maxRecDepth 100000 in
set_option maxHeartbeats 2000000 in
theorem atmost_c (N lo hi D o f : Int) (w : World) (hc : cargoB N lo hi = true) (hd : drawB N o f = true) (hm : inB lo hi [D] = true) :
    Calls Tryd.prog 15 #[.agg #[.int .i64 N, .int .i64 lo, .int .i64 hi], .int .i64 D, .agg #[.int .i64 o, .int .i64 f]] w fun e w' => e = .returned (.tuple #[mostV N D o f, .int .i64 0]) ∧ Below w.heap.size w w' := by
  have hN := (cargoB_iff N lo hi).1 hc
  have hD := (drawB_iff N o f).1 hd
  have hM : lo ≤ D ∧ D ≤ hi := by simpa [inB] using hm
  have hx : Hid (unlessV (drawB N o f) 11 = 0) := by simp [Hid, unlessV, hd]
  have hy : Hid (unlessV (inB lo hi [D]) 2 = 0) := by simp [Hid, unlessV, hm]
  have hz : Hid (firstE [0, 0] = 0) := by simp [Hid, firstE]
  have hB0 : Below w.heap.size w (((w.alloc (.cells #[.int .i64 N, .int .i64 lo, .int .i64 hi] 25)).alloc (.cells #[.int .i64 o, .int .i64 f] 49)).alloc (.cells #[.int .i64 0, .int .i64 0] 32)) := (((Below.refl _ w).alloc (Nat.le_refl _) _).alloc (by simp) _).alloc (by simp; omega) _
  have d0 : (((w.alloc (.cells #[.int .i64 N, .int .i64 lo, .int .i64 hi] 25)).alloc (.cells #[.int .i64 o, .int .i64 f] 49)).alloc (.cells #[.int .i64 0, .int .i64 0] 32)).cell? ⟨w.heap.size + 1, 0, none⟩ = some (.int .i64 o) := by simp [go_sem]
  have d1 : (((w.alloc (.cells #[.int .i64 N, .int .i64 lo, .int .i64 hi] 25)).alloc (.cells #[.int .i64 o, .int .i64 f] 49)).alloc (.cells #[.int .i64 0, .int .i64 0] 32)).cell? ⟨w.heap.size + 1, 1, none⟩ = some (.int .i64 f) := by simp [go_sem]
  have hT : Two (w.heap.size + 1 + 1) (.int .i64 0) (.int .i64 0) (((w.alloc (.cells #[.int .i64 N, .int .i64 lo, .int .i64 hi] 25)).alloc (.cells #[.int .i64 o, .int .i64 f] 49)).alloc (.cells #[.int .i64 0, .int .i64 0] 32)) := ⟨by simp [go_sem], by simp [go_sem], by simp [go_sem], by simp [go_sem]⟩
  have HT := Lib.hid (And.intro hT (And.intro d0 d1))
  have HB0 := Lib.hid hB0
  clear hT hB0 d0 d1
  go_enter Tryd.func15, Tryd.ntmps15
  go_wp2_with fail
  generalize (((w.alloc (.cells #[.int .i64 N, .int .i64 lo, .int .i64 hi] 25)).alloc (.cells #[.int .i64 o, .int .i64 f] 49)).alloc (.cells #[.int .i64 0, .int .i64 0] 32)) = W0 at *
  generalize hbb : w.heap.size = bb at *
  have HBB := Lib.hid hbb
  clear hbb
  have hs0 : bb + 1 + 1 < W0.heap.size := lt_of_cell HT.out.1.c0
  refine (begun_ok N lo hi _ hc).mono ?_
  rintro e w1 ⟨hb, mb, kb, cb, rfl, hH, hmb, hhb, hB1⟩
  have HB1 := Lib.hid (HB0.out.trans (hB1.mono (by omega)))
  have HH := Lib.hid (And.intro hH (And.intro hmb hhb))
  have T1 := HT.out.1.keeps hB1
  have e0 := keepsB hB1 HT.out.2.1
  have e1 := keepsB hB1 HT.out.2.2
  have hs1 := hB1.size
  have b0 := hH.bags
  have b1 := hH.lo
  have b2 := hH.hi
  have HT1 := Lib.hid T1
  clear hB1 hH hmb hhb T1
  go_wp2_with fail
  refine (draw_any hb N o f 0 _ b0 hx.out).mono ?_
  rintro e w2 ⟨rfl, hB2⟩
  have HB2 := Lib.hid (HB1.out.trans (hB2.mono (by omega)))
  have HH2 := Lib.hid (HH.out.1.kept (.of_below hB2))
  have e0 := keepsB hB2 e0
  have e1 := keepsB hB2 e1
  have b1 := keepsB hB2 b1
  have b2 := keepsB hB2 b2
  have HT2 := Lib.hid (HT1.out.keeps hB2)
  have hs2 := hB2.size
  clear hB2 HT1
  go_wp2_with fail
  refine (may_any hb lo hi [D] _ 0 _ (by simp [maxLen]) (keepsB (belAlloc _ _) b1) (keepsB (belAlloc _ _) b2) (SlI.one _ _ _) hy.out).mono ?_
  rintro e w3 ⟨rfl, hB3⟩
  have hB3 := Below.trans (belAlloc w2 _) (hB3.mono (by simp))
  have HB3 := Lib.hid (HB2.out.trans (hB3.mono (by omega)))
  have HH3 := Lib.hid (HH2.out.kept (.of_below hB3))
  have e0 := keepsB hB3 e0
  have e1 := keepsB hB3 e1
  have HT3 := Lib.hid (HT2.out.keeps hB3)
  have hs3 := hB3.size
  clear hB3 HT2 b0 b1 b2
  go_wp2_with fail
  refine (first_sl [0, 0] 0 _ _ (by simp [maxLen]) hz.out (SlI.two _ _ _ _)).mono ?_
  rintro e w4 ⟨rfl, rfl⟩
  obtain ⟨px, py, hp⟩ : ∃ px py : Int, mostV N D o f = .agg #[.int .i64 px, .int .i64 py] := ⟨_, _, rfl⟩
  have HP := Lib.hid hp
  clear hp
  have HK4 : Kept mb w3 (w3.alloc (.cells #[.int .i64 0, .int .i64 0] 33)) := (Kept.refl _ _).alloc _
  have HT4 := HT3.out.keeps (belAlloc w3 (.cells #[.int .i64 0, .int .i64 0] 33))
  have HB4 := Lib.hid (HB3.out.alloc (by omega) (.cells #[.int .i64 0, .int .i64 0] 33))
  have HH4 := Lib.hid (HH3.out.kept HK4)
  have e0 := HK4.cell e0 (HH3.out.ctr.memo.ne e0)
  have e1 := HK4.cell e1 (HH3.out.ctr.memo.ne e1)
  have g0 := HH4.out.bags
  have g3 := HH4.out.sets
  have nes : Hid (bb + 1 + 1 ≠ mb ∧ kb ≠ bb + 1 + 1 ∧ cb ≠ bb + 1 + 1 ∧ hb ≠ bb + 1 + 1 ∧ bb + 1 ≠ mb) := by
    have m := HH4.out.ctr.memo
    refine ⟨m.ne HT4.c0, ?_, ?_, ?_, m.ne e0⟩
    · intro e; have := HT4.c0; rw [← e, HH4.out.ctr.known] at this; cases this
    · intro e; have := HT4.c0; rw [← e, HH4.out.ctr.count] at this; cases this
    · have := HH.out.2.2; omega
  have hs4 : bb + 1 + 1 < (w3.alloc (.cells #[.int .i64 0, .int .i64 0] 33)).heap.size := lt_of_cell HT4.c0
  have HT5 := Lib.hid HT4
  clear HK4 HT4
  go_wp2_with fail
  have hmost : Hid (Calls Tryd.prog 37 #[.pointer (some ⟨hb, 0, none⟩), .int .i64 D, .agg #[.int .i64 o, .int .i64 f]] (w3.alloc (.cells #[.int .i64 0, .int .i64 0] 33)) fun e w' => e = .returned (.agg #[.int .i64 px, .int .i64 py]) ∧ Kept mb (w3.alloc (.cells #[.int .i64 0, .int .i64 0] 33)) w') := by
    have := most_any hb N lo hi D o f mb kb cb _ HH4.out (by omega) (by omega) (by omega) (by omega)
    rw [HP.out] at this
    exact this
  refine hmost.out.mono ?_
  rintro e w5 ⟨rfl, hK5⟩
  have T5 := HT5.out.kept hK5 nes.out.1
  have r0 := T5.c0
  have r1 := T5.c1
  have r2 := T5.f0
  have r3 := T5.f1
  have hst := Lib.hid (KeptR.store2 (mb := mb) (x := .int .i64 px) (y := .int .i64 py) nes.out.1 r0 r1)
  have HK5 := Lib.hid hK5
  clear hK5
  go_wp2_with fail
  have hcell := hst.out.2
  refine bodyPost_ret (v := .tuple #[.agg #[.int .i64 px, .int .i64 py], .int .i64 0]) ?_ rfl ⟨?_, ?_⟩
  · simp [results, Tryd.results15, go_sem, hcell]
  · rw [HP.out]
  · have hbb := HBB.out
    subst hbb
    have hR := hst.out.1
    have hsz := HB4.out.size
    have hsz5 := HK5.out.size
    have hm := HH.out.2.1
    exact ⟨hR.os.trans (HK5.out.os.trans HB4.out.os), hR.tape.trans (HK5.out.tape.trans HB4.out.tape), hR.output.trans (HK5.out.output.trans HB4.out.output), by have := hR.size; omega, fun k hk => (hR.block k (by omega) (by omega) (by omega)).trans ((HK5.out.block k (by omega) (by omega)).trans (HB4.out.block k hk))⟩

theorem atmost_any (N lo hi D o f : Int) (w : World) :
    Calls Tryd.prog 15 #[.agg #[.int .i64 N, .int .i64 lo, .int .i64 hi], .int .i64 D, .agg #[.int .i64 o, .int .i64 f]] w fun e w' => e = .returned (.tuple (if cargoB N lo hi = false then #[zeroPart, .int .i64 10] else if drawnE N lo hi D o f ≠ 0 then #[zeroPart, .int .i64 (drawnE N lo hi D o f)] else #[mostV N D o f, .int .i64 0])) ∧ Below w.heap.size w w' := by
  cases hc : cargoB N lo hi
  · simpa [zeroPart] using atmost_a N lo hi D o f w hc
  · by_cases hz : drawnE N lo hi D o f = 0
    · have hd : drawB N o f = true := by
        cases h : drawB N o f
        · simp [drawnE, h, unlessV, firstE] at hz
        · rfl
      have hm : inB lo hi [D] = true := by
        cases h : inB lo hi [D]
        · simp [drawnE, hd, h, unlessV, firstE] at hz
        · rfl
      simpa [hz] using atmost_c N lo hi D o f w hc hd hm
    · rw [if_neg (by simp), if_pos hz]
      exact atmost_b N lo hi D o f w hc _ _ _ rfl rfl rfl (by show (drawnE N lo hi D o f != 0) = true; simpa using hz)

/-- Whether two numbers are those of things and of sets of them. -/
def nkB (n k : Int) : Bool := inB 0 36 [n] && inB 0 n [k]
theorem nkB_iff (n k : Int) : nkB n k = true ↔ 0 ≤ n ∧ n ≤ 36 ∧ 0 ≤ k ∧ k ≤ n := by
  simp [nkB, inB]; omega
set_option maxRecDepth 100000 in
set_option maxHeartbeats 2000000 in
theorem ways2_bad (n k : Int) (w : World) (h : nkB n k = false) :
    Calls Tryd.prog 12 #[.int .i64 n, .int .i64 k] w fun e w' => e = .returned (.tuple #[.int .i64 0, .int .i64 2]) ∧ Below w.heap.size w w' := by
  cases h1 : inB 0 36 [n]
  · go_enter Tryd.func12, Tryd.ntmps12
    go_wp2_with fail
    refine (in_sl _ _ [n] false _ _ (by simp [maxLen]) h1 (SlI.one _ _ _)).mono ?_
    rintro e w1 ⟨rfl, hB1⟩
    have HB1 := Lib.hid (Below.trans (belAlloc w _) (hB1.mono (by simp)))
    clear hB1
    go_wp2_with fail
    go_ret2
    exact ⟨rfl, HB1.out⟩
  · have h2 : inB 0 n [k] = false := by simpa [nkB, h1] using h
    go_enter Tryd.func12, Tryd.ntmps12
    go_wp2_with fail
    refine (in_sl _ _ [n] true _ _ (by simp [maxLen]) h1 (SlI.one _ _ _)).mono ?_
    rintro e w1 ⟨rfl, hB1⟩
    have HB1 := Lib.hid (Below.trans (belAlloc w _) (hB1.mono (by simp)))
    have hs1 := HB1.out.size
    clear hB1
    go_wp2_with fail
    refine (in_sl _ _ [k] false _ _ (by simp [maxLen]) h2 (SlI.one _ _ _)).mono ?_
    rintro e w2 ⟨rfl, hB2⟩
    have HB2 := Lib.hid (HB1.out.trans ((Below.trans (belAlloc w1 _) (hB2.mono (by simp))).mono hs1))
    clear hB2
    go_wp2_with fail
    go_ret2
    exact ⟨rfl, HB2.out⟩
set_option maxRecDepth 100000 in
set_option maxHeartbeats 2000000 in
theorem ways2_ok (n k : Int) (w : World) (h : nkB n k = true) :
    Calls Tryd.prog 12 #[.int .i64 n, .int .i64 k] w fun e w' => e = .returned (.tuple #[.int .i64 (chI n k), .int .i64 0]) ∧ Below w.heap.size w w' := by
  have hn := (nkB_iff n k).1 h
  simp only [nkB, Bool.and_eq_true] at h
  obtain ⟨h1, h2⟩ := h
  have H1 := Lib.hid h1
  have H2 := Lib.hid h2
  clear h1 h2
  go_enter Tryd.func12, Tryd.ntmps12
  go_wp2_with fail
  refine (in_sl _ _ [n] true _ _ (by simp [maxLen]) H1.out (SlI.one _ _ _)).mono ?_
  rintro e w1 ⟨rfl, hB1⟩
  have HB1 := Lib.hid (Below.trans (belAlloc w _) (hB1.mono (by simp)))
  have hs1 := HB1.out.size
  clear hB1
  go_wp2_with fail
  refine (in_sl _ _ [k] true _ _ (by simp [maxLen]) H2.out (SlI.one _ _ _)).mono ?_
  rintro e w2 ⟨rfl, hB2⟩
  have HB2 := Lib.hid (HB1.out.trans ((Below.trans (belAlloc w1 _) (hB2.mono (by simp))).mono hs1))
  have hs2 := HB2.out.size
  clear hB2
  go_wp2_with fail
  refine (counter_any _).mono ?_
  rintro e w3 ⟨mb, kb, cb, rfl, hC, hmb, hB3⟩
  have HB3 := Lib.hid (HB2.out.trans (hB3.mono hs2))
  have HC := Lib.hid hC
  have HM := Lib.hid hmb
  clear hB3 hC hmb
  go_wp2_with fail
  refine (count_call n k mb kb cb _ (by omega) HC.out).mono ?_
  rintro e w4 ⟨rfl, hK⟩
  have HB4 := Lib.hid (Kept.below HB3.out hK (by have := HM.out; omega))
  clear hK
  go_wp2_with fail
  go_ret2
  exact ⟨rfl, HB4.out⟩
end Go.Proofs.YtinndhmjojpekaaDoor

/- The reference of layer 1: numbers. -/
namespace Go.Proofs.YtinndhmjojpekaaDoor
set_option linter.unusedSimpArgs false
set_option linter.unusedVariables false
open Go.RowKit Go.Proofs.YtinndhmjojpekaaDoor.ML Go.Proofs.YtinndhmjojpekaaDoor.Samp

theorem within_any (n lo hi : Int) (r : Bool) (w : World) (hr : inB lo hi [n] = r) :
    Calls Tryd.prog 26 #[.int .i64 n, .int .i64 lo, .int .i64 hi] w fun e w' => e = .returned (.bool r) ∧ w = w' := by
  subst hr
  by_cases h1 : lo ≤ n
  · by_cases h2 : n ≤ hi
    all_goals
      go_enter Tryd.func26, Tryd.ntmps26
      go_wp2
      go_ret
      simp [inB, h1, h2]
  · go_enter Tryd.func26, Tryd.ntmps26
    go_wp2
    go_ret
    simp [inB, h1]
    intro h; omega

theorem chI_div (m i : Int) (hm : 0 ≤ m) (hi : 1 ≤ i) : chI (m + i - 1) (i - 1) * (m + i) / i = chI (m + i) i := by
  obtain ⟨a, rfl⟩ := Int.eq_ofNat_of_zero_le hm
  obtain ⟨j, rfl⟩ : ∃ j : Nat, i = (j + 1 : Nat) := ⟨(i - 1).toNat, by omega⟩
  show chI (((a : Nat) : Int) + ((j + 1 : Nat) : Int) - 1) (((j + 1 : Nat) : Int) - 1) * (((a : Nat) : Int) + ((j + 1 : Nat) : Int)) / ((j + 1 : Nat) : Int) = chI (((a : Nat) : Int) + ((j + 1 : Nat) : Int)) ((j + 1 : Nat) : Int)
  rw [show ((a : Nat) : Int) + ((j + 1 : Nat) : Int) - 1 = ((a + j : Nat) : Int) by omega, show ((j + 1 : Nat) : Int) - 1 = (j : Nat) by omega,
    show ((a : Nat) : Int) + ((j + 1 : Nat) : Int) = ((a + j + 1 : Nat) : Int) by omega, chI_nat, chI_nat]
  have := nCk_step a j
  rw [← this]
  simp

/-- The sum of the ways of 0 .. n - 1 found ones. -/
def fewI (N D o : Int) (n : Nat) : Int := midI N D o (fun _ => 1) n
theorem fewI_succ (N D o : Int) (n : Nat) : fewI N D o (n + 1) = fewI N D o n + waysI N D o n := by simp [fewI, midI]
theorem fewI_bound (N D o : Int) (hN : N ≤ 36) (h0 : 0 ≤ D) (h1 : D ≤ N) (n : Nat) : 0 ≤ fewI N D o n ∧ fewI N D o n ≤ n * 68719476736 := by
  induction n with
  | zero => simp [fewI, midI]
  | succ n ih => have := waysI_bound N D o n hN h0 h1; rw [fewI_succ]; omega
theorem mostI_few (N D o f : Int) (hf : 0 ≤ f) (hfo : f ≤ o) : mostI N D o f = fewI N D o (f + 1).toNat := by
  have key : ∀ n : Nat, midI N D o (oneTo f) n = fewI N D o (min n (f + 1).toNat) := by
    intro n
    induction n with
    | zero => simp [fewI, midI]
    | succ n ih =>
      rw [midI, ih]
      by_cases h : (n : Int) ≤ f
      · rw [show min (n + 1) (f + 1).toNat = n + 1 by omega, show min n (f + 1).toNat = n by omega, fewI_succ]
        simp [oneTo, h]
      · rw [show min (n + 1) (f + 1).toNat = (f + 1).toNat by omega, show min n (f + 1).toNat = (f + 1).toNat by omega]
        simp [oneTo, h]
  rw [mostI, key, show min (o + 1).toNat (f + 1).toNat = (f + 1).toNat by omega]

end Go.Proofs.YtinndhmjojpekaaDoor

/- Double rules: what is summed, and its bounds. No function of the program is walked here. -/
namespace Go.Proofs.YtinndhmjojpekaaDoor
set_option linter.unusedSimpArgs false
set_option linter.unusedVariables false
open Go.RowKit Go.Proofs.YtinndhmjojpekaaDoor.ML Go.Proofs.YtinndhmjojpekaaDoor.Samp

theorem nCk_three : ∀ n a : Nat, a ≤ n → nCk n a * 2 ^ (n - a) ≤ 3 ^ n
  | n, 0, _ => by rw [nCk_zero, Nat.one_mul, Nat.sub_zero]; exact Nat.pow_le_pow_left (by omega) n
  | 0, a + 1, h => by omega
  | n + 1, a + 1, h => by
    have h1 := nCk_three n a (by omega)
    rw [nCk_succ, Nat.add_sub_add_right, Nat.add_mul, Nat.pow_succ]
    by_cases h2 : a + 1 ≤ n
    · have h3 := nCk_three n (a + 1) h2
      have h4 : 2 ^ (n - a) = 2 ^ (n - (a + 1)) * 2 := by rw [← Nat.pow_succ]; congr 1; omega
      have h5 : nCk n (a + 1) * 2 ^ (n - a) = nCk n (a + 1) * 2 ^ (n - (a + 1)) * 2 := by rw [h4, Nat.mul_assoc]
      omega
    · rw [nCk_gt n (a + 1) (by omega)]
      omega
theorem chI_three (N F S : Int) (hN : N ≤ 36) (h0 : 0 ≤ F) (h1 : F ≤ N) : chI N F * chI (N - F) S ≤ 150094635296999121 := by
  obtain ⟨n, rfl⟩ := Int.eq_ofNat_of_zero_le (Int.le_trans h0 h1)
  obtain ⟨a, rfl⟩ := Int.eq_ofNat_of_zero_le h0
  obtain ⟨b0, b1⟩ := chI_pow ((n : Int) - a) S (by omega)
  have e : ((n : Int) - a).toNat = n - a := by omega
  rw [e] at b1
  have h3 := nCk_three n a (by omega)
  have h4 : (3 : Nat) ^ n ≤ 3 ^ 36 := Nat.pow_le_pow_right (by omega) (by omega)
  have h5 : (3 : Nat) ^ 36 = 150094635296999121 := by decide
  have h6 : chI (n : Int) (a : Int) = (nCk n a : Nat) := chI_nat n a
  rw [h6]
  have h7 : ((nCk n a : Nat) : Int) * chI ((n : Int) - a) S ≤ ((nCk n a : Nat) : Int) * ((2 ^ (n - a) : Nat) : Int) := Int.mul_le_mul_of_nonneg_left b1 (by omega)
  have h8 : ((nCk n a : Nat) : Int) * ((2 ^ (n - a) : Nat) : Int) = ((nCk n a * 2 ^ (n - a) : Nat) : Int) := by simp
  omega
theorem chI_ne (n k : Int) (h : chI n k ≠ 0) : k = 0 ∨ (0 ≤ k ∧ k ≤ n) := by
  unfold chI at h
  split at h
  · exact .inl ‹_›
  · split at h
    · exact absurd rfl h
    · exact .inr (by omega)
theorem ways_ne (N D F : Int) (k : Nat) (h0 : 0 ≤ D) (h1 : D ≤ N) (h : waysI N D F k ≠ 0) : (k : Int) ≤ D ∧ (k : Int) ≤ F ∧ F - k ≤ N - D := by
  unfold waysI at h
  have ha : chI D k ≠ 0 := fun e => h (by rw [e, Int.zero_mul])
  have hb : chI (N - D) (F - k) ≠ 0 := fun e => h (by rw [e, Int.mul_zero])
  rcases chI_ne _ _ ha with a | a <;> rcases chI_ne _ _ hb with b | b <;> omega
theorem waysI_cut (N D o : Int) (k : Nat) (h : o < k) : waysI N D o k = 0 := by
  unfold waysI
  rw [chI_out (N - D) (o - k) (by omega) (by omega), Int.mul_zero]
theorem fewI_cut (N D o : Int) : ∀ n : Nat, fewI N D o n = fewI N D o (min n (o + 1).toNat)
  | 0 => by simp
  | n + 1 => by
    rw [fewI_succ, fewI_cut N D o n]
    by_cases h : (n : Int) ≤ o
    · rw [show min (n + 1) (o + 1).toNat = n + 1 by omega, show min n (o + 1).toNat = n by omega, fewI_succ]
    · rw [show min (n + 1) (o + 1).toNat = (o + 1).toNat by omega, show min n (o + 1).toNat = (o + 1).toNat by omega, waysI_cut N D o n (by omega)]
      omega
theorem waysI_natT (N D o k : Nat) (hD : D ≤ N) (hk : k ≤ o) : waysI N D o k = (Samp.ways D (N - D) o k : Nat) := by
  unfold waysI Samp.ways
  rw [if_pos hk, show ((N : Int) - D) = ((N - D : Nat) : Int) by omega, show ((o : Int) - k) = ((o - k : Nat) : Int) by omega, chI_nat, chI_nat]
  simp
theorem fewI_nat (N D o : Nat) (hD : D ≤ N) : ∀ n : Nat, n ≤ o + 1 → fewI N D o n = (sumTo (Samp.ways D (N - D) o) n : Nat)
  | 0, _ => by simp [fewI, midI, sumTo]
  | n + 1, h => by
    rw [fewI_succ, fewI_nat N D o hD n (by omega), waysI_natT N D o n hD (by omega)]
    simp [sumTo]
/-- Together they are all sets. -/
theorem fewI_all (N D o : Int) (h0 : 0 ≤ D) (h1 : D ≤ N) (ho : 0 ≤ o) : fewI N D o (o + 1).toNat = chI N o := by
  obtain ⟨n, rfl⟩ := Int.eq_ofNat_of_zero_le (Int.le_trans h0 h1)
  obtain ⟨d, rfl⟩ := Int.eq_ofNat_of_zero_le h0
  obtain ⟨p, rfl⟩ := Int.eq_ofNat_of_zero_le ho
  have := fewI_nat n d p (by omega) (p + 1) (Nat.le_refl _)
  show fewI (n : Int) (d : Int) (p : Int) _ = chI (n : Int) (p : Int)
  rw [show ((p : Int) + 1).toNat = p + 1 by omega, this, ways_all, chI_nat, show d + (n - d) = n by omega]
theorem waysI_nonneg (N D o f : Int) (h0 : 0 ≤ D) (h1 : D ≤ N) : 0 ≤ waysI N D o f :=
  Int.mul_nonneg (chI_pow D f h0).1 (chI_pow (N - D) (o - f) (by omega)).1
theorem fewI_mono (N D o : Int) (h0 : 0 ≤ D) (h1 : D ≤ N) (m : Nat) : ∀ n : Nat, m ≤ n → fewI N D o m ≤ fewI N D o n
  | 0, h => by obtain rfl : m = 0 := by omega
               exact Int.le_refl _
  | n + 1, h => by
    by_cases e : m = n + 1
    · rw [e]; exact Int.le_refl _
    · have := fewI_mono N D o h0 h1 m n (by omega)
      have := waysI_nonneg N D o n h0 h1
      rw [fewI_succ]; omega
theorem fewI_le (N D o : Int) (h0 : 0 ≤ D) (h1 : D ≤ N) (ho : 0 ≤ o) (n : Nat) : 0 ≤ fewI N D o n ∧ fewI N D o n ≤ chI N o := by
  refine ⟨?_, ?_⟩
  · have := fewI_mono N D o h0 h1 0 n (Nat.zero_le _)
    simpa [fewI, midI] using this
  · rw [fewI_cut, ← fewI_all N D o h0 h1 ho]
    exact fewI_mono N D o h0 h1 _ _ (by omega)

/-- What the second bags add to the sets of the first, if k were found. -/
def restI (N D F A S T : Int) (k : Nat) : Int := if (k : Int) ≤ A then chI (N - F) S else fewI (N - F) (D - k) S (min S (T - k) + 1).toNat
def accI (N D F A S T : Int) : Nat → Int
  | 0 => 0
  | k + 1 => accI N D F A S T k + waysI N D F k * restI N D F A S T k
def againI (N D F A : Int) : Nat → Int
  | 0 => 0
  | k + 1 => againI N D F A k + if (k : Int) ≤ A then 0 else waysI N D F k
theorem restI_bound (N D F A S T : Int) (k : Nat) (h0 : 0 ≤ D) (h1 : D ≤ N) (hF : 0 ≤ F) (hF2 : F ≤ N) (hS : 0 ≤ S) (h : waysI N D F k ≠ 0) : 0 ≤ restI N D F A S T k ∧ restI N D F A S T k ≤ chI (N - F) S := by
  obtain ⟨a, b, c⟩ := ways_ne N D F k h0 h1 h
  unfold restI
  split
  · have := (chI_pow (N - F) S (by omega)).1; omega
  · exact fewI_le (N - F) (D - k) S (by omega) (by omega) hS _
theorem accI_step (N D F A S T : Int) (k : Nat) (h0 : 0 ≤ D) (h1 : D ≤ N) (hF : 0 ≤ F) (hF2 : F ≤ N) (hS : 0 ≤ S) : 0 ≤ waysI N D F k * restI N D F A S T k ∧ waysI N D F k * restI N D F A S T k ≤ waysI N D F k * chI (N - F) S := by
  by_cases h : waysI N D F k = 0
  · rw [h]; simp
  · obtain ⟨a, b⟩ := restI_bound N D F A S T k h0 h1 hF hF2 hS h
    have hw := waysI_nonneg N D F k h0 h1
    exact ⟨Int.mul_nonneg hw a, Int.mul_le_mul_of_nonneg_left b hw⟩
theorem accI_le (N D F A S T : Int) (h0 : 0 ≤ D) (h1 : D ≤ N) (hF : 0 ≤ F) (hF2 : F ≤ N) (hS : 0 ≤ S) : ∀ k : Nat, 0 ≤ accI N D F A S T k ∧ accI N D F A S T k ≤ fewI N D F k * chI (N - F) S
  | 0 => by simp [accI, fewI, midI]
  | k + 1 => by
    obtain ⟨a, b⟩ := accI_le N D F A S T h0 h1 hF hF2 hS k
    obtain ⟨c, d⟩ := accI_step N D F A S T k h0 h1 hF hF2 hS
    rw [accI, fewI_succ, Int.add_mul]
    omega
theorem againI_le (N D F A : Int) (h0 : 0 ≤ D) (h1 : D ≤ N) : ∀ k : Nat, 0 ≤ againI N D F A k ∧ againI N D F A k ≤ fewI N D F k
  | 0 => by simp [againI, fewI, midI]
  | k + 1 => by
    obtain ⟨a, b⟩ := againI_le N D F A h0 h1 k
    have := waysI_nonneg N D F k h0 h1
    rw [againI, fewI_succ]
    split <;> omega
/-- All bounds that the sums want. -/
theorem accI_bound (N D F A S T : Int) (hN : N ≤ 36) (h0 : 0 ≤ D) (h1 : D ≤ N) (hF : 0 ≤ F) (hF2 : F ≤ N) (hS : 0 ≤ S) (k : Nat) :
    0 ≤ accI N D F A S T k ∧ accI N D F A S T k ≤ 150094635296999121 := by
  obtain ⟨a, b⟩ := accI_le N D F A S T h0 h1 hF hF2 hS k
  have h2 := (fewI_le N D F h0 h1 hF k).2
  have h3 := chI_three N F S hN hF hF2
  have h4 : fewI N D F k * chI (N - F) S ≤ chI N F * chI (N - F) S := Int.mul_le_mul_of_nonneg_right h2 (chI_pow (N - F) S (by omega)).1
  omega
theorem againI_bound (N D F A : Int) (hN : N ≤ 36) (h0 : 0 ≤ D) (h1 : D ≤ N) (hF : 0 ≤ F) (k : Nat) : 0 ≤ againI N D F A k ∧ againI N D F A k ≤ 68719476736 := by
  obtain ⟨a, b⟩ := againI_le N D F A h0 h1 k
  have h2 := (fewI_le N D F h0 h1 hF k).2
  have h3 := (chI_bound N F hN).2
  omega
/-- Within a round: one of the second bags' ways more. -/
theorem inner_bound (N D F A S T : Int) (hN : N ≤ 36) (h0 : 0 ≤ D) (h1 : D ≤ N) (hF : 0 ≤ F) (hF2 : F ≤ N) (hS : 0 ≤ S) (k : Nat) (h : waysI N D F k ≠ 0) (m : Nat) :
    0 ≤ accI N D F A S T k + waysI N D F k * fewI (N - F) (D - k) S m ∧ accI N D F A S T k + waysI N D F k * fewI (N - F) (D - k) S m ≤ 150094635296999121 := by
  obtain ⟨a, b⟩ := accI_le N D F A S T h0 h1 hF hF2 hS k
  obtain ⟨x, y, z⟩ := ways_ne N D F k h0 h1 h
  obtain ⟨c, d⟩ := fewI_le (N - F) (D - k) S (by omega) (by omega) hS m
  have hw := waysI_nonneg N D F k h0 h1
  have e1 := Int.mul_nonneg hw c
  have e2 := Int.mul_le_mul_of_nonneg_left d hw
  have e3 : fewI N D F k * chI (N - F) S + waysI N D F k * chI (N - F) S = fewI N D F (k + 1) * chI (N - F) S := by rw [fewI_succ, Int.add_mul]
  have h2 := (fewI_le N D F h0 h1 hF (k + 1)).2
  have h3 := chI_three N F S hN hF hF2
  have h4 : fewI N D F (k + 1) * chI (N - F) S ≤ chI N F * chI (N - F) S := Int.mul_le_mul_of_nonneg_right h2 (chI_pow (N - F) S (by omega)).1
  omega
theorem accI_skip (N D F A S T : Int) (k : Nat) (h : waysI N D F k = 0) : accI N D F A S T (k + 1) = accI N D F A S T k ∧ againI N D F A (k + 1) = againI N D F A k := by
  simp [accI, againI, h]
/-- What a double rule does: the first chance. -/
def twiceV1 (N D F A R S T : Int) : Value := partV (accI N D F A S T R.toNat).toNat (chI N F * chI (N - F) S).toNat
/-- .. and how many it opens in the middle. -/
def twiceV2 (N D F A R S : Int) : Value := partV (F * chI N F + S * againI N D F A R.toNat).toNat (chI N F).toNat
end Go.Proofs.YtinndhmjojpekaaDoor

/- A region that draws its order, in which besides the values something holds that ties several of them to the memory: J. No function of the program here. -/
set_option linter.unusedSimpArgs false
set_option linter.unusedVariables false
namespace Go.Proofs.YtinndhmjojpekaaDoor.Free2
open Go Free

abbrev XT := Nat → Option Value
abbrev JT := XT → World → Prop
/-- What the operations have yielded, and one more. -/
def upd (X : XT) (i : Nat) (v : Value) : XT := fun j => if j = i then some v else X j
theorem upd_same (X : XT) (i : Nat) (v : Value) : upd X i v i = some v := by simp [upd]
theorem upd_other (X : XT) {i j : Nat} (v : Value) (h : j ≠ i) : upd X i v j = X j := by simp [upd, h]
def AllX (X : XT) (ev : Operand → Value) : List (Nat × Tmp) → Prop
  | [] => True
  | p :: r => X p.1 = some (ev (.tmp p.2)) ∧ AllX X ev r
theorem AllX.of {X : XT} {ev : Operand → Value} : ∀ {l : List (Nat × Tmp)}, (∀ p ∈ l, X p.1 = some (ev (.tmp p.2))) → AllX X ev l
  | [], _ => trivial
  | p :: r, h => ⟨h p (by simp), AllX.of fun q hq => h q (by simp [hq])⟩

/-- Whether each operation that writes this slot waits for operation i. -/
def later (ops : Array Oper) (i : Nat) (t : Tmp) : Bool :=
  (List.range ops.size).all fun j => match ops[j]? with
    | some o => !(o.dst == some t) || o.after.any fun e => Region.binds .any e && e.on == i
    | none => true
/-- The slots that operation i looks at and that no operation writes ahead of it. -/
def outs2 (ops : Array Oper) (i : Nat) (o : Oper) : List Tmp := (o.looksAt ops).filter fun t => later ops i t
def wfB2 (ops : Array Oper) (n : Nat) : Bool :=
  (List.range ops.size).all fun i =>
    match ops[i]? with
    | none => false
    | some o =>
      (o.after.all fun e => !Region.binds .any e || decide (e.on < i)) &&
      (match o.dst with
        | none => true
        | some d => decide (d < n) && (List.range ops.size).all fun j => j == i || ((ops[j]?).bind (·.dst)) != some d)
theorem wf_spec2 {ops : Array Oper} {n : Nat} (hwf : wfB2 ops n = true) {i : Nat} {o : Oper} (ho : ops[i]? = some o) :
    (∀ e ∈ o.after, Region.binds .any e = true → e.on < i) ∧
    (∀ d, o.dst = some d → d < n ∧ ∀ j o', ops[j]? = some o' → o'.dst = some d → j = i) := by
  have hi : i < ops.size := (Array.getElem?_eq_some_iff.1 ho).1
  have h := List.all_eq_true.1 hwf i (List.mem_range.2 hi)
  simp only [ho, Bool.and_eq_true] at h
  obtain ⟨h1, h3⟩ := h
  refine ⟨fun e he hb => ?_, fun d hd => ?_⟩
  · have := Array.all_eq_true_iff_forall_mem.1 h1 e he
    simpa [hb] using this
  · simp only [hd, Bool.and_eq_true, decide_eq_true_eq] at h3
    refine ⟨h3.1, fun j o' hj hd' => ?_⟩
    have hjl : j < ops.size := (Array.getElem?_eq_some_iff.1 hj).1
    have := List.all_eq_true.1 h3.2 j (List.mem_range.2 hjl)
    simpa [hj, hd'] using this
theorem later_spec {ops : Array Oper} {i : Nat} {t : Tmp} (h : later ops i t = true) {j : Nat} {o : Oper} (ho : ops[j]? = some o) (hd : o.dst = some t) : ∃ e ∈ o.after, Region.binds .any e = true ∧ e.on = i := by
  have hj : j < ops.size := (Array.getElem?_eq_some_iff.1 ho).1
  have := List.all_eq_true.1 h j (List.mem_range.2 hj)
  simp only [ho, hd, beq_self_eq_true, Bool.not_true, Bool.false_or] at this
  rw [Array.any_eq_true] at this
  obtain ⟨k, hk, hb⟩ := this
  simp only [Bool.and_eq_true, beq_iff_eq] at hb
  exact ⟨_, Array.getElem_mem hk, hb.1, hb.2⟩

def OpOk (P : Program) (R : World → World → Prop) (J : JT) (w0 : World) (a0 : Act) (ops : Array Oper) (i : Nat) (o : Oper) (Vs : List VT) (V : VT) : Prop :=
  ∀ ev w X, Base ev → R w0 w → AllOuts a0 ev (outs2 ops i o) → AllDeps Vs ev w (deps ops o) → J X w → X i = none → AllX X ev (deps ops o) →
    (wantedEv ops o ev = true → Free.Yields P (fun v w' => R w w' ∧ V v w' ∧ J (upd X i v) w') ((execOp ev o).run P w)) ∧ (wantedEv ops o ev = false → V undef w ∧ J (upd X i undef) w)

def Chain (P : Program) (R : World → World → Prop) (J : JT) (w0 : World) (a0 : Act) (ops : Array Oper) (Fin : List VT → Prop) : List Oper → List VT → Prop
  | [], Vs => Fin Vs
  | o :: rest, Vs => ∃ V, Stable R V ∧ OpOk P R J w0 a0 ops Vs.length o Vs V ∧ Chain P R J w0 a0 ops Fin rest (Vs ++ [V])

section
variable {P : Program} {R : World → World → Prop} {J : JT} {w0 : World} {a0 : Act} {ops : Array Oper} {Fin : List VT → Prop}
/-- What the chain gives: a list of what holds of every value. -/
theorem Chain.all : ∀ (rest : List Oper) (Vs : List VT), Chain P R J w0 a0 ops Fin rest Vs →
    (∀ V ∈ Vs, Stable R V) → (∃ Us, Fin (Vs ++ Us) ∧ Us.length = rest.length ∧ (∀ V ∈ Vs ++ Us, Stable R V) ∧
      ∀ i o, rest[i]? = some o → ∃ V, (Vs ++ Us)[Vs.length + i]? = some V ∧ OpOk P R J w0 a0 ops (Vs.length + i) o ((Vs ++ Us).take (Vs.length + i)) V)
  | [], Vs, h, hs => ⟨[], by simpa [Chain] using h, rfl, by simpa using hs, by simp⟩
  | o :: rest, Vs, ⟨V, h1, h2, h3⟩, hs => by
    obtain ⟨Us, g1, g2, g3, g4⟩ := Chain.all rest (Vs ++ [V]) h3 (by
      intro U hU
      rcases List.mem_append.1 hU with hU | hU
      · exact hs U hU
      · simp at hU; subst hU; exact h1)
    refine ⟨V :: Us, by simpa using g1, by simp [g2], by simpa using g3, ?_⟩
    intro i o' hi
    cases i with
    | zero =>
      simp at hi
      subst hi
      refine ⟨V, by simp, ?_⟩
      have : (Vs ++ V :: Us).take (Vs.length + 0) = Vs := by simp
      rw [this]
      simpa using h2
    | succ i =>
      have := g4 i o' (by simpa using hi)
      simp only [List.length_append, List.length_singleton, List.append_assoc, List.singleton_append] at this
      rw [show Vs.length + (i + 1) = Vs.length + 1 + i by omega]
      exact this

structure Inv (R : World → World → Prop) (J : JT) (w0 : World) (a0 : Act) (ops : Array Oper) (Vs : List VT) (X : XT) (listed : Array Bool) (a : Act) (w : World) : Prop where
  hd : a.defers = a0.defers
  hsz : a.tmps.size = a0.tmps.size
  hls : listed.size = ops.size
  hR : R w0 w
  hJ : J X w
  hX : ∀ i, i < ops.size → (listed.getD i true = true ↔ ∃ v, X i = some v)
  hout : ∀ t, (∀ (i : Nat) o, ops[i]? = some o → o.dst = some t → listed.getD i true = false) → a.tmps.getD t undef = a0.tmps.getD t undef
  hcl : ∀ (i : Nat) o, ops[i]? = some o → listed.getD i true = true → ∀ e ∈ o.after, Region.binds .any e = true → listed.getD e.on true = true
  hval : ∀ (i : Nat) o v, ops[i]? = some o → X i = some v → At Vs i v w ∧ ∀ d, o.dst = some d → a.tmps.getD d undef = v
def InvE (R : World → World → Prop) (J : JT) (w0 : World) (a0 : Act) (ops : Array Oper) (Vs : List VT) (listed : Array Bool) (a : Act) (w : World) : Prop := ∃ X, Inv R J w0 a0 ops Vs X listed a w

theorem Inv.step {Vs : List VT} {X : XT} {Q : Exit → Act → World → Prop} (hwf : wfB2 ops a0.tmps.size = true) (hre : ∀ a, R a a) (htr : ∀ a b c, R a b → R b c → R a c)
    (hst : ∀ V ∈ Vs, Stable R V) (hob : ∀ (i : Nat) o, ops[i]? = some o → ∃ V, Vs[i]? = some V ∧ OpOk P R J w0 a0 ops i o (Vs.take i) V)
    {listed : Array Bool} {a : Act} {w : World} (h : Inv R J w0 a0 ops Vs X listed a w) {i : Nat} (hi : i ∈ Region.ready .any ops listed) :
    wpOp P ops Q i (InvE R J w0 a0 ops Vs (listed.setIfInBounds i true)) a w := by
  obtain ⟨hun, o, ho, hall⟩ := mem_ready.1 hi
  have hil : i < ops.size := (Array.getElem?_eq_some_iff.1 ho).1
  obtain ⟨hb, hdst⟩ := wf_spec2 hwf ho
  obtain ⟨V, hV, hok⟩ := hob i o ho
  have hXi : X i = none := by
    cases hx : X i with
    | none => rfl
    | some v => have := (h.hX i hil).2 ⟨v, hx⟩; rw [hun] at this; cases this
  have houts : AllOuts a0 a.eval (outs2 ops i o) := AllOuts.of fun t ht => by
    simp only [outs2, List.mem_filter] at ht
    refine h.hout t fun j o' hj hd => ?_
    obtain ⟨e, he, hbe, hei⟩ := later_spec ht.2 hj hd
    cases hl : listed.getD j true with
    | false => rfl
    | true =>
      have := h.hcl j o' hj hl e he hbe
      rw [hei] at this
      rw [hun] at this
      cases this
  have hmem : ∀ p ∈ deps ops o, p.1 < i ∧ ∃ o', ops[p.1]? = some o' ∧ o'.dst = some p.2 ∧ ∃ v, X p.1 = some v := by
    intro p hp
    simp only [deps, List.mem_filterMap] at hp
    obtain ⟨e, he, hp⟩ := hp
    by_cases hbe : Region.binds .any e = true
    · simp only [hbe, if_true, Option.map_eq_some_iff, Option.bind_eq_some_iff] at hp
      obtain ⟨d, ⟨o', ho', hd'⟩, rfl⟩ := hp
      have hel := hall e (by simpa using he) hbe
      have hlt0 : e.on < ops.size := (Array.getElem?_eq_some_iff.1 ho').1
      refine ⟨hb e (by simpa using he) hbe, o', ho', hd', (h.hX e.on hlt0).1 ?_⟩
      have hlt : e.on < listed.size := by rw [h.hls]; exact hlt0
      simpa [hlt] using hel
    · simp [hbe] at hp
  have hdx : AllX X a.eval (deps ops o) := AllX.of fun p hp => by
    obtain ⟨_, o', ho', hd', v, hv⟩ := hmem p hp
    rw [hv]
    exact congrArg some ((h.hval p.1 o' v ho' hv).2 p.2 hd').symm
  have hdeps : AllDeps (Vs.take i) a.eval w (deps ops o) := by
    have hVl : i < Vs.length := (List.getElem?_eq_some_iff.1 hV).1
    have hlen : (Vs.take i).length = i := by simp; omega
    refine AllDeps.of (Us := Vs.drop i) (fun p hp => by rw [hlen]; exact (hmem p hp).1) fun p hp => ?_
    rw [List.take_append_drop]
    obtain ⟨_, o', ho', hd', v, hv⟩ := hmem p hp
    have := h.hval p.1 o' v ho' hv
    show At Vs p.1 (a.tmps.getD p.2 undef) w
    rw [this.2 p.2 hd']
    exact this.1
  obtain ⟨h1, h2⟩ := hok a.eval w X ⟨fun _ => rfl, fun _ => rfl, fun _ => rfl⟩ h.hR houts hdeps h.hJ hXi hdx
  have done : ∀ v w', R w w' → V v w' → J (upd X i v) w' → InvE R J w0 a0 ops Vs (listed.setIfInBounds i true) (a.put o.dst v) w' := by
    intro v w' hr hv hj
    refine ⟨upd X i v, by rw [put_defers, h.hd], by rw [put_size, h.hsz], by simp [h.hls], htr _ _ _ h.hR hr, hj, ?_, ?_, ?_, ?_⟩
    · intro j hjs
      by_cases hji : i = j
      · subst hji
        rw [getD_set_same (by rw [h.hls]; exact hil), upd_same]
        simp
      · rw [getD_set_other hji, upd_other _ _ (Ne.symm hji)]
        exact h.hX j hjs
    · intro t ht
      have ht0 : o.dst ≠ some t := fun e => by
        have := ht i o ho e
        rw [getD_set_same (by rw [h.hls]; exact hil)] at this
        cases this
      have := h.hout t fun j o' hj hd => by
        by_cases hji : i = j
        · subst hji; exact hun
        · have := ht j o' hj hd
          rwa [getD_set_other hji] at this
      rw [← this]
      cases hd : o.dst with
      | none => rfl
      | some d =>
        rw [getD_put, if_neg]
        rintro ⟨rfl, _⟩
        exact ht0 hd
    · intro j o' hj hl e he hbe
      by_cases hei : i = e.on
      · rw [← hei, getD_set_same (by rw [h.hls]; exact hil)]
      · rw [getD_set_other hei]
        by_cases hji : i = j
        · subst hji
          rw [ho] at hj
          cases hj
          have hel := hall e (by simpa using he) hbe
          by_cases hlt : e.on < listed.size
          · simpa [hlt] using hel
          · simp [Array.getD_eq_getD_getElem?, Array.getElem?_eq_none (Nat.le_of_not_lt hlt)]
        · rw [getD_set_other hji] at hl
          exact h.hcl j o' hj hl e he hbe
    · intro j o' u hj hu
      by_cases hji : i = j
      · subst hji
        rw [ho] at hj
        cases hj
        rw [upd_same] at hu
        cases hu
        refine ⟨by unfold At; rw [hV]; exact hv, fun d hd => ?_⟩
        rw [hd, getD_put, if_pos ⟨rfl, by rw [h.hsz]; exact (hdst d hd).1⟩]
      · rw [upd_other _ _ (Ne.symm hji)] at hu
        obtain ⟨h0, h0'⟩ := h.hval j o' u hj hu
        refine ⟨?_, fun d' hd' => ?_⟩
        · unfold At at h0 ⊢
          cases hVj : Vs[j]? with
          | none => trivial
          | some U => rw [hVj] at h0; exact hst U (List.mem_of_getElem? hVj) _ _ _ hr h0
        · rw [← h0' d' hd']
          cases hd : o.dst with
          | none => rfl
          | some d =>
            rw [getD_put, if_neg]
            rintro ⟨rfl, _⟩
            exact hji ((hdst d hd).2 j o' hj hd').symm
  unfold wpOp
  simp only [ho]
  rw [← wanted_eq]
  cases hw : wantedEv ops o a.eval with
  | true =>
    simp only [if_true]
    exact .inl (wp_of_yields (h1 hw) fun v w' ⟨hr, hv, hj⟩ => done v w' hr hv hj)
  | false =>
    simp only [Bool.false_eq_true, if_false]
    exact done undef w (hre w) (h2 hw).1 (h2 hw).2

theorem wpAny_of_inv {I : Array Bool → Act → World → Prop} {Q : Exit → Act → World → Prop} (hstep : ∀ listed a w, I listed a w → ∀ i ∈ Region.ready .any ops listed, wpOp P ops Q i (I (listed.setIfInBounds i true)) a w)
    (hend : ∀ listed a w, I listed a w → Region.ready .any ops listed = [] → Q .normal a w) :
    ∀ (fuel : Nat) (listed : Array Bool) (a : Act) (w : World), (listed.toList.filter (! ·)).length ≤ fuel → I listed a w → wpAny P .any ops Q fuel listed a w
  | 0, listed, a, w, hf, h => by
    have hr : Region.ready .any ops listed = [] := by
      rw [List.eq_nil_iff_forall_not_mem]
      intro i hi
      have hun := (mem_ready.1 hi).1
      have h0 : (listed.toList.filter (! ·)) = [] := List.length_eq_zero_iff.1 (by omega)
      rcases Nat.lt_or_ge i listed.size with hl | hl
      · have hg : listed[i] = false := by simpa [hl] using hun
        have : false ∈ listed.toList.filter (! ·) := List.mem_filter.2 ⟨by rw [← hg]; simp, rfl⟩
        rw [h0] at this; cases this
      · simp [Array.getElem?_eq_none hl] at hun
    exact ⟨hr, hend _ _ _ h hr⟩
  | fuel + 1, listed, a, w, hf, h => by
    refine ⟨fun hr => hend _ _ _ h hr, fun i hi => wpOp_mono (fun a' w' h' => wpAny_of_inv hstep hend fuel _ a' w' ?_ h') (hstep _ _ _ h i hi)⟩
    have hun := (mem_ready.1 hi).1
    have hl : i < listed.size := by
      rcases Nat.lt_or_ge i listed.size with hl | hl
      · exact hl
      · simp [Array.getElem?_eq_none hl] at hun
    have hg : listed[i] = false := by simpa [hl] using hun
    have hg' : listed.toList[i]? = some false := by simp [hl, hg]
    have key : ∀ (l : List Bool) (i : Nat), l[i]? = some false → ((l.set i true).filter (! ·)).length + 1 = (l.filter (! ·)).length := by
      intro l
      induction l with
      | nil => intro i h; simp at h
      | cons x r ih =>
        intro i h
        cases i with
        | zero => simp at h; subst h; simp
        | succ i =>
          have := ih i (by simpa using h)
          cases x <;> simp [List.filter_cons] <;> omega
    have := key listed.toList i hg'
    rw [Array.toList_setIfInBounds]
    omega

/-- What is asked behind the region. -/
def Behind (R : World → World → Prop) (J : JT) (w0 : World) (a0 : Act) (l : List Oper) (Q : Exit → Act → World → Prop) (Vs : List VT) : Prop :=
  ∀ xs w', R w0 w' → AllV Vs xs w' l.length → (∃ X, J X w' ∧ ∀ i, i < l.length → X i = some (xs i)) → Q .normal (putsFrom xs l 0 a0) w'

theorem wp_free {id : Nat} {l : List Oper} {Q : Exit → Act → World → Prop} {w : World} (hm : P.follows .mixedOrders = true) (hwf : wfB2 l.toArray a0.tmps.size = true)
    (hre : ∀ a, R a a) (htr : ∀ a b c, R a b → R b c → R a c) (hJ0 : J (fun _ => none) w.drew)
    (h : Chain P R J w.drew a0 l.toArray (Behind R J w.drew a0 l Q) l []) : (Code.region id l.toArray true).wp P Q a0 w := by
  obtain ⟨Us, h1, h2, h3, h4⟩ := Chain.all l [] h (by simp)
  simp only [List.nil_append, List.length_nil, Nat.zero_add] at h1 h3 h4
  refine wp_region_any hm ?_
  refine wpAny_of_inv (I := InvE R J w.drew a0 l.toArray Us) (fun listed a w' ⟨X, hI⟩ i hi => hI.step hwf hre htr h3 (fun i o ho => h4 i o (by simpa using ho)) hi) ?_ _ _ _ _ (by
    simp [List.filter_replicate]) ⟨fun _ => none, rfl, rfl, by simp, hre _, hJ0, fun i hi => by
      have hi' : i < l.length := by simpa using hi
      simp [hi'], fun _ _ => rfl, fun i o ho hl => (by
      have hil := (Array.getElem?_eq_some_iff.1 ho).1
      have hil' : i < l.length := by simpa using hil
      simp [hil'] at hl), fun i o v ho hv => by cases hv⟩
  rintro listed a w' ⟨X, hI⟩ hr
  have hall : ∀ i, i < l.length → listed.getD i true = true := by
    intro i
    induction i using Nat.strongRecOn with
    | _ i ih =>
      intro hi
      by_cases hl : listed.getD i true = true
      · exact hl
      · exfalso
        have ho : l.toArray[i]? = some l[i] := by simp [hi]
        have hmem : i ∈ Region.ready .any l.toArray listed := by
          refine mem_ready.2 ⟨by simpa using hl, l[i], ho, fun e he hb => ?_⟩
          have hlt := (wf_spec2 hwf ho).1 e he hb
          have := ih e.on hlt (by omega)
          have hs : e.on < listed.size := by rw [hI.hls]; simp; omega
          simpa [hs] using this
        rw [hr] at hmem
        cases hmem
  have hXs : ∀ i, i < l.length → X i = some ((X i).getD undef) := by
    intro i hi
    obtain ⟨v, hv⟩ := (hI.hX i (by simpa using hi)).1 (hall i hi)
    rw [hv]; rfl
  let xs : Nat → Value := fun i => (X i).getD undef
  have hxs : ∀ i (hi : i < l.length), At Us i (xs i) w' ∧ ∀ d, l[i].dst = some d → xs i = a.tmps.getD d undef := by
    intro i hi
    have := hI.hval i l[i] _ (by simp [hi]) (hXs i hi)
    exact ⟨this.1, fun d hd => (this.2 d hd).symm⟩
  have hfin := h1 xs w' hI.hR (AllV.of _ fun i hi => (hxs i hi).1) ⟨X, hI.hJ, hXs⟩
  have huniq : ∀ (i j : Nat) (o o' : Oper) d, l[i]? = some o → l[j]? = some o' → o.dst = some d → o'.dst = some d → i = j := by
    intro i j o o' d h1 h2 h3 h4
    exact (((wf_spec2 hwf (i := i) (o := o) (by simpa using h1)).2 d h3).2 j o' (by simpa using h2) h4).symm
  have ha : a = putsFrom xs l 0 a0 := by
    have htm : a.tmps = (putsFrom xs l 0 a0).tmps := by
      refine Array.ext_getElem? fun t => ?_
      by_cases ht : t < a0.tmps.size
      · have e1 := putsFrom_getD xs l 0 a0 t ht huniq
        have key : a.tmps.getD t undef = (putsFrom xs l 0 a0).tmps.getD t undef := by
          rw [e1]
          cases hf : l.findIdx? (fun o => o.dst == some t) with
          | some i =>
            obtain ⟨hi, hp, _⟩ := List.findIdx?_eq_some_iff_getElem.1 hf
            have := (hxs i hi).2 t (by simpa using hp)
            simp [this]
          | none =>
            rw [List.findIdx?_eq_none_iff] at hf
            refine hI.hout t fun i o ho hd => ?_
            have := hf o (List.mem_of_getElem? (by simpa using ho))
            simp [hd] at this
        have s1 : t < a.tmps.size := by rw [hI.hsz]; exact ht
        have s2 : t < (putsFrom xs l 0 a0).tmps.size := by rw [putsFrom_size]; exact ht
        simpa [s1, s2] using key
      · rw [Array.getElem?_eq_none (by rw [hI.hsz]; omega), Array.getElem?_eq_none (by rw [putsFrom_size]; omega)]
    have hdf : a.defers = (putsFrom xs l 0 a0).defers := by rw [putsFrom_defers, hI.hd]
    cases a
    simp only at htm hdf
    rw [htm, hdf]
  rw [ha]
  exact hfin

/-- One value, in whatever world; J does not look at this operation. -/
theorem Chain.ex {o : Oper} {rest : List Oper} {Vs : List VT} (c : Value) (n : Nat) (hn : Vs.length = n) (D : List (Nat × Tmp)) (T : List Tmp) (hD : deps ops o = D) (hT : outs2 ops n o = T) (hg : o.guard = none) (hre : ∀ a, R a a)
    (hJ : ∀ X W v, J X W → J (upd X Vs.length v) W)
    (hrun : ∀ ev W, Base ev → R w0 W → AllOuts a0 ev T → AllDeps Vs ev W D → (execOp ev o).run P W = .ok (.value c) W)
    (h : Chain P R J w0 a0 ops Fin rest (Vs ++ [fun v _ => v = c])) : Chain P R J w0 a0 ops Fin (o :: rest) Vs :=
  ⟨_, fun _ _ _ _ h => h, fun ev W X hb hR hO hDs hj hx hax => by
    subst hn hD hT
    refine ⟨fun _ => ?_, fun hw => by rw [wantedEv_none hg] at hw; cases hw⟩
    rw [hrun ev W hb hR hO hDs]
    exact ⟨hre W, rfl, hJ X W c hj⟩, h⟩
/-- A value of which something holds; J is told anew. -/
theorem Chain.pr {o : Oper} {rest : List Oper} {Vs : List VT} (V : VT) (n : Nat) (hn : Vs.length = n) (D : List (Nat × Tmp)) (T : List Tmp) (hD : deps ops o = D) (hT : outs2 ops n o = T) (hg : o.guard = none) (hs : Stable R V)
    (hrun : ∀ ev W X, Base ev → R w0 W → AllOuts a0 ev T → AllDeps Vs ev W D → J X W → X Vs.length = none → AllX X ev D → Free.Yields P (fun v W' => R W W' ∧ V v W' ∧ J (upd X Vs.length v) W') ((execOp ev o).run P W))
    (h : Chain P R J w0 a0 ops Fin rest (Vs ++ [V])) : Chain P R J w0 a0 ops Fin (o :: rest) Vs :=
  ⟨_, hs, fun ev W X hb hR hO hDs hj hx hax => by
    subst hn hD hT
    exact ⟨fun _ => hrun ev W X hb hR hO hDs hj hx hax, fun hw => by rw [wantedEv_none hg] at hw; cases hw⟩, h⟩
end
end Go.Proofs.YtinndhmjojpekaaDoor.Free2

/- Two local structs of two cells that a region makes and stores once, in whatever order. -/
namespace Go.Proofs.YtinndhmjojpekaaDoor
set_option linter.unusedSimpArgs false
set_option linter.unusedVariables false
open Go.RowKit Go.Proofs.YtinndhmjojpekaaDoor.Free2

/-- What is in the first s0 blocks stays, but for mb. -/
structure KeptB (s0 mb : Nat) (a b : World) : Prop where
  os : b.os = a.os
  tape : b.tape = a.tape
  output : b.output = a.output
  size : a.heap.size ≤ b.heap.size
  block : ∀ k, k < s0 → k ≠ mb → b.heap[k]? = a.heap[k]?
  memo : Memo mb a → Memo mb b
theorem KeptB.refl (s0 mb : Nat) (a : World) : KeptB s0 mb a a := ⟨rfl, rfl, rfl, Nat.le_refl _, fun _ _ _ => rfl, id⟩
theorem KeptB.trans {s0 mb : Nat} {a b c : World} (h : KeptB s0 mb a b) (k : KeptB s0 mb b c) : KeptB s0 mb a c :=
  ⟨k.os.trans h.os, k.tape.trans h.tape, k.output.trans h.output, Nat.le_trans h.size k.size, fun i hi hne => (k.block i hi hne).trans (h.block i hi hne), fun m => k.memo (h.memo m)⟩
theorem KeptB.of_kept {s0 mb : Nat} {a b : World} (h : Kept mb a b) (hs : s0 ≤ a.heap.size) : KeptB s0 mb a b :=
  ⟨h.os, h.tape, h.output, h.size, fun k hk hne => h.block k (by omega) hne, h.memo⟩
theorem KeptB.kept {s0 mb : Nat} {a b : World} (h : KeptB s0 mb a b) (hs : a.heap.size ≤ s0) : Kept mb a b :=
  ⟨h.os, h.tape, h.output, h.size, fun k hk hne => h.block k (by omega) hne, h.memo⟩

/-- A struct is stored. -/
theorem Two.store {b mb : Nat} {x y u v : Value} {w : World} (h : Two b u v w) (hne : b ≠ mb) :
    Two b x y ((w.setCell ⟨b, 0, none⟩ x).setCell ⟨b, 1, none⟩ y) ∧ (∀ k, k ≠ b → ((w.setCell ⟨b, 0, none⟩ x).setCell ⟨b, 1, none⟩ y).heap[k]? = w.heap[k]?) ∧ ∀ s0, s0 ≤ b → KeptB s0 mb w ((w.setCell ⟨b, 0, none⟩ x).setCell ⟨b, 1, none⟩ y) := by
  obtain ⟨hK, h0, h1⟩ := KeptR.store2 (x := x) (y := y) hne h.c0 h.c1
  have hblk : ∀ k, k ≠ b → ((w.setCell ⟨b, 0, none⟩ x).setCell ⟨b, 1, none⟩ y).heap[k]? = w.heap[k]? := fun k hk => by
    rw [Below.heap_setCell _ _ _ _ (by simpa using hk), Below.heap_setCell _ _ _ _ (by simpa using hk)]
  exact ⟨⟨h0, h1, (hK.frozen 0).trans h.f0, (hK.frozen 1).trans h.f1⟩, hblk, fun s0 hs => ⟨hK.os, hK.tape, hK.output, hK.size, fun k hk hn => hblk k (by omega), hK.memo⟩⟩
theorem Two.of_block {b : Nat} {x y : Value} {w w' : World} (h : Two b x y w) (hb : w'.heap[b]? = w.heap[b]?) : Two b x y w' :=
  ⟨(World.cell?_of_block (w := w) (a := ⟨b, 0, none⟩) hb).trans h.c0, (World.cell?_of_block (w := w) (a := ⟨b, 1, none⟩) hb).trans h.c1, (World.frozen?_of_block (w := w) (a := ⟨b, 0, none⟩) hb).trans h.f0, (World.frozen?_of_block (w := w) (a := ⟨b, 1, none⟩) hb).trans h.f1⟩

abbrev ptr (b : Nat) : Value := .pointer (some ⟨b, 0, none⟩)
/-- Operation i makes the struct, operation j stores it. -/
structure Loc (mb s0 i j : Nat) (x0 y0 x y : Value) (X : XT) (w : World) : Prop where
  first : X i = none → X j = none
  blk : ∀ v, X i = some v → ∃ b, v = ptr b ∧ s0 ≤ b ∧ b ≠ mb ∧ (X j = none → Two b x0 y0 w) ∧ (X j ≠ none → Two b x y w)
section
variable {mb s0 i j i1 j1 i2 j2 : Nat} {x0 y0 x y x1 y1 x2 y2 : Value} {X : XT} {w w' : World}
theorem Loc.skip (h : Loc mb s0 i j x0 y0 x y X w) (n : Nat) (v : Value) (h1 : n ≠ i) (h2 : n ≠ j) : Loc mb s0 i j x0 y0 x y (upd X n v) w :=
  ⟨by rw [upd_other _ _ h1.symm, upd_other _ _ h2.symm]; exact h.first, by rw [upd_other _ _ h1.symm, upd_other _ _ h2.symm]; exact h.blk⟩
theorem Loc.block (h : Loc mb s0 i j x0 y0 x y X w) (hb : ∀ b, X i = some (ptr b) → b ≠ mb → b < w.heap.size → w'.heap[b]? = w.heap[b]?) : Loc mb s0 i j x0 y0 x y X w' :=
  ⟨h.first, fun v hv => by
    obtain ⟨b, rfl, h1, h2, h3, h4⟩ := h.blk v hv
    have hlt : b < w.heap.size := by
      by_cases hj : X j = none
      · exact lt_of_cell (h3 hj).c0
      · exact lt_of_cell (h4 hj).c0
    exact ⟨b, rfl, h1, h2, fun hj => (h3 hj).of_block (hb b hv h2 hlt), fun hj => (h4 hj).of_block (hb b hv h2 hlt)⟩⟩
theorem Loc.kept (h : Loc mb s0 i j x0 y0 x y X w) (hK : Kept mb w w') : Loc mb s0 i j x0 y0 x y X w' := h.block fun b _ h2 h3 => hK.block b h3 h2
theorem Loc.lt (h : Loc mb s0 i j x0 y0 x y X w) {v : Value} (hv : X i = some v) : ∃ b, v = ptr b ∧ b < w.heap.size := by
  obtain ⟨b, rfl, h1, h2, h3, h4⟩ := h.blk v hv
  refine ⟨b, rfl, ?_⟩
  by_cases hj : X j = none
  · exact lt_of_cell (h3 hj).c0
  · exact lt_of_cell (h4 hj).c0
theorem Loc.new (h : Loc mb s0 i j x0 y0 x y X w) (hij : i ≠ j) (hi : X i = none) (hs : s0 ≤ w.heap.size) (hm : mb < w.heap.size) (ht : Two w.heap.size x0 y0 w') : Loc mb s0 i j x0 y0 x y (upd X i (ptr w.heap.size)) w' :=
  ⟨fun h0 => (by rw [upd_same] at h0; cases h0), fun v hv => by
    rw [upd_same] at hv
    cases hv
    rw [upd_other _ _ hij.symm]
    exact ⟨_, rfl, hs, by omega, fun _ => ht, fun hj => absurd (h.first hi) hj⟩⟩
theorem Loc.stored (h : Loc mb s0 i j x0 y0 x y X w) (hij : i ≠ j) (u : Value) {b : Nat} (hX : X i = some (ptr b)) (hs : s0 ≤ b) (hm : b ≠ mb) (ht : Two b x y w') : Loc mb s0 i j x0 y0 x y (upd X j u) w' :=
  ⟨fun h0 => (by rw [upd_other _ _ hij] at h0; rw [hX] at h0; cases h0), fun v hv => by
    rw [upd_other _ _ hij, hX] at hv
    cases hv
    rw [upd_same]
    exact ⟨b, rfl, hs, hm, (by intro h; cases h), fun _ => ht⟩⟩

structure J2 (mb s0 i1 j1 i2 j2 : Nat) (x0 y0 x1 y1 x2 y2 : Value) (X : XT) (w : World) : Prop where
  a : Loc mb s0 i1 j1 x0 y0 x1 y1 X w
  b : Loc mb s0 i2 j2 x0 y0 x2 y2 X w
  ne : ∀ v u, X i1 = some v → X i2 = some u → v ≠ u
theorem J2.start : J2 mb s0 i1 j1 i2 j2 x0 y0 x1 y1 x2 y2 (fun _ => none) w := ⟨⟨fun _ => rfl, fun v h => (by cases h)⟩, ⟨fun _ => rfl, fun v h => (by cases h)⟩, fun v u h => (by cases h)⟩
theorem J2.skip (h : J2 mb s0 i1 j1 i2 j2 x0 y0 x1 y1 x2 y2 X w) (n : Nat) (v : Value) (h1 : n ≠ i1) (h2 : n ≠ j1) (h3 : n ≠ i2) (h4 : n ≠ j2) : J2 mb s0 i1 j1 i2 j2 x0 y0 x1 y1 x2 y2 (upd X n v) w :=
  ⟨h.a.skip n v h1 h2, h.b.skip n v h3 h4, by rw [upd_other _ _ h1.symm, upd_other _ _ h3.symm]; exact h.ne⟩
theorem J2.kept (h : J2 mb s0 i1 j1 i2 j2 x0 y0 x1 y1 x2 y2 X w) (hK : Kept mb w w') : J2 mb s0 i1 j1 i2 j2 x0 y0 x1 y1 x2 y2 X w' := ⟨h.a.kept hK, h.b.kept hK, h.ne⟩
theorem two_alloc (x y : Value) (t : TypeId) (w : World) : Two w.heap.size x y (w.alloc (.cells #[x, y] t)) := ⟨by simp [go_sem], by simp [go_sem], by simp [go_sem], by simp [go_sem]⟩
theorem J2.new1 (h : J2 mb s0 i1 j1 i2 j2 x0 y0 x1 y1 x2 y2 X w) (t : TypeId) (h1 : i1 ≠ j1) (h2 : i1 ≠ i2) (h3 : i1 ≠ j2) (hi : X i1 = none) (hs : s0 ≤ w.heap.size) (hm : mb < w.heap.size) :
    J2 mb s0 i1 j1 i2 j2 x0 y0 x1 y1 x2 y2 (upd X i1 (ptr w.heap.size)) (w.alloc (.cells #[x0, y0] t)) :=
  ⟨h.a.new h1 hi hs hm (two_alloc _ _ _ _), (h.b.kept ((Kept.refl _ _).alloc _)).skip _ _ h2 h3, fun v u hv hu e => by
    rw [upd_same] at hv
    cases hv
    rw [upd_other _ _ h2.symm] at hu
    obtain ⟨b, hb, hlt⟩ := h.b.lt hu
    subst hb
    simp [ptr] at e <;> omega⟩
theorem J2.new2 (h : J2 mb s0 i1 j1 i2 j2 x0 y0 x1 y1 x2 y2 X w) (t : TypeId) (h1 : i2 ≠ j2) (h2 : i2 ≠ i1) (h3 : i2 ≠ j1) (hi : X i2 = none) (hs : s0 ≤ w.heap.size) (hm : mb < w.heap.size) :
    J2 mb s0 i1 j1 i2 j2 x0 y0 x1 y1 x2 y2 (upd X i2 (ptr w.heap.size)) (w.alloc (.cells #[x0, y0] t)) :=
  ⟨(h.a.kept ((Kept.refl _ _).alloc _)).skip _ _ h2 h3, h.b.new h1 hi hs hm (two_alloc _ _ _ _), fun v u hv hu e => by
    rw [upd_same] at hu
    cases hu
    rw [upd_other _ _ h2.symm] at hv
    obtain ⟨b, hb, hlt⟩ := h.a.lt hv
    subst hb
    simp [ptr] at e <;> omega⟩
/-- What is found where the first one is stored, and what holds behind. -/
theorem J2.at1 (h : J2 mb s0 i1 j1 i2 j2 x0 y0 x1 y1 x2 y2 X w) (h1 : i1 ≠ j1) (h2 : j1 ≠ i2) (h3 : j1 ≠ j2) {v : Value} (hv : X i1 = some v) (hj : X j1 = none) :
    ∃ b, v = ptr b ∧ Two b x0 y0 w ∧ KeptB s0 mb w ((w.setCell ⟨b, 0, none⟩ x1).setCell ⟨b, 1, none⟩ y1) ∧ ∀ u, J2 mb s0 i1 j1 i2 j2 x0 y0 x1 y1 x2 y2 (upd X j1 u) ((w.setCell ⟨b, 0, none⟩ x1).setCell ⟨b, 1, none⟩ y1) := by
  obtain ⟨b, rfl, g1, g2, g3, g4⟩ := h.a.blk v hv
  obtain ⟨s1, s2, s3⟩ := (g3 hj).store (x := x1) (y := y1) g2
  refine ⟨b, rfl, g3 hj, s3 _ g1, fun u => ⟨h.a.stored h1 u hv g1 g2 s1, (h.b.block fun b' hb' _ _ => s2 b' ?_).skip _ _ h2 h3, by rw [upd_other _ _ h1, upd_other _ _ h2.symm]; exact h.ne⟩⟩
  rintro rfl
  exact h.ne _ _ hv hb' rfl
theorem J2.at2 (h : J2 mb s0 i1 j1 i2 j2 x0 y0 x1 y1 x2 y2 X w) (h1 : i2 ≠ j2) (h2 : j2 ≠ i1) (h3 : j2 ≠ j1) {v : Value} (hv : X i2 = some v) (hj : X j2 = none) :
    ∃ b, v = ptr b ∧ Two b x0 y0 w ∧ KeptB s0 mb w ((w.setCell ⟨b, 0, none⟩ x2).setCell ⟨b, 1, none⟩ y2) ∧ ∀ u, J2 mb s0 i1 j1 i2 j2 x0 y0 x1 y1 x2 y2 (upd X j2 u) ((w.setCell ⟨b, 0, none⟩ x2).setCell ⟨b, 1, none⟩ y2) := by
  obtain ⟨b, rfl, g1, g2, g3, g4⟩ := h.b.blk v hv
  obtain ⟨s1, s2, s3⟩ := (g3 hj).store (x := x2) (y := y2) g2
  refine ⟨b, rfl, g3 hj, s3 _ g1, fun u => ⟨(h.a.block fun b' hb' _ _ => s2 b' ?_).skip _ _ h2 h3, h.b.stored h1 u hv g1 g2 s1, by rw [upd_other _ _ h1, upd_other _ _ h2.symm]; exact h.ne⟩⟩
  rintro rfl
  exact h.ne _ _ hb' hv rfl
/-- Behind the region. -/
theorem J2.done (h : J2 mb s0 i1 j1 i2 j2 x0 y0 x1 y1 x2 y2 X w) {v1 v2 u1 u2 : Value} (hv1 : X i1 = some v1) (hv2 : X i2 = some v2) (hu1 : X j1 = some u1) (hu2 : X j2 = some u2) :
    ∃ b1 b2, v1 = ptr b1 ∧ v2 = ptr b2 ∧ Two b1 x1 y1 w ∧ Two b2 x2 y2 w := by
  obtain ⟨b1, rfl, _, _, _, g1⟩ := h.a.blk v1 hv1
  obtain ⟨b2, rfl, _, _, _, g2⟩ := h.b.blk v2 hv2
  exact ⟨b1, b2, rfl, rfl, g1 (by simp [hu1]), g2 (by simp [hu2])⟩
end
end Go.Proofs.YtinndhmjojpekaaDoor

/- What a call leaves as it was, but for some blocks of the function's own; stores into two results in a region that draws its order. -/
namespace Go.Proofs.YtinndhmjojpekaaDoor
set_option linter.unusedSimpArgs false
set_option linter.unusedVariables false
open Go.RowKit Go.Proofs.YtinndhmjojpekaaDoor.Free2

theorem Bel.allocT {a b : World} (h : Free.Bel a b) (o : Obj) : Free.Bel a (b.alloc o) := h.trans _ _ _ (belAlloc b o)
theorem Bel.drewT {a b : World} (h : Free.Bel a b) : Free.Bel a b.drew := Below.drew h

structure KeptX (mb : Nat) (rs : List Nat) (a b : World) : Prop where
  os : b.os = a.os
  tape : b.tape = a.tape
  output : b.output = a.output
  size : a.heap.size ≤ b.heap.size
  block : ∀ k, k < a.heap.size → k ≠ mb → k ∉ rs → b.heap[k]? = a.heap[k]?
  memo : Memo mb a → Memo mb b
section
variable {mb : Nat} {rs : List Nat} {a b c w w' : World}
theorem KeptX.refl (mb : Nat) (rs : List Nat) (a : World) : KeptX mb rs a a := ⟨rfl, rfl, rfl, Nat.le_refl _, fun _ _ _ _ => rfl, id⟩
theorem KeptX.trans (h : KeptX mb rs a b) (k : KeptX mb rs b c) : KeptX mb rs a c :=
  ⟨k.os.trans h.os, k.tape.trans h.tape, k.output.trans h.output, Nat.le_trans h.size k.size, fun i hi hne hn => (k.block i (Nat.lt_of_lt_of_le hi h.size) hne hn).trans (h.block i hi hne hn), fun m => k.memo (h.memo m)⟩
theorem KeptX.of_kept (h : Kept mb a b) : KeptX mb rs a b := ⟨h.os, h.tape, h.output, h.size, fun k hk hne _ => h.block k hk hne, h.memo⟩
theorem KeptX.drew (h : KeptX mb rs a b) : KeptX mb rs a b.drew := ⟨h.os, h.tape, h.output, h.size, h.block, h.memo⟩
theorem KeptX.alloc (h : KeptX mb rs a b) (o : Obj) : KeptX mb rs a (b.alloc o) := h.trans (.of_kept ((Kept.refl mb b).alloc o))
theorem KeptX.cell (h : KeptX mb rs w w') {p : Addr} {v : Value} (hv : w.cell? p = some v) (h1 : p.block ≠ mb) (h2 : p.block ∉ rs) : w'.cell? p = some v :=
  (World.cell?_of_block (h.block _ (lt_of_cell hv) h1 h2)).trans hv
theorem KeptX.kept {w0 : World} (h0 : Kept mb w0 w) (h : KeptX mb rs w w') (hr : ∀ r ∈ rs, w0.heap.size ≤ r) : Kept mb w0 w' :=
  ⟨h.os.trans h0.os, h.tape.trans h0.tape, h.output.trans h0.output, Nat.le_trans h0.size h.size,
    fun k hk hne => (h.block k (Nat.lt_of_lt_of_le hk h0.size) hne (fun hm => by have := hr k hm; omega)).trans (h0.block k hk hne), fun m => h.memo (h0.memo m)⟩
theorem KeptX.below {w0 : World} {s : Nat} (h0 : Below s w0 w) (h : KeptX mb rs w w') (hm : s ≤ mb) (hr : ∀ r ∈ rs, s ≤ r) (hs : s ≤ w.heap.size) : Below s w0 w' :=
  ⟨h.os.trans h0.os, h.tape.trans h0.tape, h.output.trans h0.output, Nat.le_trans h0.size h.size,
    fun k hk => (h.block k (by omega) (by omega) (fun hm => by have := hr k hm; omega)).trans (h0.block k hk)⟩
theorem KeptX.hold {hb : Nat} {N lo hi : Int} {kb cb : Nat} (hH : Hold hb N lo hi mb kb cb w) (h : KeptX mb rs w w') (n1 : kb ∉ rs) (n2 : cb ∉ rs) (n3 : hb ∉ rs) : Hold hb N lo hi mb kb cb w' :=
  ⟨⟨h.memo hH.ctr.memo, h.cell hH.ctr.known (hH.ctr.memo.ne hH.ctr.known) n1, h.cell hH.ctr.count (hH.ctr.memo.ne hH.ctr.count) n2⟩, h.cell hH.bags (hH.ctr.memo.ne hH.bags) n3, h.cell hH.lo (hH.ctr.memo.ne hH.lo) n3, h.cell hH.hi (hH.ctr.memo.ne hH.hi) n3, h.cell hH.sets (hH.ctr.memo.ne hH.sets) n3⟩
theorem Two.storeX {b : Nat} {x y u v : Value} (h : Two b u v w) (hb : b ∈ rs) (hne : b ≠ mb) :
    Two b x y ((w.setCell ⟨b, 0, none⟩ x).setCell ⟨b, 1, none⟩ y) ∧ (∀ k, k ≠ b → ((w.setCell ⟨b, 0, none⟩ x).setCell ⟨b, 1, none⟩ y).heap[k]? = w.heap[k]?) ∧ KeptX mb rs w ((w.setCell ⟨b, 0, none⟩ x).setCell ⟨b, 1, none⟩ y) := by
  obtain ⟨h1, h2, h3⟩ := h.store (x := x) (y := y) hne
  have hK := h3 0 (Nat.zero_le _)
  exact ⟨h1, h2, hK.os, hK.tape, hK.output, hK.size, fun k _ _ hn => h2 k (fun e => hn (e ▸ hb)), hK.memo⟩
theorem Two.keptX {b : Nat} {x y : Value} (h : Two b x y w) (hK : KeptX mb rs w w') (h1 : b ≠ mb) (h2 : b ∉ rs) : Two b x y w' := h.of_block (hK.block b (lt_of_cell h.c0) h1 h2)
/-- What is stored is there already. -/
theorem setCell_noop {b o : Nat} {v : Value} (h : w.cell? ⟨b, o, none⟩ = some v) : w.setCell ⟨b, o, none⟩ v = w := by
  unfold World.cell? at h
  unfold World.setCell
  cases hb : w.heap[b]? with
  | none => simp [hb] at h
  | some ob =>
    rw [hb] at h
    cases ob with
    | cells c e f =>
      simp at h
      have : w.heap.modify b (fun | .cells c elem frozen => .cells (if (⟨b, o, none⟩ : Addr).spot.isSome then c else c.setIfInBounds o v) elem frozen | ob => ob) = w.heap := by
        refine Array.ext_getElem? fun i => ?_
        rw [Array.getElem?_modify]
        split
        · rename_i e
          subst e
          rw [hb]
          simp only [Option.map_some, Option.isSome_none, Bool.false_eq_true, if_false]
          congr 2
          refine Array.ext_getElem? fun j => ?_
          rw [Array.getElem?_setIfInBounds]
          split
          · rename_i e2
            subst e2
            split
            · exact h.symm
            · rename_i hn; simp at hn; rw [Array.getElem?_eq_none hn] at h; cases h
          · rfl
        · rfl
      exact congrArg (fun h => ({ w with heap := h } : World)) this
    | _ => simp at h
theorem noop2 {b : Nat} {x y : Value} (h0 : w.cell? ⟨b, 0, none⟩ = some x) (h1 : w.cell? ⟨b, 1, none⟩ = some y) : (w.setCell ⟨b, 0, none⟩ x).setCell ⟨b, 1, none⟩ y = w := by rw [setCell_noop h0, setCell_noop h1]

/-- Operation i stores into a block that was there. -/
structure Fx (i b : Nat) (x0 y0 x y : Value) (X : XT) (w : World) : Prop where
  old : X i = none → Two b x0 y0 w
  new : X i ≠ none → Two b x y w
variable {i i1 i2 b1 b2 : Nat} {x0 y0 x y x1 y1 x2 y2 u1 v1 u2 v2 : Value} {X : XT}
theorem Fx.skip {b : Nat} (h : Fx i b x0 y0 x y X w) (n : Nat) (v : Value) (h1 : n ≠ i) : Fx i b x0 y0 x y (upd X n v) w := ⟨by rw [upd_other _ _ h1.symm]; exact h.old, by rw [upd_other _ _ h1.symm]; exact h.new⟩
theorem Fx.block {b : Nat} (h : Fx i b x0 y0 x y X w) (hb : w'.heap[b]? = w.heap[b]?) : Fx i b x0 y0 x y X w' := ⟨fun hx => (h.old hx).of_block hb, fun hx => (h.new hx).of_block hb⟩
theorem Fx.lt {b : Nat} (h : Fx i b x0 y0 x y X w) : b < w.heap.size := by
  by_cases hx : X i = none
  · exact lt_of_cell (h.old hx).c0
  · exact lt_of_cell (h.new hx).c0
theorem Fx.kept {b : Nat} (h : Fx i b x0 y0 x y X w) (hK : Kept mb w w') (hne : b ≠ mb) : Fx i b x0 y0 x y X w' := h.block (hK.block b h.lt hne)
theorem Fx.at_ {b : Nat} (h : Fx i b x0 y0 x y X w) (hb : b ∈ rs) (hne : b ≠ mb) (hx : X i = none) :
    Two b x0 y0 w ∧ KeptX mb rs w ((w.setCell ⟨b, 0, none⟩ x).setCell ⟨b, 1, none⟩ y) ∧ ∀ v, Fx i b x0 y0 x y (upd X i v) ((w.setCell ⟨b, 0, none⟩ x).setCell ⟨b, 1, none⟩ y) := by
  obtain ⟨s1, s2, s3⟩ := (h.old hx).storeX (x := x) (y := y) hb hne
  exact ⟨h.old hx, s3, fun v => ⟨(fun e => by rw [upd_same] at e; cases e), fun _ => s1⟩⟩
theorem Fx.start {b : Nat} (h : Two b x0 y0 w) : Fx i b x0 y0 x y (fun _ => none) w := ⟨fun _ => h, fun h => absurd rfl h⟩
structure F2 (mb i1 b1 i2 b2 : Nat) (x1 y1 u1 v1 x2 y2 u2 v2 : Value) (X : XT) (w : World) : Prop where
  a : Fx i1 b1 x1 y1 u1 v1 X w
  b : Fx i2 b2 x2 y2 u2 v2 X w
  ne : b1 ≠ b2 ∧ b1 ≠ mb ∧ b2 ≠ mb
theorem F2.start (h1 : Two b1 x1 y1 w) (h2 : Two b2 x2 y2 w) (hne : b1 ≠ b2 ∧ b1 ≠ mb ∧ b2 ≠ mb) : F2 mb i1 b1 i2 b2 x1 y1 u1 v1 x2 y2 u2 v2 (fun _ => none) w := ⟨⟨fun _ => h1, fun h => absurd rfl h⟩, ⟨fun _ => h2, fun h => absurd rfl h⟩, hne⟩
theorem F2.skip (h : F2 mb i1 b1 i2 b2 x1 y1 u1 v1 x2 y2 u2 v2 X w) (n : Nat) (v : Value) (h1 : n ≠ i1) (h2 : n ≠ i2) : F2 mb i1 b1 i2 b2 x1 y1 u1 v1 x2 y2 u2 v2 (upd X n v) w := ⟨h.a.skip n v h1, h.b.skip n v h2, h.ne⟩
theorem F2.kept (h : F2 mb i1 b1 i2 b2 x1 y1 u1 v1 x2 y2 u2 v2 X w) (hK : Kept mb w w') : F2 mb i1 b1 i2 b2 x1 y1 u1 v1 x2 y2 u2 v2 X w' := ⟨h.a.kept hK h.ne.2.1, h.b.kept hK h.ne.2.2, h.ne⟩
theorem F2.at1 (h : F2 mb i1 b1 i2 b2 x1 y1 u1 v1 x2 y2 u2 v2 X w) (h12 : i1 ≠ i2) (h1 : b1 ∈ rs) (hx : X i1 = none) :
    Two b1 x1 y1 w ∧ KeptX mb rs w ((w.setCell ⟨b1, 0, none⟩ u1).setCell ⟨b1, 1, none⟩ v1) ∧ ∀ v, F2 mb i1 b1 i2 b2 x1 y1 u1 v1 x2 y2 u2 v2 (upd X i1 v) ((w.setCell ⟨b1, 0, none⟩ u1).setCell ⟨b1, 1, none⟩ v1) := by
  obtain ⟨s1, s2, s3⟩ := (h.a.old hx).storeX (x := u1) (y := v1) h1 h.ne.2.1
  exact ⟨h.a.old hx, s3, fun v => ⟨⟨(fun e => by rw [upd_same] at e; cases e), fun _ => s1⟩, (h.b.block (s2 b2 h.ne.1.symm)).skip _ _ h12, h.ne⟩⟩
theorem F2.at2 (h : F2 mb i1 b1 i2 b2 x1 y1 u1 v1 x2 y2 u2 v2 X w) (h12 : i1 ≠ i2) (h1 : b2 ∈ rs) (hx : X i2 = none) :
    Two b2 x2 y2 w ∧ KeptX mb rs w ((w.setCell ⟨b2, 0, none⟩ u2).setCell ⟨b2, 1, none⟩ v2) ∧ ∀ v, F2 mb i1 b1 i2 b2 x1 y1 u1 v1 x2 y2 u2 v2 (upd X i2 v) ((w.setCell ⟨b2, 0, none⟩ u2).setCell ⟨b2, 1, none⟩ v2) := by
  obtain ⟨s1, s2, s3⟩ := (h.b.old hx).storeX (x := u2) (y := v2) h1 h.ne.2.2
  exact ⟨h.b.old hx, s3, fun v => ⟨(h.a.block (s2 b1 h.ne.1)).skip _ _ h12.symm, ⟨(fun e => by rw [upd_same] at e; cases e), fun _ => s1⟩, h.ne⟩⟩
end
end Go.Proofs.YtinndhmjojpekaaDoor

/- A struct of any size that a region makes and stores once, in whatever order. -/
namespace Go.Proofs.YtinndhmjojpekaaDoor
set_option linter.unusedSimpArgs false
set_option linter.unusedVariables false
open Go.RowKit Go.Proofs.YtinndhmjojpekaaDoor.Free2

theorem with_world {c : Code} {P : Program} {Q : Exit → Act → World → Prop} {a : Act} {w : World} (h : ∀ W, W = w → c.wp P Q a W) : c.wp P Q a w := h w rfl
theorem yields_enter {P : Program} {K : Value → World → Prop} {f : FuncId} {args : Array Value} {w : World} (h : Calls P f args w fun e w' => ∃ v, e = .returned v ∧ K v w') : Free.Yields P K (.ok (.enter f args) w) := h

theorem heap_setCell_same {w : World} {b o : Nat} {c : Array Value} {t : TypeId} {f : Nat × Nat} (v : Value) (h : w.heap[b]? = some (.cells c t f)) : (w.setCell ⟨b, o, none⟩ v).heap[b]? = some (.cells (c.setIfInBounds o v) t f) := by
  show (w.heap.modify b _)[b]? = _
  rw [Array.getElem?_modify]
  simp [h]
theorem cell_of_heap {w : World} {b o : Nat} {c : Array Value} {t : TypeId} {f : Nat × Nat} {v : Value} (h : w.heap[b]? = some (.cells c t f)) (hc : c[o]? = some v) : w.cell? ⟨b, o, none⟩ = some v := by
  simp [World.cell?, h, hc]
theorem frozen_of_heap {w : World} {b o : Nat} {c : Array Value} {t : TypeId} (h : w.heap[b]? = some (.cells c t (0, 0))) : w.frozen? ⟨b, o, none⟩ = false := by
  simp [World.frozen?, h]
theorem lt_of_heap {w : World} {b : Nat} {o : Obj} (h : w.heap[b]? = some o) : b < w.heap.size := (Array.getElem?_eq_some_iff.1 h).1

/-- Operation i makes the block, operation j stores it. -/
structure LB (mb s0 i j : Nat) (o0 o1 : Obj) (X : XT) (w : World) : Prop where
  first : X i = none → X j = none
  blk : ∀ v, X i = some v → ∃ b, v = ptr b ∧ s0 ≤ b ∧ b ≠ mb ∧ (X j = none → w.heap[b]? = some o0) ∧ (X j ≠ none → w.heap[b]? = some o1)
section
variable {mb s0 i j : Nat} {o0 o1 : Obj} {X : XT} {w w' : World}
theorem LB.start : LB mb s0 i j o0 o1 (fun _ => none) w := ⟨fun _ => rfl, fun v h => (by cases h)⟩
theorem LB.skip (h : LB mb s0 i j o0 o1 X w) (n : Nat) (v : Value) (h1 : n ≠ i) (h2 : n ≠ j) : LB mb s0 i j o0 o1 (upd X n v) w :=
  ⟨by rw [upd_other _ _ h1.symm, upd_other _ _ h2.symm]; exact h.first, by rw [upd_other _ _ h1.symm, upd_other _ _ h2.symm]; exact h.blk⟩
theorem LB.kept (h : LB mb s0 i j o0 o1 X w) (hK : Kept mb w w') : LB mb s0 i j o0 o1 X w' :=
  ⟨h.first, fun v hv => by
    obtain ⟨b, rfl, h1, h2, h3, h4⟩ := h.blk v hv
    exact ⟨b, rfl, h1, h2, fun hj => (hK.block b (lt_of_heap (h3 hj)) h2).trans (h3 hj), fun hj => (hK.block b (lt_of_heap (h4 hj)) h2).trans (h4 hj)⟩⟩
theorem LB.new (h : LB mb s0 i j o0 o1 X w) (hij : i ≠ j) (hi : X i = none) (hs : s0 ≤ w.heap.size) (hm : mb < w.heap.size) : LB mb s0 i j o0 o1 (upd X i (ptr w.heap.size)) (w.alloc o0) :=
  ⟨fun h0 => (by rw [upd_same] at h0; cases h0), fun v hv => by
    rw [upd_same] at hv
    cases hv
    rw [upd_other _ _ hij.symm]
    exact ⟨_, rfl, hs, by omega, fun _ => World.alloc_heap_new w o0, fun hj => absurd (h.first hi) hj⟩⟩
/-- What is found where it is stored. -/
theorem LB.at_ (h : LB mb s0 i j o0 o1 X w) {v : Value} (hv : X i = some v) (hj : X j = none) : ∃ b, v = ptr b ∧ s0 ≤ b ∧ b ≠ mb ∧ w.heap[b]? = some o0 := by
  obtain ⟨b, rfl, h1, h2, h3, h4⟩ := h.blk v hv
  exact ⟨b, rfl, h1, h2, h3 hj⟩
theorem LB.stored (h : LB mb s0 i j o0 o1 X w) (hij : i ≠ j) {b : Nat} (hv : X i = some (ptr b)) (hs : s0 ≤ b) (hm : b ≠ mb) (hb : w'.heap[b]? = some o1) (u : Value) : LB mb s0 i j o0 o1 (upd X j u) w' :=
  ⟨fun h0 => (by rw [upd_other _ _ hij] at h0; rw [hv] at h0; cases h0), fun v hv' => by
    rw [upd_other _ _ hij, hv] at hv'
    cases hv'
    rw [upd_same]
    exact ⟨b, rfl, hs, hm, (by intro h; cases h), fun _ => hb⟩⟩
theorem LB.done (h : LB mb s0 i j o0 o1 X w) {v u : Value} (hv : X i = some v) (hu : X j = some u) : ∃ b, v = ptr b ∧ s0 ≤ b ∧ b ≠ mb ∧ w.heap[b]? = some o1 := by
  obtain ⟨b, rfl, h1, h2, h3, h4⟩ := h.blk v hv
  exact ⟨b, rfl, h1, h2, h4 (by simp [hu])⟩
theorem KeptB.setNew {b o : Nat} {v : Value} (hs : s0 ≤ b) (hm : b ≠ mb) : KeptB s0 mb w (w.setCell ⟨b, o, none⟩ v) :=
  ⟨rfl, rfl, rfl, by simp, fun k hk _ => Below.heap_setCell _ _ _ _ (by simp; omega), fun ⟨l, hl, hv⟩ => ⟨l, hl.of_block (Below.heap_setCell _ _ _ _ (by simpa using hm.symm)), hv⟩⟩
theorem Kept.setNew {a : World} {b o : Nat} {v : Value} (h : Kept mb a w) (hs : a.heap.size ≤ b) (hm : b ≠ mb) : Kept mb a (w.setCell ⟨b, o, none⟩ v) :=
  ⟨h.os, h.tape, h.output, by simpa using h.size, fun k hk hne => (Below.heap_setCell _ _ _ _ (by simp; omega)).trans (h.block k hk hne), fun m => by
    obtain ⟨l, hl, hv⟩ := h.memo m
    exact ⟨l, hl.of_block (Below.heap_setCell _ _ _ _ (by simpa using hm.symm)), hv⟩⟩
end
end Go.Proofs.YtinndhmjojpekaaDoor

/- A range over a function whose iterator turns memory of its own in a way R that the loop's body does not mind. No function of the program here. -/
namespace Go.Proofs.YtinndhmjojpekaaDoor.RR
open Go Go.RowKit

variable {F : Fence} {n : Nat} {P : Program}

/-- An invariant that does not mind R. -/
def Abide {β : Type} (R : World → World → Prop) (J : β → World → Prop) : Prop := ∀ s A B, J s A → R A B → J s B

/-- An iterator that yields the list L, or a part of it where a round has said no. -/
def SeqL {α : Type} (F : Fence) (n : Nat) (P : Program) (g : Nat) (lb : Array Value) (encs : α → Array Value) (R Kp : World → World → Prop) (L : List α) (w : World) : Prop :=
  ∀ (l : Nat) (J Jx : List α → World → Prop) (W : World), R w W → Abide R J → Abide R Jx →
    (∀ pre x W1, pre ++ [x] <+: L → J pre W1 → YieldAt F (n - 1) P l (encs x) W1 fun e W' =>
      (e = .returned (.bool true) ∧ J (pre ++ [x]) W' ∧ Kp W1 W') ∨ (e = .returned (.bool false) ∧ Jx (pre ++ [x]) W')) →
    J [] W →
    CallsIn F n P g (#[.func (.yield l) #[] #[]] ++ lb) W fun e W' => (∃ v, e = .returned v) ∧ (J L W' ∨ (∃ pre, pre <+: L ∧ Jx pre W'))

theorem wpIn_rangeFunc_R {α : Type} {g : Operand} {ps : Array Tmp} {assign body : Code} {Q : Exit → Act → World → Prop} {a : Act} {w : World}
    (hro : F.round = none) (h1 : 1 ≤ n) {gf : Nat} {lb : Array Value} (hg : a.eval g = .func (.func gf) #[] lb) (hFg : F.fn gf) (eg : ∀ args w, (callFunc gf args).run P w = .ok (.enter gf args) w)
    {encs : α → Array Value} {R Kp : World → World → Prop} {L : List α} (hseq : SeqL F (n - 1) P gf lb encs R Kp L w)
    (hRa : ∀ A o, w.heap.size ≤ A.heap.size → R w A → R w (A.alloc o)) (hRr : R w w) (hRb : ∀ A B k o, R A B → w.heap.size ≤ k → A.heap[k]? = some o → B.heap[k]? = some o)
    (hKt : ∀ {A B C : World}, Kp A B → Kp B C → Kp A C) (hKb : ∀ (W : World) (l : Nat) (o o' : Obj), w.heap.size ≤ l → W.heap[l]? = some o → o.isCells = false → o.isWalk = false → Kp W (W.putObj l o')) (hps : ∀ x, (encs x).size = ps.size)
    (I : List α → World → Prop) (Ix : Code → List α → World → Prop) (hI : OwnFrom w.heap.size I) (hIx : ∀ c, OwnFrom w.heap.size (Ix c)) (hIR : Abide R I) (hIxR : ∀ c, Abide R (Ix c)) (h0 : I [] w) (a₁ : α → Act)
    (hassign : ∀ (l : Nat) (x : α) (W : World) (K : Act → World → Prop), K (a₁ x) W →
      assign.wpIn (F.inRound l) (n - 1 - 1) P (Exit.then K (fun _ _ _ => False)) { tmps := (ps.zip (encs x)).foldl (fun t (p, v) => t.setIfInBounds p v) a.tmps, defers := [] } W)
    (hbody : ∀ (l : Nat) (pre : List α) (x : α) (W : World), I pre W → pre ++ [x] <+: L → body.wpIn (F.inRound l) (n - 1 - 1) P (ownPostG w.heap.size Kp I Ix (pre ++ [x]) W) (a₁ x) W)
    (hdone : ∀ (D : Nat) (W : World), w.heap.size ≤ D → I L W → W.heap[D]? = some (.deferred (some [])) → Q .normal { a with defers := { target := .collected D, args := #[] } :: a.defers } W)
    (hstop : ∀ (D : Nat) (c : Code) (pre : List α) (W : World), w.heap.size ≤ D → pre <+: L → Ix c pre W → W.heap[D]? = some (.deferred (some [])) → c.wpIn F n P Q { a with defers := { target := .collected D, args := #[] } :: a.defers } W) :
    (Code.rangeFunc g ps assign body).wpIn F n P Q a w := by
  refine wpIn_rangeFunc ?_
  intro fn hfn
  rw [hro]
  obtain ⟨rec, hrec⟩ : ∃ rec : LoopState → Option Code → Loop, rec = fun st pe => { state := st, pending := pe, fn, tmps := a.tmps, params := ps, assign, body, defers := w.heap.size } := ⟨_, rfl⟩
  obtain ⟨W1, hW1⟩ : ∃ W1, (w.alloc (.deferred (some []))).alloc (.loop (rec .ready none)) = W1 := ⟨_, rfl⟩
  have hL1 : W1.heap[w.heap.size + 1]? = some (.loop (rec .ready none)) := by
    rw [← hW1]; have := World.alloc_heap_new (w.alloc (.deferred (some []))) (.loop (rec .ready none)); rwa [World.size_alloc] at this
  have hK1 : W1.heap[w.heap.size]? = some (.deferred (some [])) := by
    rw [← hW1]; exact (Below.heap_alloc _ _ _ (by simp)).trans (World.alloc_heap_new w _)
  have hI1 : I [] W1 := by rw [← hW1]; exact hI.alloc _ (hI.alloc _ h0)
  have hb1 : R w W1 := by
    rw [← hW1]; exact hRa _ _ (by simp) (hRa _ _ (Nat.le_refl _) hRr)
  refine ⟨w.heap.size + 1, [{ target := .collected w.heap.size, args := #[] }], W1, { target := .fn (.func gf) lb, args := #[.func (.yield (w.heap.size + 1)) #[] #[]] }, W1, gf,
    #[.func (.yield (w.heap.size + 1)) #[] #[]] ++ lb, W1, ?_, ?_, ?_, ?_, fun _ => h1, ?_⟩
  · rw [← hW1, hrec]; exact run_enterLoop_outer _ _ _ _ _
  · simp only [resolve, hg]
    simp [go_sem]
  · intro f' hf'; simp [Target.leads] at hf'; subst hf'; exact hFg
  · simp [invoke, go_sem, eg]
  · refine (hseq (w.heap.size + 1)
      (fun pre W => I pre W ∧ W.heap[w.heap.size + 1]? = some (.loop (rec .ready none)) ∧ W.heap[w.heap.size]? = some (.deferred (some [])))
      (fun pre W => ∃ c, Ix c pre W ∧ W.heap[w.heap.size + 1]? = some (.loop (rec .done (some c))) ∧ W.heap[w.heap.size]? = some (.deferred (some [])))
      W1 hb1
      (fun s A B hs hr => ⟨hIR s A B hs.1 hr, hRb A B _ _ hr (by omega) hs.2.1, hRb A B _ _ hr (Nat.le_refl _) hs.2.2⟩)
      (fun s A B hs hr => by
        obtain ⟨c, hc, hl, hk⟩ := hs
        exact ⟨c, hIxR c s A B hc hr, hRb A B _ _ hr (by omega) hl, hRb A B _ _ hr (Nat.le_refl _) hk⟩)
      ?_ ⟨hI1, hL1, hK1⟩).mono ?_
    · -- one round
      rintro pre x W hlen ⟨hi, hl, hk⟩
      have hlt : w.heap.size + 1 < W.heap.size := (Array.getElem?_eq_some_iff.1 hl).1
      have hy := run_yield (P := P) (args := encs x) hl (by rw [hrec]; exact hps x)
      rw [hrec] at hy
      refine ⟨fn, _, assign, body, hy, roundIn_of_wpIn hfn (hassign _ x W _ ⟨_, run_beginRound hl (by rw [hrec]), ?_⟩)⟩
      have hl2 : (W.putObj (w.heap.size + 1) (.loop { rec .ready none with state := .busy })).heap[w.heap.size + 1]? = some (.loop { rec .ready none with state := .busy }) := World.putObj_heap_same hlt
      have hk2 : (W.putObj (w.heap.size + 1) (.loop { rec .ready none with state := .busy })).heap[w.heap.size]? = some (.deferred (some [])) := (World.putObj_heap_other (by omega)).trans hk
      have hw2 : Kp W (W.putObj (w.heap.size + 1) (.loop { rec .ready none with state := .busy })) := hKb _ _ _ _ (by omega) hl rfl rfl
      refine wpIn_mono (hbody _ pre x _ (hI.putObj _ hi (by omega) hl rfl) hlen) ?_
      have fin : ∀ (jump : Option Code) (W3 : World), KeepsFrom w.heap.size (W.putObj (w.heap.size + 1) (.loop { rec .ready none with state := .busy })) W3 →
          (Instr.endRound (w.heap.size + 1) jump).run P W3 = .ok (.bool jump.isNone) (W3.putObj (w.heap.size + 1) (.loop (rec (if jump.isNone then .ready else .done) jump))) ∧
          W3.heap[w.heap.size + 1]? = some (.loop { rec .ready none with state := .busy }) ∧
          (W3.putObj (w.heap.size + 1) (.loop (rec (if jump.isNone then .ready else .done) jump))).heap[w.heap.size + 1]? = some (.loop (rec (if jump.isNone then .ready else .done) jump)) ∧
          (W3.putObj (w.heap.size + 1) (.loop (rec (if jump.isNone then .ready else .done) jump))).heap[w.heap.size]? = some (.deferred (some [])) := fun jump W3 hk3 => by
        have hl3 := hk3.same _ _ (by omega) hl2 rfl
        have := run_endRound (P := P) jump hl3
        rw [hrec] at this ⊢
        exact ⟨this, by rw [hrec] at hl3; exact hl3, World.putObj_heap_same (Array.getElem?_eq_some_iff.1 hl3).1, (World.putObj_heap_other (by omega)).trans (hk3.same _ _ (Nat.le_refl _) hk2 rfl)⟩
      rintro e a3 W3 hp
      cases e with
      | normal =>
        obtain ⟨hk3, hkp3, hi3⟩ := hp
        obtain ⟨hr, hl3, hl4, hk4⟩ := fin none W3 hk3
        exact ⟨_, _, hr, .inl ⟨rfl, ⟨hI.putObj _ hi3 (by omega) hl3 rfl, hl4, hk4⟩, hKt (hKt hw2 hkp3) (hKb _ _ _ _ (by omega) hl3 rfl rfl)⟩⟩
      | ret =>
        obtain ⟨hk3, hi3⟩ := hp
        obtain ⟨hr, hl3, hl4, hk4⟩ := fin (some .ret) W3 hk3
        exact ⟨_, _, hr, .inr ⟨rfl, .ret, (hIx _).putObj _ hi3 (by omega) hl3 rfl, hl4, hk4⟩⟩
      | exit id =>
        obtain ⟨hk3, hi3⟩ := hp
        obtain ⟨hr, hl3, hl4, hk4⟩ := fin (some (.exit id)) W3 hk3
        exact ⟨_, _, hr, .inr ⟨rfl, .exit id, (hIx _).putObj _ hi3 (by omega) hl3 rfl, hl4, hk4⟩⟩
      | goto t =>
        obtain ⟨hk3, hi3⟩ := hp
        obtain ⟨hr, hl3, hl4, hk4⟩ := fin (some (.goto t)) W3 hk3
        exact ⟨_, _, hr, .inr ⟨rfl, .goto t, (hIx _).putObj _ hi3 (by omega) hl3 rfl, hl4, hk4⟩⟩
      | panic ch => exact hp.elim
      | outgrown => exact hp.elim
    · -- behind the iterator
      rintro e W2 ⟨⟨v, rfl⟩, (⟨hi, hl, hk⟩ | ⟨pre, hSp, c, hi, hl, hk⟩)⟩
      · exact ⟨none, _, by have := run_endLoop (P := P) hl (by rw [hrec]; simp); rw [hrec] at this; exact this, hdone _ _ (Nat.le_refl _) (hI.putObj _ hi (by omega) hl rfl) ((World.putObj_heap_other (by omega)).trans hk)⟩
      · exact ⟨some c, _, by have := run_endLoop (P := P) hl (by rw [hrec]; simp); rw [hrec] at this; exact this, hstop _ c pre _ (Nat.le_refl _) hSp ((hIx c).putObj _ hi (by omega) hl rfl) ((World.putObj_heap_other (by omega)).trans hk)⟩
/-- The same where the loop variable lies in a block of its own. -/
theorem wpIn_rangeFunc_RH {α : Type} {g : Operand} {ps : Array Tmp} {assign body : Code} {Q : Exit → Act → World → Prop} {a : Act} {w : World}
    (hro : F.round = none) (h1 : 1 ≤ n) {gf : Nat} {lb : Array Value} (hg : a.eval g = .func (.func gf) #[] lb) (hFg : F.fn gf) (eg : ∀ args w, (callFunc gf args).run P w = .ok (.enter gf args) w)
    {encs : α → Array Value} {R Kp : World → World → Prop} {L : List α} (hseq : SeqL F (n - 1) P gf lb encs R Kp L w)
    (hRa : ∀ A o, w.heap.size ≤ A.heap.size → R w A → R w (A.alloc o)) (hRr : R w w) (hRb : ∀ A B k o, R A B → w.heap.size ≤ k → A.heap[k]? = some o → B.heap[k]? = some o)
    (hKt : ∀ {A B C : World}, Kp A B → Kp B C → Kp A C) (hKb : ∀ (W : World) (l : Nat) (o o' : Obj), w.heap.size ≤ l → W.heap[l]? = some o → o.isCells = false → o.isWalk = false → Kp W (W.putObj l o')) (hps : ∀ x, (encs x).size = ps.size)
    (I : List α → World → Prop) (Ix : Code → List α → World → Prop) (hI : OwnFrom w.heap.size I) (hIx : ∀ c, OwnFrom w.heap.size (Ix c)) (hIR : Abide R I) (hIxR : ∀ c, Abide R (Ix c)) (h0 : I [] w) (Ax : α → Act → World → Prop) (hAx : ∀ x a', OwnFrom w.heap.size (fun (_ : Unit) W => Ax x a' W))
    (hassign : ∀ (l : Nat) (pre : List α) (x : α) (W : World) (K : Act → World → Prop), I pre W → pre ++ [x] <+: L → (∀ a' W', KeepsFrom w.heap.size W W' → Kp W W' → I pre W' → Ax x a' W' → K a' W') →
      assign.wpIn (F.inRound l) (n - 1 - 1) P (Exit.then K (fun _ _ _ => False)) { tmps := (ps.zip (encs x)).foldl (fun t (p, v) => t.setIfInBounds p v) a.tmps, defers := [] } W)
    (hbody : ∀ (l : Nat) (pre : List α) (x : α) (a' : Act) (W : World), I pre W → Ax x a' W → pre ++ [x] <+: L → body.wpIn (F.inRound l) (n - 1 - 1) P (ownPostG w.heap.size Kp I Ix (pre ++ [x]) W) a' W)
    (hdone : ∀ (D : Nat) (W : World), w.heap.size ≤ D → I L W → W.heap[D]? = some (.deferred (some [])) → Q .normal { a with defers := { target := .collected D, args := #[] } :: a.defers } W)
    (hstop : ∀ (D : Nat) (c : Code) (pre : List α) (W : World), w.heap.size ≤ D → pre <+: L → Ix c pre W → W.heap[D]? = some (.deferred (some [])) → c.wpIn F n P Q { a with defers := { target := .collected D, args := #[] } :: a.defers } W) :
    (Code.rangeFunc g ps assign body).wpIn F n P Q a w := by
  refine wpIn_rangeFunc ?_
  intro fn hfn
  rw [hro]
  obtain ⟨rec, hrec⟩ : ∃ rec : LoopState → Option Code → Loop, rec = fun st pe => { state := st, pending := pe, fn, tmps := a.tmps, params := ps, assign, body, defers := w.heap.size } := ⟨_, rfl⟩
  obtain ⟨W1, hW1⟩ : ∃ W1, (w.alloc (.deferred (some []))).alloc (.loop (rec .ready none)) = W1 := ⟨_, rfl⟩
  have hL1 : W1.heap[w.heap.size + 1]? = some (.loop (rec .ready none)) := by
    rw [← hW1]; have := World.alloc_heap_new (w.alloc (.deferred (some []))) (.loop (rec .ready none)); rwa [World.size_alloc] at this
  have hK1 : W1.heap[w.heap.size]? = some (.deferred (some [])) := by
    rw [← hW1]; exact (Below.heap_alloc _ _ _ (by simp)).trans (World.alloc_heap_new w _)
  have hI1 : I [] W1 := by rw [← hW1]; exact hI.alloc _ (hI.alloc _ h0)
  have hb1 : R w W1 := by
    rw [← hW1]; exact hRa _ _ (by simp) (hRa _ _ (Nat.le_refl _) hRr)
  refine ⟨w.heap.size + 1, [{ target := .collected w.heap.size, args := #[] }], W1, { target := .fn (.func gf) lb, args := #[.func (.yield (w.heap.size + 1)) #[] #[]] }, W1, gf,
    #[.func (.yield (w.heap.size + 1)) #[] #[]] ++ lb, W1, ?_, ?_, ?_, ?_, fun _ => h1, ?_⟩
  · rw [← hW1, hrec]; exact run_enterLoop_outer _ _ _ _ _
  · simp only [resolve, hg]
    simp [go_sem]
  · intro f' hf'; simp [Target.leads] at hf'; subst hf'; exact hFg
  · simp [invoke, go_sem, eg]
  · refine (hseq (w.heap.size + 1)
      (fun pre W => I pre W ∧ W.heap[w.heap.size + 1]? = some (.loop (rec .ready none)) ∧ W.heap[w.heap.size]? = some (.deferred (some [])))
      (fun pre W => ∃ c, Ix c pre W ∧ W.heap[w.heap.size + 1]? = some (.loop (rec .done (some c))) ∧ W.heap[w.heap.size]? = some (.deferred (some [])))
      W1 hb1
      (fun s A B hs hr => ⟨hIR s A B hs.1 hr, hRb A B _ _ hr (by omega) hs.2.1, hRb A B _ _ hr (Nat.le_refl _) hs.2.2⟩)
      (fun s A B hs hr => by
        obtain ⟨c, hc, hl, hk⟩ := hs
        exact ⟨c, hIxR c s A B hc hr, hRb A B _ _ hr (by omega) hl, hRb A B _ _ hr (Nat.le_refl _) hk⟩)
      ?_ ⟨hI1, hL1, hK1⟩).mono ?_
    · -- one round
      rintro pre x W hlen ⟨hi, hl, hk⟩
      have hlt : w.heap.size + 1 < W.heap.size := (Array.getElem?_eq_some_iff.1 hl).1
      have hy := run_yield (P := P) (args := encs x) hl (by rw [hrec]; exact hps x)
      rw [hrec] at hy
      refine ⟨fn, _, assign, body, hy, roundIn_of_wpIn hfn (hassign _ pre x W _ hi hlen ?_)⟩
      clear hy
      intro a' Wa hkfa hkpa hia hax
      replace hl := hkfa.same _ _ (by omega) hl rfl
      replace hk := hkfa.same _ _ (Nat.le_refl _) hk rfl
      replace hlt : w.heap.size + 1 < Wa.heap.size := (Array.getElem?_eq_some_iff.1 hl).1
      replace hi := hia
      clear hia
      revert hkpa hkfa
      generalize W = Wb
      intro hkfa hkpa
      obtain ⟨W, rfl⟩ : ∃ W, W = Wa := ⟨_, rfl⟩
      refine ⟨_, run_beginRound hl (by rw [hrec]), ?_⟩
      have hl2 : (W.putObj (w.heap.size + 1) (.loop { rec .ready none with state := .busy })).heap[w.heap.size + 1]? = some (.loop { rec .ready none with state := .busy }) := World.putObj_heap_same hlt
      have hk2 : (W.putObj (w.heap.size + 1) (.loop { rec .ready none with state := .busy })).heap[w.heap.size]? = some (.deferred (some [])) := (World.putObj_heap_other (by omega)).trans hk
      have hw2 : Kp W (W.putObj (w.heap.size + 1) (.loop { rec .ready none with state := .busy })) := hKb _ _ _ _ (by omega) hl rfl rfl
      refine wpIn_mono (hbody _ pre x a' _ (hI.putObj _ hi (by omega) hl rfl) ((hAx x a').putObj (s := ()) _ hax (by omega) hl rfl) hlen) ?_
      have fin : ∀ (jump : Option Code) (W3 : World), KeepsFrom w.heap.size (W.putObj (w.heap.size + 1) (.loop { rec .ready none with state := .busy })) W3 →
          (Instr.endRound (w.heap.size + 1) jump).run P W3 = .ok (.bool jump.isNone) (W3.putObj (w.heap.size + 1) (.loop (rec (if jump.isNone then .ready else .done) jump))) ∧
          W3.heap[w.heap.size + 1]? = some (.loop { rec .ready none with state := .busy }) ∧
          (W3.putObj (w.heap.size + 1) (.loop (rec (if jump.isNone then .ready else .done) jump))).heap[w.heap.size + 1]? = some (.loop (rec (if jump.isNone then .ready else .done) jump)) ∧
          (W3.putObj (w.heap.size + 1) (.loop (rec (if jump.isNone then .ready else .done) jump))).heap[w.heap.size]? = some (.deferred (some [])) := fun jump W3 hk3 => by
        have hl3 := hk3.same _ _ (by omega) hl2 rfl
        have := run_endRound (P := P) jump hl3
        rw [hrec] at this ⊢
        exact ⟨this, by rw [hrec] at hl3; exact hl3, World.putObj_heap_same (Array.getElem?_eq_some_iff.1 hl3).1, (World.putObj_heap_other (by omega)).trans (hk3.same _ _ (Nat.le_refl _) hk2 rfl)⟩
      rintro e a3 W3 hp
      cases e with
      | normal =>
        obtain ⟨hk3, hkp3, hi3⟩ := hp
        obtain ⟨hr, hl3, hl4, hk4⟩ := fin none W3 hk3
        exact ⟨_, _, hr, .inl ⟨rfl, ⟨hI.putObj _ hi3 (by omega) hl3 rfl, hl4, hk4⟩, hKt hkpa (hKt (hKt hw2 hkp3) (hKb _ _ _ _ (by omega) hl3 rfl rfl))⟩⟩
      | ret =>
        obtain ⟨hk3, hi3⟩ := hp
        obtain ⟨hr, hl3, hl4, hk4⟩ := fin (some .ret) W3 hk3
        exact ⟨_, _, hr, .inr ⟨rfl, .ret, (hIx _).putObj _ hi3 (by omega) hl3 rfl, hl4, hk4⟩⟩
      | exit id =>
        obtain ⟨hk3, hi3⟩ := hp
        obtain ⟨hr, hl3, hl4, hk4⟩ := fin (some (.exit id)) W3 hk3
        exact ⟨_, _, hr, .inr ⟨rfl, .exit id, (hIx _).putObj _ hi3 (by omega) hl3 rfl, hl4, hk4⟩⟩
      | goto t =>
        obtain ⟨hk3, hi3⟩ := hp
        obtain ⟨hr, hl3, hl4, hk4⟩ := fin (some (.goto t)) W3 hk3
        exact ⟨_, _, hr, .inr ⟨rfl, .goto t, (hIx _).putObj _ hi3 (by omega) hl3 rfl, hl4, hk4⟩⟩
      | panic ch => exact hp.elim
      | outgrown => exact hp.elim
    · -- behind the iterator
      rintro e W2 ⟨⟨v, rfl⟩, (⟨hi, hl, hk⟩ | ⟨pre, hSp, c, hi, hl, hk⟩)⟩
      · exact ⟨none, _, by have := run_endLoop (P := P) hl (by rw [hrec]; simp); rw [hrec] at this; exact this, hdone _ _ (Nat.le_refl _) (hI.putObj _ hi (by omega) hl rfl) ((World.putObj_heap_other (by omega)).trans hk)⟩
      · exact ⟨some c, _, by have := run_endLoop (P := P) hl (by rw [hrec]; simp); rw [hrec] at this; exact this, hstop _ c pre _ (Nat.le_refl _) hSp ((hIx c).putObj _ hi (by omega) hl rfl) ((World.putObj_heap_other (by omega)).trans hk)⟩
end Go.Proofs.YtinndhmjojpekaaDoor.RR

/- The numbers of dirty bags that can be: the iterator. -/
namespace Go.Proofs.YtinndhmjojpekaaDoor
set_option linter.unusedSimpArgs false
set_option linter.unusedVariables false
open Go.RowKit Go.Shelf RR
attribute [local go_sem] Oper.semAt_some

/-- Of the first k numbers from lo on those that can be. -/
def ableK (N lo o f : Int) : Nat → List Int
  | 0 => []
  | k + 1 => if 0 < waysI N (lo + k) o f then ableK N lo o f k ++ [lo + k] else ableK N lo o f k
theorem ableK_prefix (N lo o f : Int) {j : Nat} : ∀ {k : Nat}, j ≤ k → ableK N lo o f j <+: ableK N lo o f k
  | 0, h => by obtain rfl : j = 0 := by omega
               exact List.prefix_refl _
  | k + 1, h => by
    by_cases e : j = k + 1
    · rw [e]; exact List.prefix_refl _
    · refine (ableK_prefix N lo o f (j := j) (k := k) (by omega)).trans ?_
      rw [ableK]
      split
      · exact List.prefix_append _ _
      · exact List.prefix_refl _
theorem KeptB.cell {s0 mb : Nat} {w w' : World} (h : KeptB s0 mb w w') {p : Addr} {v : Value} (hv : w.cell? p = some v) (h1 : p.block < s0) (h2 : p.block ≠ mb) : w'.cell? p = some v :=
  (World.cell?_of_block (w := w) (h.block p.block h1 h2)).trans hv
theorem KeptB.hold {s0 hb : Nat} {N lo hi : Int} {mb kb cb : Nat} {w w' : World} (hH : Hold hb N lo hi mb kb cb w) (h : KeptB s0 mb w w') (h1 : hb < s0) (h2 : kb < s0) (h3 : cb < s0) : Hold hb N lo hi mb kb cb w' :=
  ⟨⟨h.memo hH.ctr.memo, h.cell hH.ctr.known h2 (hH.ctr.memo.ne hH.ctr.known), h.cell hH.ctr.count h3 (hH.ctr.memo.ne hH.ctr.count)⟩, h.cell hH.bags h1 (hH.ctr.memo.ne hH.bags), h.cell hH.lo h1 (hH.ctr.memo.ne hH.lo), h.cell hH.hi h1 (hH.ctr.memo.ne hH.hi), h.cell hH.sets h1 (hH.ctr.memo.ne hH.sets)⟩

set_option maxRecDepth 100000 in
set_option maxHeartbeats 2000000 in
theorem able1_in (n l n0 xb db hb mb kb cb : Nat) (N lo hi o f : Int) (hn : 1 ≤ n) (hN : N ≤ 36) (hlo : 0 ≤ lo ∧ lo ≤ hi ∧ hi ≤ N) (ho : 0 ≤ o ∧ o ≤ N) (hf : 0 ≤ f ∧ f ≤ o) (w W : World)
    (hlt : xb < n0 ∧ db < n0 ∧ hb < n0 ∧ kb < n0 ∧ cb < n0) (hH : Hold hb N lo hi mb kb cb w) (hx : w.cell? ⟨xb, 0, none⟩ = some (.pointer (some ⟨hb, 0, none⟩))) (hd0 : w.cell? ⟨db, 0, none⟩ = some (.int .i64 o)) (hd1 : w.cell? ⟨db, 1, none⟩ = some (.int .i64 f))
    (hn0 : n0 ≤ w.heap.size) (hW : Kept mb w W) (J Jx : List Int → World → Prop) (hJ : Abide (Kept mb) J)
    (hY : ∀ pre x W1, pre ++ [x] <+: ableK N lo o f (hi - lo + 1).toNat → J pre W1 → YieldAt Fence.wide (n - 1) Tryd.prog l #[.int .i64 x] W1 fun e W' =>
      (e = .returned (.bool true) ∧ J (pre ++ [x]) W' ∧ KeptB n0 mb W1 W') ∨ (e = .returned (.bool false) ∧ Jx (pre ++ [x]) W'))
    (h0 : J [] W) :
    CallsIn Fence.wide n Tryd.prog 71 (#[.func (.yield l) #[] #[]] ++ #[.pointer (some ⟨xb, 0, none⟩), .pointer (some ⟨db, 0, none⟩)]) W fun e W' => (∃ v, e = .returned v) ∧
      (J (ableK N lo o f (hi - lo + 1).toNat) W' ∨ (∃ pre, pre <+: ableK N lo o f (hi - lo + 1).toNat ∧ Jx pre W')) := by
  have HX := Lib.hid (fun (W' : World) (h : KeptB n0 mb w W') => And.intro (KeptB.hold hH h hlt.2.2.1 hlt.2.2.2.1 hlt.2.2.2.2) (And.intro (h.cell hx hlt.1 (hH.ctr.memo.ne hx)) (And.intro (h.cell hd0 hlt.2.1 (hH.ctr.memo.ne hd0)) (h.cell hd1 hlt.2.1 (hH.ctr.memo.ne hd1)))))
  have HW := KeptB.of_kept hW hn0
  have HJ := Lib.hid hJ
  have HY := Lib.hid hY
  have FB : ∀ W', KeptB n0 mb w W' → W'.cell? ⟨xb, 0, none⟩ = some (.pointer (some ⟨hb, 0, none⟩)) ∧ W'.cell? ⟨db, 0, none⟩ = some (.int .i64 o) ∧ W'.cell? ⟨db, 1, none⟩ = some (.int .i64 f) ∧ W'.cell? ⟨hb, 1, none⟩ = some (.int .i64 lo) ∧ W'.cell? ⟨hb, 2, none⟩ = some (.int .i64 hi) := fun W' h => ⟨(HX.out W' h).2.1, (HX.out W' h).2.2.1, (HX.out W' h).2.2.2, (HX.out W' h).1.lo, (HX.out W' h).1.hi⟩
  clear hH hx hd0 hd1 hJ hY hW
  refine callsIn_of_wp Tryd.func71 rfl trivial ?_ rfl
  simp only [Tryd.ntmps71, List.size_toArray, List.length_cons, List.length_nil, Nat.reduceAdd, Nat.reduceSub, Array.replicate_succ, Array.replicate_zero, List.push_toArray, List.append_toArray, List.nil_append, List.cons_append]
  gi_wp2
  gi_loopw [4] (fun i wr => ∃ k : Nat, (k : Int) ≤ hi - lo + 1 ∧ i = .int .i64 (lo + k) ∧ J (ableK N lo o f k) wr ∧ KeptB n0 mb w wr) (fun i _ => (hi + 1 - intOf i).toNat)
  case atStart => exact ⟨0, by omega, by simp, h0, HW⟩
  case round =>
    obtain ⟨k, hk, rfl, hJs, HK⟩ := hrel
    have HJs := Lib.hid hJs
    clear hJs HW
    by_cases hlt : lo + (k : Int) ≤ hi
    · have hHr := Lib.hid (HX.out wr HK).1
      have hnn : 1 ≤ n - 1 ∨ True := .inr trivial
      obtain ⟨g, hg⟩ : ∃ g, waysI N (lo + k) o f = g := ⟨_, rfl⟩
      have HG := Lib.hid hg
      clear hg
      gi_wp2
      refine ⟨trivial, ?_⟩
      gi_at_call 29
      refine (callsIn_wide.2 (ways_any hb N lo hi (lo + k) o f mb kb cb _ hHr.out hN (by omega) (by omega) (by omega) (by omega))).mono ?_
      rintro e w2 ⟨rfl, hK2⟩
      rw [HG.out]
      have HJ2 := Lib.hid (HJ.out _ _ _ HJs.out hK2)
      have HK2 : KeptB n0 mb w w2 := HK.trans (KeptB.of_kept hK2 (Nat.le_trans hn0 HK.size))
      clear hK2 HK
      by_cases hpos : 0 < g
      · have hpre : Hid (ableK N lo o f (k + 1) = ableK N lo o f k ++ [lo + k]) := by show _ = _; rw [ableK, if_pos (by rw [HG.out]; exact hpos)]
        have hpx : ableK N lo o f k ++ [lo + k] <+: ableK N lo o f (hi - lo + 1).toNat := by rw [← hpre.out]; exact ableK_prefix N lo o f (by omega)
        obtain ⟨fn, tmps, assign, body, hy, hR⟩ := HY.out _ (lo + k) w2 hpx HJ2.out
        have HPX := Lib.hid hpx
        clear hpx
        gi_wp2
        refine hR.mono ?_
        rintro e W3 (⟨rfl, hJ3, hk3⟩ | ⟨rfl, hJx3⟩)
        · have HK3 : KeptB n0 mb w W3 := HK2.trans hk3
          have HJ3 := Lib.hid hJ3
          clear hJ3 HK2
          gi_wp2
          go_roundw
          case rel => exact ⟨k + 1, by omega, by simp; omega, by rw [hpre.out]; exact HJ3.out, HK3⟩
          case measure => simp [intOf]; omega
        · gi_wp2
          refine bodyPost_ret (results_none rfl _ _ _) rfl ?_
          exact ⟨⟨_, rfl⟩, .inr ⟨_, HPX.out, hJx3⟩⟩
      · have hpre : Hid (ableK N lo o f (k + 1) = ableK N lo o f k) := by show _ = _; rw [ableK, if_neg (by rw [HG.out]; exact hpos)]
        gi_wp2
        refine ⟨fun _ h => (by cases h), ?_⟩
        gi_wp2
        go_roundw
        case rel => exact ⟨k + 1, by omega, by simp; omega, by rw [hpre.out]; exact HJ2.out, HK2⟩
        case measure => simp [intOf]; omega
    · have hke : Hid (k = (hi - lo + 1).toNat) := by show _ = _; omega
      gi_wp2
      go_end0
      exact ⟨⟨_, rfl⟩, .inl (by rw [← hke.out]; exact HJs.out)⟩
end Go.Proofs.YtinndhmjojpekaaDoor

/- A slice that grows by an append in a region that draws its order. -/
namespace Go.Proofs.YtinndhmjojpekaaDoor
set_option linter.unusedSimpArgs false
set_option linter.unusedVariables false
open Go.RowKit Go.Proofs.YtinndhmjojpekaaDoor.Free2

section
variable {base mb i n size : Nat} {e : TypeId} {v0 : Value} {xs news : List Value} {X : XT} {w w' : World}
theorem ownsRow_kept {v : Value} (h : w.ownsRow base e size v n xs) (hK : Kept mb w w') (hm : mb < base) : w'.ownsRow base e size v n xs := by
  obtain ⟨h1, h2⟩ := h
  refine ⟨h1, h2.imp id ?_⟩
  rintro ⟨g, cap, cur, rfl, hb, hg, r⟩
  refine ⟨g, cap, cur, rfl, hb, ?_, r⟩
  rw [hK.block g ?_ (by omega)]
  · exact hg
  · by_cases hlt : g < w.heap.size
    · exact hlt
    · rw [Array.getElem?_eq_none (Nat.le_of_not_lt hlt)] at hg; cases hg
/-- Operation j makes a slice of one element, operation i appends it, operation m keeps what came of it. -/
structure J1 (base mb j i m : Nat) (e : TypeId) (size : Nat) (v0 : Value) (n : Nat) (xs news : List Value) (X : XT) (w : World) : Prop where
  first : X i = none → X m = none
  old : X i = none → w.ownsRow base e size v0 n xs
  now : ∀ v, X i = some v → w.ownsRow base e size v (n + 1) (xs ++ news)
  src : ∀ v, X j = some v → X i = none → ∃ b, v = .slice (some ⟨b, 0, none⟩) 1 1 ∧ b ≠ mb ∧ ∀ t u, news[t]? = some u → w.cell? ((⟨b, 0, none⟩ : Addr).add t) = some u
  same : ∀ v, X m = some v → X i = some v
theorem add_block (b t : Nat) : ((⟨b, 0, none⟩ : Addr).add t).block = b := by simp only [Addr.add]; split <;> rfl
theorem J1.start {j m : Nat} (h : w.ownsRow base e size v0 n xs) : J1 base mb j i m e size v0 n xs news (fun _ => none) w := ⟨fun _ => rfl, fun _ => h, (fun v hv => (by cases hv)), (fun v hv => (by cases hv)), fun v hv => (by cases hv)⟩
theorem J1.skip {j m : Nat} (h : J1 base mb j i m e size v0 n xs news X w) (k : Nat) (v : Value) (h1 : k ≠ i) (h2 : k ≠ j) (h3 : k ≠ m) : J1 base mb j i m e size v0 n xs news (upd X k v) w :=
  ⟨by rw [upd_other _ _ h1.symm, upd_other _ _ h3.symm]; exact h.first, by rw [upd_other _ _ h1.symm]; exact h.old, by rw [upd_other _ _ h1.symm]; exact h.now, by rw [upd_other _ _ h1.symm, upd_other _ _ h2.symm]; exact h.src, by rw [upd_other _ _ h1.symm, upd_other _ _ h3.symm]; exact h.same⟩
theorem J1.kept {j m : Nat} (h : J1 base mb j i m e size v0 n xs news X w) (hK : Kept mb w w') (hm : mb < base) : J1 base mb j i m e size v0 n xs news X w' :=
  ⟨h.first, fun hx => ownsRow_kept (h.old hx) hK hm, fun v hv => ownsRow_kept (h.now v hv) hK hm, fun v hv hx => by
    obtain ⟨b, h1, h2, h3⟩ := h.src v hv hx
    exact ⟨b, h1, h2, fun t u ht => hK.cell (h3 t u ht) (by rw [add_block]; exact h2)⟩, h.same⟩
theorem J1.made {j m b : Nat} (h : J1 base mb j i m e size v0 n xs news X w) (hij : i ≠ j) (hmj : m ≠ j) (hb : b ≠ mb) (hc : ∀ t u, news[t]? = some u → w.cell? ((⟨b, 0, none⟩ : Addr).add t) = some u) : J1 base mb j i m e size v0 n xs news (upd X j (.slice (some ⟨b, 0, none⟩) 1 1)) w :=
  ⟨by rw [upd_other _ _ hij, upd_other _ _ hmj]; exact h.first, by rw [upd_other _ _ hij]; exact h.old, by rw [upd_other _ _ hij]; exact h.now, fun v hv _ => (by rw [upd_same] at hv; cases hv; exact ⟨b, rfl, hb, hc⟩), by rw [upd_other _ _ hij, upd_other _ _ hmj]; exact h.same⟩
theorem J1.set {j m : Nat} {v : Value} (h : J1 base mb j i m e size v0 n xs news X w) (him : m ≠ i) (hx : X i = none) (hr : w'.ownsRow base e size v (n + 1) (xs ++ news)) : J1 base mb j i m e size v0 n xs news (upd X i v) w' :=
  ⟨fun hx => (by rw [upd_same] at hx; cases hx), fun hx => (by rw [upd_same] at hx; cases hx), fun u hu => (by rw [upd_same] at hu; cases hu; exact hr), fun u _ hx => (by rw [upd_same] at hx; cases hx), fun u hu => (by rw [upd_other _ _ him, h.first hx] at hu; cases hu)⟩
theorem J1.keep {j m : Nat} {v : Value} (h : J1 base mb j i m e size v0 n xs news X w) (him : i ≠ m) (hjm : j ≠ m) (hx : X i = some v) : J1 base mb j i m e size v0 n xs news (upd X m v) w :=
  ⟨fun h0 => (by rw [upd_other _ _ him, hx] at h0; cases h0), by rw [upd_other _ _ him]; exact h.old, by rw [upd_other _ _ him]; exact h.now, by rw [upd_other _ _ him, upd_other _ _ hjm]; exact h.src, fun u hu => (by rw [upd_same] at hu; cases hu; rw [upd_other _ _ him]; exact hx)⟩
theorem cells2_new (x y : Value) (t : TypeId) (w : World) : ∀ k u, [x, y][k]? = some u → (w.alloc (.cells #[x, y] t)).cell? ((⟨w.heap.size, 0, none⟩ : Addr).add k) = some u := by
  intro k u h
  match k, h with
  | 0, h => simp at h; subst h; simp [Addr.add, go_sem]
  | 1, h => simp at h; subst h; simp [Addr.add, go_sem]
/-- What the append leaves. -/
theorem KeptB.of_grown {v : Value} (hown : w.ownsRow base e size v n xs) (h : w.grownBy w' v.ownBlock) (hm : mb < base) (hb : base ≤ w.heap.size) : KeptB base mb w w' := by
  have hne : ∀ k, k < base → some k ≠ v.ownBlock := by
    intro k hk he
    rcases hown.2 with ⟨rfl, _⟩ | ⟨g, cap, cur, rfl, hbg, _⟩
    · simp [Value.ownBlock] at he
    · simp [Value.ownBlock] at he; omega
  refine ⟨h.os, h.tape, h.output, h.size, fun k hk _ => h.block k (by omega) (hne k hk), fun ⟨l, hl, hv⟩ => ⟨l, hl.of_block (h.block mb hl.lt (hne mb hm)), hv⟩⟩
end
end Go.Proofs.YtinndhmjojpekaaDoor

/- The numbers of dirty bags that can be, collected. -/
namespace Go.Proofs.YtinndhmjojpekaaDoor
set_option linter.unusedSimpArgs false
set_option linter.unusedVariables false
open Go.RowKit Go.Shelf RR
attribute [local go_sem] Oper.semAt_some

theorem ableK_length (N lo o f : Int) : ∀ k : Nat, (ableK N lo o f k).length ≤ k
  | 0 => Nat.le_refl _
  | k + 1 => by
    have := ableK_length N lo o f k
    rw [ableK]
    split
    · simp; omega
    · omega
section
variable {mb s0 : Nat} {w W W' : World}
theorem Kept.onBelow (h : Kept mb w W) (hB : Below w.heap.size W W') (hm : mb < w.heap.size) : Kept mb w W' :=
  ⟨hB.os.trans h.os, hB.tape.trans h.tape, hB.output.trans h.output, Nat.le_trans h.size hB.size, fun k hk hne => (hB.block k hk).trans (h.block k hk hne),
    fun m => by obtain ⟨l, hl, hv⟩ := h.memo m; exact ⟨l, hl.of_block (hB.block mb hm), hv⟩⟩
theorem Below.putNew {s D : Nat} (o : Obj) (hD : s ≤ D) : Below s W (W.putObj D o) :=
  ⟨rfl, rfl, rfl, by simp, fun k hk => World.putObj_heap_other (by omega)⟩
theorem KeptB.of_below (h : Below s0 W W') (hm : mb < s0) : KeptB s0 mb W W' :=
  ⟨h.os, h.tape, h.output, h.size, fun k hk _ => h.block k hk, fun ⟨l, hl, hv⟩ => ⟨l, hl.of_block (h.block mb hm), hv⟩⟩
theorem Below.of_grown {s : Nat} {row : Option Nat} (h : W.grownBy W' row) (hs : s ≤ W.heap.size) (hr : ∀ r, row = some r → s ≤ r) : Below s W W' :=
  (Below.refl _ _).grown h hs hr
end
theorem T.infoInt : (Tryd.prog.info? 3).map (fun i => (i.zero, i.size, i.bytes)) = some (some (.int .i64 0), 1, 8) := by kernel_rfl

set_option maxRecDepth 100000 in
set_option maxHeartbeats 2000000 in
theorem appendSeq_able (xb db hb mb kb cb : Nat) (N lo hi o f : Int) (hN : N ≤ 36) (hlo : 0 ≤ lo ∧ lo ≤ hi ∧ hi ≤ N) (ho : 0 ≤ o ∧ o ≤ N) (hf : 0 ≤ f ∧ f ≤ o) (w : World)
    (hH : Hold hb N lo hi mb kb cb w) (hx : w.cell? ⟨xb, 0, none⟩ = some (.pointer (some ⟨hb, 0, none⟩))) (hd0 : w.cell? ⟨db, 0, none⟩ = some (.int .i64 o)) (hd1 : w.cell? ⟨db, 1, none⟩ = some (.int .i64 f)) :
    Calls Tryd.prog 70 #[.slice none 0 0, .func (.func 71) #[] #[.pointer (some ⟨xb, 0, none⟩), .pointer (some ⟨db, 0, none⟩)]] w fun e w' =>
      ∃ v, e = .returned v ∧ w'.ownsRow w.heap.size 3 1 v (ableK N lo o f (hi - lo + 1).toNat).length ((ableK N lo o f (hi - lo + 1).toNat).map (Value.int .i64)) ∧ Kept mb w w' := by
  have hmb : mb < w.heap.size := by obtain ⟨l, hl, _⟩ := hH.ctr.memo; exact hl.lt
  have hL := ableK_length N lo o f (hi - lo + 1).toNat
  have hL37 : (ableK N lo o f (hi - lo + 1).toNat).length ≤ 37 := by omega
  have hltb : xb < w.heap.size ∧ db < w.heap.size ∧ hb < w.heap.size ∧ kb < w.heap.size ∧ cb < w.heap.size := ⟨lt_of_cell hx, lt_of_cell hd0, lt_of_cell hH.bags, lt_of_cell hH.ctr.known, lt_of_cell hH.ctr.count⟩
  obtain ⟨i0, hi0, hz0, hz1, hz2⟩ := info_parts T.infoInt
  have K0 : Kept mb w (w.alloc (.cells #[.slice none 0 0] 53)) := (Kept.refl _ _).alloc _
  have hseq : SeqL Fence.wide (5 - 1) Tryd.prog 71 #[.pointer (some ⟨xb, 0, none⟩), .pointer (some ⟨db, 0, none⟩)] (fun x : Int => #[Value.int .i64 x]) (Kept mb) (KeptB w.heap.size mb) (ableK N lo o f (hi - lo + 1).toNat) (w.alloc (.cells #[.slice none 0 0] 53)) := fun l J Jx W hW hJ hJx hY h0 =>
    able1_in (5 - 1) l w.heap.size xb db hb mb kb cb N lo hi o f (by omega) hN hlo ho hf _ W hltb (hH.kept K0) (K0.cell hx (hH.ctr.memo.ne hx)) (K0.cell hd0 (hH.ctr.memo.ne hd0)) (K0.cell hd1 (hH.ctr.memo.ne hd1)) (by simp) hW J Jx hJ hY h0
  have HSEQ := Lib.hid hseq
  have HZ := Lib.hid (And.intro hi0 (And.intro hz0 (And.intro hz1 hz2)))
  clear hseq hi0 hz0 hz1 hz2 hH hx hd0 hd1 hltb
  have bO := Lib.hid (Boxed.new w 53 (.slice none 0 0))
  have HK0 := Lib.hid K0
  clear K0
  refine (callsIn_wide (n := 5)).1 ?_
  refine callsIn_of_wp_marks Tryd.func70 rfl trivial ?_ rfl
  simp only [Tryd.ntmps70, List.size_toArray, List.length_cons, List.length_nil, Nat.reduceAdd, Nat.reduceSub, Array.replicate_succ, Array.replicate_zero, List.push_toArray, List.append_toArray, List.nil_append, List.cons_append]
  gi_wp2
  refine wpIn_rangeFunc_R (F := Fence.wide) (n := 5) rfl (by omega) (gf := 71) (lb := #[.pointer (some ⟨xb, 0, none⟩), .pointer (some ⟨db, 0, none⟩)]) rfl trivial (enters_of Tryd.func71 (by kernel_rfl) rfl)
    HSEQ.out (fun A o _ h => h.alloc o) (Kept.refl _ _) (fun A B k o h hk hA => (h.block k (Array.getElem?_eq_some_iff.1 hA).1 (by simp at hk; omega)).trans hA)
    KeptB.trans (fun W l o o' hl h _ _ => KeptB.of_below (Below.putNew o' (by simp at hl; omega)) hmb) (fun _ => rfl)
    (fun pre W => (∃ v, Boxed W w.heap.size 53 v ∧ W.ownsRow w.heap.size 3 1 v pre.length (pre.map (Value.int .i64))) ∧ Kept mb w W)
    (fun _ _ _ => False)
    ?own (fun _ _ _ _ _ hs _ _ => hs) ?abide (fun _ _ _ _ hs _ => hs)
    ⟨⟨_, bO.out, World.ownsRow_nil _ _ _ _⟩, HK0.out⟩
    (fun x => { tmps := #[.slice none 0 0, .func (.func 71) #[] #[.pointer (some ⟨xb, 0, none⟩), .pointer (some ⟨db, 0, none⟩)], .pointer (some ⟨w.heap.size, 0, none⟩), undef, .slice none 0 0, .int .i64 x, .func (.func 71) #[] #[.pointer (some ⟨xb, 0, none⟩), .pointer (some ⟨db, 0, none⟩)], .int .i64 x, undef, undef, undef, undef, undef], defers := [] }) ?assign ?body ?done ?stop
  case own =>
    rintro pre A B row ⟨⟨v, hv, hrow⟩, hK⟩ hg hr
    refine ⟨⟨v, hv.kept hg (fun e => by have := (hr _ e.symm).1; simp at this; omega), hrow.kept hg ?_⟩, hK.onBelow (Below.of_grown hg hK.size (fun r e => by have := (hr r e).1; simp at this; omega)) hmb⟩
    rcases hrow.2 with ⟨rfl, _⟩ | ⟨g, cap, cur, rfl, _, hgb, _⟩
    · exact .inl rfl
    · refine .inr fun e' => ?_
      obtain ⟨_, ob, hob, hcb⟩ := hr g (by simpa [Value.ownBlock] using e'.symm)
      rw [hgb] at hob; cases hob; cases hcb
  case abide =>
    rintro pre A B ⟨⟨v, hv, hrow⟩, hK⟩ hR
    exact ⟨⟨v, (hR.block _ hv.lt (by omega)).trans hv, ownsRow_kept hrow hR hmb⟩, hK.trans hR⟩
  case assign =>
    intro l x W K hK
    gi_wp2
    exact hK
  case body =>
    rintro l pre x W ⟨⟨v, hv, hrow⟩, hK⟩ hlt
    have hc := hv.cell
    have hpl : pre.length + 1 ≤ 37 := by have := hlt.length_le; simp at this; omega
    have hKs := hK.size
    gi_wp2_with (gi_at_builtin; refine wpListIn_append_own _ rfl _ _ 53 rfl w.heap.size 3 i0 (.int .i64 0) 1 8 Tryd.underlying53 HZ.out.1 HZ.out.2.1 HZ.out.2.2.1 HZ.out.2.2.2 rfl (by decide) _ _ _ rfl (hrow.alloc _) ⟨W.heap.size, 0, none⟩ 1 1 [.int .i64 x] rfl rfl (cell_one_new _ _ _) (by simp [Value.oneCell']) (by unfold maxLen; omega) (by omega) (by simp; omega) ?_; intro v' w1 hown' hgrow _; obtain ⟨g', cap', rfl⟩ := ownsRow_succ hown'; obtain ⟨hv1, hv2, hr2, hk2, hb2⟩ := hv.appended (by decide) hrow hK.size (Nat.le_refl _) hown' hgrow; have hc1 := hv1.cell; have hf1 := hv1.frozen)
    exact ⟨hk2.from _, KeptB.of_below hb2 hmb, ⟨_, hv2, by simpa using hr2⟩, hK.onBelow hb2 hmb⟩
  case done =>
    rintro D W hD ⟨⟨v, hv, hrow⟩, hK⟩ hKD
    have hc := hv.cell
    gi_wp2
    refine ⟨by simp, .inl ⟨_, _, rfl, run_takeDeferred hKD, ?_⟩⟩
    exact ⟨_, results_tmp rfl _ _ _, v, rfl, ownsRow_putObj hrow _ hKD rfl, hK.onBelow (Below.putNew _ (by simp at hD; omega)) hmb⟩
  case stop =>
    rintro D c pre W _ _ h _
    exact h.elim
end Go.Proofs.YtinndhmjojpekaaDoor

