/- Rules: whether a rule is good. -/
import Derived.Test.YthhallnkpbgomaaDoorSampRisk
import Derived.Test.YthhallnkpbgomaaDoorSampRules
import Derived.Test.YthhallnkpbgomaaDoorTwoLoc
namespace Go.Proofs.YthhallnkpbgomaaDoor
set_option linter.unusedSimpArgs false
set_option linter.unusedVariables false
open Go.RowKit Go.Proofs.YthhallnkpbgomaaDoor.ML Go.Proofs.YthhallnkpbgomaaDoor.Samp

/-- Whether a rule is good. -/
def fineB (N g b o a sn sd bn bd : Int) : Bool := decide ((chI N o - mostI N g o a) * sd ≤ chI N o * sn) && decide (mostI N b o a * bd ≤ chI N o * bn)

theorem lowest_spec (n d : Nat) (hd : 0 < d) : ∃ c : Nat, 0 < c ∧ n = c * (lowest n d).1 ∧ d = c * (lowest n d).2 :=
  ⟨Nat.gcd n d, Nat.gcd_pos_of_pos_right n hd, (Nat.mul_div_cancel' (Nat.gcd_dvd_left n d)).symm, (Nat.mul_div_cancel' (Nat.gcd_dvd_right n d)).symm⟩
theorem mostI_bound (N D o f : Int) (hN : N ≤ 36) (h0 : 0 ≤ D) (h1 : D ≤ N) (ho : 0 ≤ o ∧ o ≤ N) : 0 ≤ mostI N D o f ∧ mostI N D o f ≤ 2542620639232 := by
  have key : ∀ n : Nat, 0 ≤ midI N D o (oneTo f) n ∧ midI N D o (oneTo f) n ≤ n * 68719476736 := by
    intro n
    induction n with
    | zero => simp [midI]
    | succ n ih =>
      have hw := waysI_bound N D o n hN h0 h1
      have h01 : oneTo f n = 0 ∨ oneTo f n = 1 := by unfold oneTo; split <;> simp
      rw [midI]
      rcases h01 with h | h
      · rw [h, Int.zero_mul]; omega
      · rw [h, Int.one_mul]; omega
  have := key (o + 1).toNat
  unfold mostI
  omega
/-- The chance that a rule accepts, as a fraction that is the given one. -/
theorem mostV_spec (N D o f : Int) (hN : N ≤ 36) (h0 : 0 ≤ D) (h1 : D ≤ N) (ho : 0 ≤ o ∧ o ≤ N) : ∃ c p q : Int, mostV N D o f = .agg #[.int .i64 p, .int .i64 q] ∧ 0 < c ∧ mostI N D o f = c * p ∧ chI N o = c * q ∧ 0 ≤ p ∧ p ≤ 2542620639232 ∧ 1 ≤ q ∧ q ≤ 68719476736 := by
  have hA := chI_pos N o (by omega) hN ho.1 ho.2
  have hM := mostI_bound N D o f hN h0 h1 ho
  obtain ⟨c, hc, e1, e2⟩ := lowest_spec (mostI N D o f).toNat (chI N o).toNat (by omega)
  refine ⟨c, _, _, rfl, by omega, ?_, ?_, by omega, ?_, ?_, ?_⟩
  · have : ((mostI N D o f).toNat : Int) = mostI N D o f := Int.toNat_of_nonneg hM.1
    rw [← this]; exact_mod_cast e1
  · have : ((chI N o).toNat : Int) = chI N o := Int.toNat_of_nonneg (by omega)
    rw [← this]; exact_mod_cast e2
  · have : (lowest (mostI N D o f).toNat (chI N o).toNat).1 ≤ (mostI N D o f).toNat := by
      conv => rhs; rw [e1]
      exact Nat.le_mul_of_pos_left _ hc
    omega
  · have : (lowest (mostI N D o f).toNat (chI N o).toNat).2 ≠ 0 := by
      intro e; rw [e] at e2; omega
    omega
  · have : (lowest (mostI N D o f).toNat (chI N o).toNat).2 ≤ (chI N o).toNat := by
      conv => rhs; rw [e2]
      exact Nat.le_mul_of_pos_left _ hc
    omega
theorem refuse_eq (c p q sn sd : Int) (hc : 0 < c) : decide ((c * q - c * p) * sd ≤ c * q * sn) = decide ((q - p) * sd ≤ sn * q) := by
  rw [show (c * q - c * p) * sd = c * ((q - p) * sd) by rw [← Int.mul_sub, Int.mul_assoc], show c * q * sn = c * (sn * q) by rw [Int.mul_assoc, Int.mul_comm q sn], decide_eq_decide]
  exact Int.mul_le_mul_left hc
theorem accept_eq (c p q bn bd : Int) (hc : 0 < c) : decide (c * p * bd ≤ c * q * bn) = decide (p * bd ≤ bn * q) := by
  rw [show c * p * bd = c * (p * bd) by rw [Int.mul_assoc], show c * q * bn = c * (bn * q) by rw [Int.mul_assoc, Int.mul_comm q bn], decide_eq_decide]
  exact Int.mul_le_mul_left hc
theorem bigI (x y B : Int) (hx : 0 - B ≤ x ∧ x ≤ B) (hy : 0 ≤ y ∧ y ≤ 1000) (hB : 0 ≤ B ∧ B ≤ 3000000000000) : -3000000000000000 ≤ x * y ∧ x * y ≤ 3000000000000000 := by
  obtain ⟨k, rfl⟩ := Int.eq_ofNat_of_zero_le hy.1
  have h1 : x * k ≤ B * k := Int.mul_le_mul_of_nonneg_right hx.2 (by omega)
  have h2 : (0 - B) * k ≤ x * k := Int.mul_le_mul_of_nonneg_right hx.1 (by omega)
  have h3 : B * k ≤ B * 1000 := Int.mul_le_mul_of_nonneg_left hy.2 hB.1
  have h4 : (0 - B) * k = - (B * k) := by rw [Int.sub_mul]; omega
  omega

set_option maxRecDepth 100000 in
set_option maxHeartbeats 2000000 in
theorem fine_any (hb : Nat) (N lo hi g b o a sn sd bn bd : Int) (mb kb cb : Nat) (r : Bool) (w : World) (hH : Hold hb N lo hi mb kb cb w) (hN : N ≤ 36) (hg : 0 ≤ g ∧ g ≤ N) (hb' : 0 ≤ b ∧ b ≤ N) (ho : 0 ≤ o ∧ o ≤ N)
    (hs : givenB sn sd = true) (hq : givenB bn bd = true) (hr : fineB N g b o a sn sd bn bd = r) :
    Calls Tryd.prog 61 #[.pointer (some ⟨hb, 0, none⟩), .agg #[.int .i64 o, .int .i64 a], .int .i64 g, .int .i64 b, .agg #[.int .i64 sn, .int .i64 sd], .agg #[.int .i64 bn, .int .i64 bd]] w fun e w' => e = .returned (.bool r) ∧ Kept mb w w' := by
  obtain ⟨c1, p1, q1, hv1, hc1, e1, e2, b1, b2, b3, b4⟩ := mostV_spec N g o a hN hg.1 hg.2 ho
  obtain ⟨c2, p2, q2, hv2, hc2, e3, e4, b5, b6, b7, b8⟩ := mostV_spec N b o a hN hb'.1 hb'.2 ho
  have hr' : (decide ((q1 - p1) * sd ≤ sn * q1) && decide (p2 * bd ≤ bn * q2)) = r := by
    rw [← hr, fineB, ← refuse_eq c1 p1 q1 sn sd hc1, ← accept_eq c2 p2 q2 bn bd hc2, ← e1, ← e2, ← e3, ← e4]
  have hG := (givenB_iff sn sd).1 hs
  have hG2 := (givenB_iff bn bd).1 hq
  have m1 := Lib.hid (bigI (q1 - p1) sd 3000000000000 (by omega) (by omega) (by omega))
  have m2 := Lib.hid (show -3000000000000000 ≤ sn * q1 ∧ sn * q1 ≤ 3000000000000000 by rw [Int.mul_comm]; exact bigI q1 sn 3000000000000 (by omega) (by omega) (by omega))
  have m3 := Lib.hid (bigI p2 bd 3000000000000 (by omega) (by omega) (by omega))
  have m4 := Lib.hid (show -3000000000000000 ≤ bn * q2 ∧ bn * q2 ≤ 3000000000000000 by rw [Int.mul_comm]; exact bigI q2 bn 3000000000000 (by omega) (by omega) (by omega))
  have BQ := Lib.hid (And.intro b1 (And.intro b2 (And.intro b3 b4)))
  have HR := Lib.hid hr'
  have HV := Lib.hid (And.intro hv1 hv2)
  have K0 : Kept mb w (((w.alloc (.cells #[.int .i64 o, .int .i64 a] 27)).alloc (.cells #[.int .i64 sn, .int .i64 sd] 31)).alloc (.cells #[.int .i64 bn, .int .i64 bd] 31)) := (((Kept.refl _ w).alloc _).alloc _).alloc _
  have H0 := hH.kept K0
  have d0 : (((w.alloc (.cells #[.int .i64 o, .int .i64 a] 27)).alloc (.cells #[.int .i64 sn, .int .i64 sd] 31)).alloc (.cells #[.int .i64 bn, .int .i64 bd] 31)).cell? ⟨w.heap.size, 0, none⟩ = some (.int .i64 o) := by simp [go_sem]
  have d1 : (((w.alloc (.cells #[.int .i64 o, .int .i64 a] 27)).alloc (.cells #[.int .i64 sn, .int .i64 sd] 31)).alloc (.cells #[.int .i64 bn, .int .i64 bd] 31)).cell? ⟨w.heap.size, 1, none⟩ = some (.int .i64 a) := by simp [go_sem]
  have d2 : (((w.alloc (.cells #[.int .i64 o, .int .i64 a] 27)).alloc (.cells #[.int .i64 sn, .int .i64 sd] 31)).alloc (.cells #[.int .i64 bn, .int .i64 bd] 31)).cell? ⟨w.heap.size + 1, 0, none⟩ = some (.int .i64 sn) := by simp [go_sem]
  have d3 : (((w.alloc (.cells #[.int .i64 o, .int .i64 a] 27)).alloc (.cells #[.int .i64 sn, .int .i64 sd] 31)).alloc (.cells #[.int .i64 bn, .int .i64 bd] 31)).cell? ⟨w.heap.size + 1, 1, none⟩ = some (.int .i64 sd) := by simp [go_sem]
  have d4 : (((w.alloc (.cells #[.int .i64 o, .int .i64 a] 27)).alloc (.cells #[.int .i64 sn, .int .i64 sd] 31)).alloc (.cells #[.int .i64 bn, .int .i64 bd] 31)).cell? ⟨w.heap.size + 1 + 1, 0, none⟩ = some (.int .i64 bn) := by simp [go_sem]
  have d5 : (((w.alloc (.cells #[.int .i64 o, .int .i64 a] 27)).alloc (.cells #[.int .i64 sn, .int .i64 sd] 31)).alloc (.cells #[.int .i64 bn, .int .i64 bd] 31)).cell? ⟨w.heap.size + 1 + 1, 1, none⟩ = some (.int .i64 bd) := by simp [go_sem]
  have HC := Lib.hid (And.intro d0 (And.intro d1 (And.intro d2 (And.intro d3 (And.intro d4 d5)))))
  have HNE := Lib.hid (And.intro (H0.ctr.memo.ne d0) (And.intro (H0.ctr.memo.ne d2) (H0.ctr.memo.ne d4)))
  have HK0 := Lib.hid K0
  have HH0 := Lib.hid H0
  have HRG := Lib.hid (And.intro hN (And.intro hg (And.intro hb' ho)))
  clear hv1 hv2 e1 e2 e3 e4 hc1 hc2 hr hr' hs hq hG hG2 b1 b2 b3 b4 b5 b6 b7 b8 K0 H0 d0 d1 d2 d3 d4 d5 hH hN hg hb' ho
  go_enter Tryd.func61, Tryd.ntmps61
  go_wp2_with fail
  generalize (((w.alloc (.cells #[.int .i64 o, .int .i64 a] 27)).alloc (.cells #[.int .i64 sn, .int .i64 sd] 31)).alloc (.cells #[.int .i64 bn, .int .i64 bd] 31)) = W0 at *
  generalize hbb : w.heap.size = bb at *
  have HBB := Lib.hid hbb
  clear hbb
  have hF : ∀ W, KeptB W0.heap.size mb W0.drew W → Hold hb N lo hi mb kb cb W ∧ W.cell? ⟨bb, 0, none⟩ = some (.int .i64 o) ∧ W.cell? ⟨bb, 1, none⟩ = some (.int .i64 a) ∧ W0.heap.size ≤ W.heap.size ∧ mb < W.heap.size := fun W hW => by
    have hK : Kept mb W0.drew W := hW.kept (Nat.le_refl _)
    have hH : Hold hb N lo hi mb kb cb W := (HH0.out.kept (Kept.drew (Kept.refl _ _))).kept hK
    obtain ⟨l, hl, _⟩ := hH.ctr.memo
    exact ⟨hH, hK.cell HC.out.1 HNE.out.1, hK.cell HC.out.2.1 HNE.out.1, hW.size, hl.lt⟩
  refine Free2.wp_free (R := KeptB W0.heap.size mb) (J := J2 mb W0.heap.size 8 10 9 11 (.int .i64 0) (.int .i64 0) (.int .i64 p1) (.int .i64 q1) (.int .i64 p2) (.int .i64 q2)) (by kernel_rfl) (by kernel_rfl) (KeptB.refl _ _) (fun _ _ _ => KeptB.trans) J2.start ?_
  refine Free2.Chain.ex ?_ 0 rfl [] [0] (by kernel_rfl) (by kernel_rfl) rfl (KeptB.refl _ _) (fun X W v h => J2.skip h 0 v (show (0 : Nat) ≠ 8 by decide) (show (0 : Nat) ≠ 10 by decide) (show (0 : Nat) ≠ 9 by decide) (show (0 : Nat) ≠ 11 by decide)) ?_ ?_
  rotate_left
  · (intro ev W hb hR hO hD; have hS := hF W hR; obtain ⟨hb1, hb2, hb3⟩ := hb; simp only [Free.AllDeps, Free.AllOuts, Free.At, List.getElem?_cons_succ, List.getElem?_cons_zero, Array.getD_eq_getD_getElem?, List.getElem?_toArray, Option.getD_some, and_true] at hO hD; go_simp; rfl)
  simp only [List.nil_append, List.cons_append]
  refine Free2.Chain.ex ?_ 1 rfl [] [7] (by kernel_rfl) (by kernel_rfl) rfl (KeptB.refl _ _) (fun X W v h => J2.skip h 1 v (show (1 : Nat) ≠ 8 by decide) (show (1 : Nat) ≠ 10 by decide) (show (1 : Nat) ≠ 9 by decide) (show (1 : Nat) ≠ 11 by decide)) ?_ ?_
  rotate_left
  · (intro ev W hb hR hO hD; have hS := hF W hR; obtain ⟨hb1, hb2, hb3⟩ := hb; simp only [Free.AllDeps, Free.AllOuts, Free.At, List.getElem?_cons_succ, List.getElem?_cons_zero, Array.getD_eq_getD_getElem?, List.getElem?_toArray, Option.getD_some, and_true] at hO hD; go_simp; rfl)
  simp only [List.nil_append, List.cons_append]
  refine Free2.Chain.ex ?_ 2 rfl [] [2] (by kernel_rfl) (by kernel_rfl) rfl (KeptB.refl _ _) (fun X W v h => J2.skip h 2 v (show (2 : Nat) ≠ 8 by decide) (show (2 : Nat) ≠ 10 by decide) (show (2 : Nat) ≠ 9 by decide) (show (2 : Nat) ≠ 11 by decide)) ?_ ?_
  rotate_left
  · (intro ev W hb hR hO hD; have hS := hF W hR; obtain ⟨hb1, hb2, hb3⟩ := hb; simp only [Free.AllDeps, Free.AllOuts, Free.At, List.getElem?_cons_succ, List.getElem?_cons_zero, Array.getD_eq_getD_getElem?, List.getElem?_toArray, Option.getD_some, and_true] at hO hD; go_simp; rfl)
  simp only [List.nil_append, List.cons_append]
  refine Free2.Chain.pr (fun v _ => v = .agg #[.int .i64 p1, .int .i64 q1]) 3 rfl [(0, 15), (1, 16), (2, 17)] [] (by kernel_rfl) (by kernel_rfl) rfl (fun _ _ _ _ h => h) ?_ ?_
  · (intro ev W X hb hR hO hD hj hx hax; have hS := hF W hR; obtain ⟨hb1, hb2, hb3⟩ := hb; simp only [Free.AllDeps, Free.AllOuts, Free.At, List.getElem?_cons_succ, List.getElem?_cons_zero, Array.getD_eq_getD_getElem?, List.getElem?_toArray, Option.getD_some, and_true] at hO hD; simp only [Free2.AllX, and_true] at hax; go_simp; refine (accepts_any hb N lo hi g o a mb kb cb _ _ HV.out.1 hS.1 HRG.out.1 HRG.out.2.1.1 HRG.out.2.1.2 HRG.out.2.2.2).mono ?_; rintro e W1 ⟨rfl, hK1⟩; exact ⟨_, rfl, KeptB.of_kept hK1 hS.2.2.2.1, rfl, (hj.kept hK1).skip 3 _ (show (3 : Nat) ≠ 8 by decide) (show (3 : Nat) ≠ 10 by decide) (show (3 : Nat) ≠ 9 by decide) (show (3 : Nat) ≠ 11 by decide)⟩)
  simp only [List.nil_append, List.cons_append]
  refine Free2.Chain.ex ?_ 4 rfl [] [0] (by kernel_rfl) (by kernel_rfl) rfl (KeptB.refl _ _) (fun X W v h => J2.skip h 4 v (show (4 : Nat) ≠ 8 by decide) (show (4 : Nat) ≠ 10 by decide) (show (4 : Nat) ≠ 9 by decide) (show (4 : Nat) ≠ 11 by decide)) ?_ ?_
  rotate_left
  · (intro ev W hb hR hO hD; have hS := hF W hR; obtain ⟨hb1, hb2, hb3⟩ := hb; simp only [Free.AllDeps, Free.AllOuts, Free.At, List.getElem?_cons_succ, List.getElem?_cons_zero, Array.getD_eq_getD_getElem?, List.getElem?_toArray, Option.getD_some, and_true] at hO hD; go_simp; rfl)
  simp only [List.nil_append, List.cons_append]
  refine Free2.Chain.ex ?_ 5 rfl [] [7] (by kernel_rfl) (by kernel_rfl) rfl (KeptB.refl _ _) (fun X W v h => J2.skip h 5 v (show (5 : Nat) ≠ 8 by decide) (show (5 : Nat) ≠ 10 by decide) (show (5 : Nat) ≠ 9 by decide) (show (5 : Nat) ≠ 11 by decide)) ?_ ?_
  rotate_left
  · (intro ev W hb hR hO hD; have hS := hF W hR; obtain ⟨hb1, hb2, hb3⟩ := hb; simp only [Free.AllDeps, Free.AllOuts, Free.At, List.getElem?_cons_succ, List.getElem?_cons_zero, Array.getD_eq_getD_getElem?, List.getElem?_toArray, Option.getD_some, and_true] at hO hD; go_simp; rfl)
  simp only [List.nil_append, List.cons_append]
  refine Free2.Chain.ex ?_ 6 rfl [] [3] (by kernel_rfl) (by kernel_rfl) rfl (KeptB.refl _ _) (fun X W v h => J2.skip h 6 v (show (6 : Nat) ≠ 8 by decide) (show (6 : Nat) ≠ 10 by decide) (show (6 : Nat) ≠ 9 by decide) (show (6 : Nat) ≠ 11 by decide)) ?_ ?_
  rotate_left
  · (intro ev W hb hR hO hD; have hS := hF W hR; obtain ⟨hb1, hb2, hb3⟩ := hb; simp only [Free.AllDeps, Free.AllOuts, Free.At, List.getElem?_cons_succ, List.getElem?_cons_zero, Array.getD_eq_getD_getElem?, List.getElem?_toArray, Option.getD_some, and_true] at hO hD; go_simp; rfl)
  simp only [List.nil_append, List.cons_append]
  refine Free2.Chain.pr (fun v _ => v = .agg #[.int .i64 p2, .int .i64 q2]) 7 rfl [(4, 19), (5, 20), (6, 21), (3, 18)] [] (by kernel_rfl) (by kernel_rfl) rfl (fun _ _ _ _ h => h) ?_ ?_
  · (intro ev W X hb hR hO hD hj hx hax; have hS := hF W hR; obtain ⟨hb1, hb2, hb3⟩ := hb; simp only [Free.AllDeps, Free.AllOuts, Free.At, List.getElem?_cons_succ, List.getElem?_cons_zero, Array.getD_eq_getD_getElem?, List.getElem?_toArray, Option.getD_some, and_true] at hO hD; simp only [Free2.AllX, and_true] at hax; go_simp; refine (accepts_any hb N lo hi b o a mb kb cb _ _ HV.out.2 hS.1 HRG.out.1 HRG.out.2.2.1.1 HRG.out.2.2.1.2 HRG.out.2.2.2).mono ?_; rintro e W1 ⟨rfl, hK1⟩; exact ⟨_, rfl, KeptB.of_kept hK1 hS.2.2.2.1, rfl, (hj.kept hK1).skip 7 _ (show (7 : Nat) ≠ 8 by decide) (show (7 : Nat) ≠ 10 by decide) (show (7 : Nat) ≠ 9 by decide) (show (7 : Nat) ≠ 11 by decide)⟩)
  simp only [List.nil_append, List.cons_append]
  refine Free2.Chain.pr (fun v _ => ∃ b, v = ptr b) 8 rfl [] [] (by kernel_rfl) (by kernel_rfl) rfl (fun _ _ _ _ h => h) ?_ ?_
  · (intro ev W X hb hR hO hD hj hx hax; have hS := hF W hR; obtain ⟨hb1, hb2, hb3⟩ := hb; simp only [Free.AllDeps, Free.AllOuts, Free.At, List.getElem?_cons_succ, List.getElem?_cons_zero, Array.getD_eq_getD_getElem?, List.getElem?_toArray, Option.getD_some, and_true] at hO hD; simp only [Free2.AllX, and_true] at hax; go_simp; exact ⟨KeptB.of_kept ((Kept.refl _ _).alloc _) hS.2.2.2.1, ⟨_, rfl⟩, hj.new1 _ (by decide) (by decide) (by decide) hx hS.2.2.2.1 hS.2.2.2.2⟩)
  simp only [List.nil_append, List.cons_append]
  refine Free2.Chain.pr (fun v _ => ∃ b, v = ptr b) 9 rfl [] [] (by kernel_rfl) (by kernel_rfl) rfl (fun _ _ _ _ h => h) ?_ ?_
  · (intro ev W X hb hR hO hD hj hx hax; have hS := hF W hR; obtain ⟨hb1, hb2, hb3⟩ := hb; simp only [Free.AllDeps, Free.AllOuts, Free.At, List.getElem?_cons_succ, List.getElem?_cons_zero, Array.getD_eq_getD_getElem?, List.getElem?_toArray, Option.getD_some, and_true] at hO hD; simp only [Free2.AllX, and_true] at hax; go_simp; exact ⟨KeptB.of_kept ((Kept.refl _ _).alloc _) hS.2.2.2.1, ⟨_, rfl⟩, hj.new2 _ (by decide) (by decide) (by decide) hx hS.2.2.2.1 hS.2.2.2.2⟩)
  simp only [List.nil_append, List.cons_append]
  refine Free2.Chain.pr (fun _ _ => True) 10 rfl [(8, 13), (3, 18), (7, 22), (0, 15), (1, 16), (2, 17), (3, 18), (8, 13), (9, 14)] [] (by kernel_rfl) (by kernel_rfl) rfl (fun _ _ _ _ h => h) ?_ ?_
  · (intro ev W X hb hR hO hD hj hx hax; have hS := hF W hR; obtain ⟨hb1, hb2, hb3⟩ := hb; simp only [Free.AllDeps, Free.AllOuts, Free.At, List.getElem?_cons_succ, List.getElem?_cons_zero, Array.getD_eq_getD_getElem?, List.getElem?_toArray, Option.getD_some, and_true] at hO hD; simp only [Free2.AllX, and_true] at hax; obtain ⟨b, hb9, ht, hkb, hjj⟩ := hj.at1 (by decide) (by decide) (by decide) hax.1 hx; have t0 := ht.c0; have t1 := ht.c1; have t2 := ht.f0; have t3 := ht.f1; have hv := hD.2.1; go_simp; exact ⟨hkb, hjj _⟩)
  simp only [List.nil_append, List.cons_append]
  refine Free2.Chain.pr (fun _ _ => True) 11 rfl [(9, 14), (7, 22), (0, 15), (1, 16), (2, 17), (3, 18), (4, 19), (5, 20), (6, 21), (7, 22), (8, 13), (9, 14)] [] (by kernel_rfl) (by kernel_rfl) rfl (fun _ _ _ _ h => h) ?_ ?_
  · (intro ev W X hb hR hO hD hj hx hax; have hS := hF W hR; obtain ⟨hb1, hb2, hb3⟩ := hb; simp only [Free.AllDeps, Free.AllOuts, Free.At, List.getElem?_cons_succ, List.getElem?_cons_zero, Array.getD_eq_getD_getElem?, List.getElem?_toArray, Option.getD_some, and_true] at hO hD; simp only [Free2.AllX, and_true] at hax; obtain ⟨b, hb9, ht, hkb, hjj⟩ := hj.at2 (by decide) (by decide) (by decide) hax.1 hx; have t0 := ht.c0; have t1 := ht.c1; have t2 := ht.f0; have t3 := ht.f1; have hv := hD.2.1; go_simp; exact ⟨hkb, hjj _⟩)
  simp only [List.nil_append, List.cons_append]
  intro xs w5 hR hV hX
  obtain ⟨X, hj, hx⟩ := hX
  obtain ⟨x1, x2, h1, h2, T1, T2⟩ := hj.done (hx 8 (show (8 : Nat) < 12 by decide)) (hx 9 (show (9 : Nat) < 12 by decide)) (hx 10 (show (10 : Nat) < 12 by decide)) (hx 11 (show (11 : Nat) < 12 by decide))
  simp only [Free.AllV, Free.At, List.length_cons, List.length_nil, Nat.reduceAdd, List.getElem?_cons_succ, List.getElem?_cons_zero, true_and, and_true] at hV
  simp only [Free.putsFrom, Act.put, hV, h1, h2, List.setIfInBounds_toArray, List.set_cons_succ, List.set_cons_zero]
  have hK := hR.kept (Nat.le_refl _)
  have r1 := T1.c0
  have r2 := T1.c1
  have r3 := T2.c0
  have r4 := T2.c1
  have r5 := hK.cell HC.out.2.2.1 HNE.out.2.1
  have r6 := hK.cell HC.out.2.2.2.1 HNE.out.2.1
  have r7 := hK.cell HC.out.2.2.2.2.1 HNE.out.2.2
  have r8 := hK.cell HC.out.2.2.2.2.2 HNE.out.2.2
  have HK1 := Lib.hid (HK0.out.drew.trans hK)
  have n1 := m1.out
  have n2 := m2.out
  have n3 := m3.out
  have n4 := m4.out
  obtain ⟨b1, b2, b3, b4⟩ := BQ.out
  clear hK hR hV hj hx hF
  cases ht : decide ((q1 - p1) * sd ≤ sn * q1)
  all_goals
    simp at ht
    go_wp2_with fail
    go_ret
    exact ⟨by rw [← HR.out]; first | (simp [ht]; done) | (simp [Int.not_le.mpr ht]; done), HK1.out⟩
end Go.Proofs.YthhallnkpbgomaaDoor
