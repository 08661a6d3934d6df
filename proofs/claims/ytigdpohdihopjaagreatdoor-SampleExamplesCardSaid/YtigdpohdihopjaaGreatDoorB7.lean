/- The examples of chapter 01's laws: alive returns true. -/
import Derived.Test.YtigdpohdihopjaaGreatDoorB6
import Derived.Test.YtigdpohdihopjaaGreatDoorCards
import Derived.Test.YtigdpohdihopjaaGreatDoorTie
import Derived.ProofKit
import Derived.LaidMore
import Derived.Stop.Joined
import Derived.Laws.IdiomArrays
import Derived.Lib.SmallJoins
import Derived.Deep.DeepHandedRow
import Derived.Test.YtigdpohdihopjaaGreatDoorRows
import Derived.WalkKit
import Derived.OpenShut
import Derived.JoinedCond
import Derived.Carry
import Derived.Deep.Strs
import Derived.Test.YtigdpohdihopjaaGreatDoorProg
import Derived.ChangeShapes
namespace Go.Proofs.YtigdpohdihopjaaGreatDoor
set_option linter.unusedSimpArgs false
set_option linter.unusedVariables false
open Go.RowKit Go.Proofs.YtigdpohdihopjaaGreatDoor.ML Go.Proofs.YtigdpohdihopjaaGreatDoor.Samp

theorem IL.of_sl {xs : List Int} {v : Value} {w : World} (h : SlI xs v w) (hm : xs.length ≤ maxLen) : IL xs v w :=
  let ⟨b, h1, h2⟩ := h
  ⟨some ⟨b, 0, none⟩, _, h1, hm, fun _ => ⟨b, 0, rfl, fun k hk => by rw [Nat.zero_add]; exact h2 k hk⟩⟩
theorem tabD_mk {w : World} (h0 : w.cell? ⟨0, 0, none⟩ = some (dblF 125)) (h1 : w.cell? ⟨0, 1, none⟩ = some (dblF 126)) (h2 : w.cell? ⟨0, 2, none⟩ = some (dblF 127)) : TabD w := ⟨h0, h1, h2⟩
theorem IL.stable (xs : List Int) : Free.Stable Free.Bel (IL xs) := fun _ _ _ hB h => h.keeps hB

set_option maxRecDepth 100000 in
set_option maxHeartbeats 8000000 in
theorem alive_any (w : World) (hT : TabD w) :
    Calls Tryz.prog 5 #[] w fun e w' => e = .returned (.bool true) ∧ Below w.heap.size w w' := by
  have t0 := hT.1
  have t1 := hT.2.1
  have t2 := hT.2.2
  clear hT
  go_enter Tryz.func5, Tryz.ntmps5
  go_wp2_with fail
  refine (bags_any 10 w).mono ?_
  rintro e w1 ⟨rfl, hB⟩
  generalize hbb : w.heap.size = bb at *
  have HBB := Lib.hid hbb
  have hzz : bb ≤ w1.heap.size := by have := hB.size; omega
  have hB0 : Free.Bel w w1 := by show Below w.heap.size w w1; rw [hbb]; exact hB
  clear hbb
  have HB_w1 := Lib.hid (show Below bb w w1 from hB)
  have hz_w1 : bb ≤ w1.heap.size := hzz
  have FA : ∀ W, Free.Bel w1 W → W.cell? ⟨0, 0, none⟩ = some (dblF 125) ∧ W.cell? ⟨0, 1, none⟩ = some (dblF 126) ∧ W.cell? ⟨0, 2, none⟩ = some (dblF 127) ∧ bb ≤ W.heap.size := fun W hW => ⟨keepsB (Free.Bel.trans _ _ _ hB0 hW) t0, keepsB (Free.Bel.trans _ _ _ hB0 hW) t1, keepsB (Free.Bel.trans _ _ _ hB0 hW) t2, Nat.le_trans hz_w1 hW.size⟩
  clear hB hB0 hzz t0 t1 t2
  go_wp2_with fail
  have hN : Free.Bel w1 (w1.alloc (.cells #[.int .i64 10, .int .i64 0, .int .i64 10] 28)) := (Bel.allocT (Free.Bel.refl w1) _)
  have n_g10_0 : (w1.alloc (.cells #[.int .i64 10, .int .i64 0, .int .i64 10] 28)).cell? ⟨w1.heap.size, 0, none⟩ = some (.int .i64 10) := by simp [go_sem]
  have n_g10_1 : (w1.alloc (.cells #[.int .i64 10, .int .i64 0, .int .i64 10] 28)).cell? ⟨w1.heap.size, 1, none⟩ = some (.int .i64 0) := by simp [go_sem]
  have n_g10_2 : (w1.alloc (.cells #[.int .i64 10, .int .i64 0, .int .i64 10] 28)).cell? ⟨w1.heap.size, 2, none⟩ = some (.int .i64 10) := by simp [go_sem]
  generalize (w1.alloc (.cells #[.int .i64 10, .int .i64 0, .int .i64 10] 28)) = w2 at *
  obtain ⟨g10, hgz⟩ : ∃ x, x = w1.heap.size := ⟨_, rfl⟩
  rw [← hgz] at n_g10_0 n_g10_1 n_g10_2 ⊢
  clear hgz
  have HB_w2 := Lib.hid (HB_w1.out.trans ((hN).mono hz_w1))
  have hz_w2 : bb ≤ w2.heap.size := Nat.le_trans hz_w1 (hN).size
  have FN : ∀ W, Free.Bel w2 W → W.cell? ⟨0, 0, none⟩ = some (dblF 125) ∧ W.cell? ⟨0, 1, none⟩ = some (dblF 126) ∧ W.cell? ⟨0, 2, none⟩ = some (dblF 127) ∧ bb ≤ W.heap.size ∧ W.cell? ⟨g10, 0, none⟩ = some (.int .i64 10) ∧ W.cell? ⟨g10, 1, none⟩ = some (.int .i64 0) ∧ W.cell? ⟨g10, 2, none⟩ = some (.int .i64 10) := fun W hW => by
    obtain ⟨a0, a1, a2, a3⟩ := FA W (Free.Bel.trans _ _ _ (hN) hW)
    exact ⟨a0, a1, a2, a3, keepsB hW n_g10_0, keepsB hW n_g10_1, keepsB hW n_g10_2⟩
  clear FA HB_w1 hz_w1
  have FA := FN
  clear FN
  clear hN n_g10_0 n_g10_1 n_g10_2
  refine (al_ways _).mono ?_
  rintro e w3 ⟨rfl, hB⟩
  have HB_w3 := Lib.hid (HB_w2.out.trans ((hB).mono hz_w2))
  have hz_w3 : bb ≤ w3.heap.size := Nat.le_trans hz_w2 (hB).size
  have FN : ∀ W, Free.Bel w3 W → W.cell? ⟨0, 0, none⟩ = some (dblF 125) ∧ W.cell? ⟨0, 1, none⟩ = some (dblF 126) ∧ W.cell? ⟨0, 2, none⟩ = some (dblF 127) ∧ bb ≤ W.heap.size ∧ W.cell? ⟨g10, 0, none⟩ = some (.int .i64 10) ∧ W.cell? ⟨g10, 1, none⟩ = some (.int .i64 0) ∧ W.cell? ⟨g10, 2, none⟩ = some (.int .i64 10) := fun W hW => by
    obtain ⟨a0, a1, a2, a3, a4, a5, a6⟩ := FA W (Free.Bel.trans _ _ _ (hB) hW)
    exact ⟨a0, a1, a2, a3, a4, a5, a6⟩
  clear FA HB_w2 hz_w2
  have FA := FN
  clear FN
  clear hB
  go_wp2_with fail
  have hF : ∀ W, Below w3.heap.size w3.drew W → Free.Bel w3 W := fun W hW => (show Below w3.heap.size w3 W from ((Below.refl _ w3).drew).trans hW)
  refine Free2.wp_free (R := Below w3.heap.size) (J := LL w3.heap.size [⟨6, 7, (.cells #[.int .i64 0, .int .i64 0] 31), (.cells #[.int .i64 1, .int .i64 2] 31)⟩]) (by kernel_rfl) (by kernel_rfl) (Below.refl _) (fun _ _ _ => Below.trans) (LL.start (Nat.le_refl _)) ?_
  refine Free2.Chain.ex ?_ 0 rfl [] [1] (by kernel_rfl) (by kernel_rfl) rfl (Below.refl _) (fun X W v h => LL.skip h 0 v (by simp)) ?_ ?_
  rotate_left
  · (intro ev W hb hR hO hD; have hS := hF W hR; obtain ⟨hb1, hb2, hb3⟩ := hb; simp only [Free.AllDeps, Free.AllOuts, Free.At, List.getElem?_cons_succ, List.getElem?_cons_zero, Array.getD_eq_getD_getElem?, List.getElem?_toArray, Option.getD_some, and_true] at hO hD; go_simp; rfl)
  simp only [List.nil_append, List.cons_append]
  refine Free2.Chain.pr (fun v _ => v = i2 3 1) 1 rfl [] [] (by kernel_rfl) (by kernel_rfl) rfl (fun _ _ _ _ h => h) ?_ ?_
  · (intro ev W X hb hR hO hD hj hx hax; have hS := hF W hR; obtain ⟨hb1, hb2, hb3⟩ := hb; simp only [Free.AllDeps, Free.AllOuts, Free.At, List.getElem?_cons_succ, List.getElem?_cons_zero, Array.getD_eq_getD_getElem?, List.getElem?_toArray, Option.getD_some, and_true] at hO hD; simp only [Free2.AllX, and_true] at hax; go_simp; refine yields_enter ?_; (with_reducible refine (drawn_any 3 1 _).mono ?_); rintro e W2 ⟨rfl, hB2⟩; exact ⟨_, rfl, hB2.mono hj.size, rfl, (hj.bel hB2).skip 1 _ (by simp)⟩)
  simp only [List.nil_append, List.cons_append]
  refine Free2.Chain.pr (fun v _ => v = .tuple #[i2 1 2, .int .i64 0]) 2 rfl [(0, 31), (1, 32), (1, 32)] [] (by kernel_rfl) (by kernel_rfl) rfl (fun _ _ _ _ h => h) ?_ ?_
  · (intro ev W X hb hR hO hD hj hx hax; have hS := hF W hR; obtain ⟨hb1, hb2, hb3⟩ := hb; simp only [Free.AllDeps, Free.AllOuts, Free.At, List.getElem?_cons_succ, List.getElem?_cons_zero, Array.getD_eq_getD_getElem?, List.getElem?_toArray, Option.getD_some, and_true] at hO hD; simp only [Free2.AllX, and_true] at hax; go_simp; refine yields_enter ?_; (with_reducible refine (al_chance _).mono ?_); rintro e W2 ⟨rfl, hB2⟩; exact ⟨_, rfl, hB2.mono hj.size, rfl, (hj.bel hB2).skip 2 _ (by simp)⟩)
  simp only [List.nil_append, List.cons_append]
  refine Free2.Chain.ex ?_ 3 rfl [(2, 33)] [] (by kernel_rfl) (by kernel_rfl) rfl (Below.refl _) (fun X W v h => LL.skip h 3 v (by simp)) ?_ ?_
  rotate_left
  · (intro ev W hb hR hO hD; have hS := hF W hR; obtain ⟨hb1, hb2, hb3⟩ := hb; simp only [Free.AllDeps, Free.AllOuts, Free.At, List.getElem?_cons_succ, List.getElem?_cons_zero, Array.getD_eq_getD_getElem?, List.getElem?_toArray, Option.getD_some, and_true] at hO hD; go_simp; rfl)
  simp only [List.nil_append, List.cons_append]
  refine Free2.Chain.ex ?_ 4 rfl [(3, 30)] [] (by kernel_rfl) (by kernel_rfl) rfl (Below.refl _) (fun X W v h => LL.skip h 4 v (by simp)) ?_ ?_
  rotate_left
  · (intro ev W hb hR hO hD; have hS := hF W hR; obtain ⟨hb1, hb2, hb3⟩ := hb; simp only [Free.AllDeps, Free.AllOuts, Free.At, List.getElem?_cons_succ, List.getElem?_cons_zero, Array.getD_eq_getD_getElem?, List.getElem?_toArray, Option.getD_some, and_true] at hO hD; go_simp; rfl)
  simp only [List.nil_append, List.cons_append]
  refine Free2.Chain.ex ?_ 5 rfl [(3, 30)] [] (by kernel_rfl) (by kernel_rfl) rfl (Below.refl _) (fun X W v h => LL.skip h 5 v (by simp)) ?_ ?_
  rotate_left
  · (intro ev W hb hR hO hD; have hS := hF W hR; obtain ⟨hb1, hb2, hb3⟩ := hb; simp only [Free.AllDeps, Free.AllOuts, Free.At, List.getElem?_cons_succ, List.getElem?_cons_zero, Array.getD_eq_getD_getElem?, List.getElem?_toArray, Option.getD_some, and_true] at hO hD; go_simp; rfl)
  simp only [List.nil_append, List.cons_append]
  refine Free2.Chain.pr (fun v _ => ∃ b, v = ptr b) 6 rfl [] [] (by kernel_rfl) (by kernel_rfl) rfl (fun _ _ _ _ h => h) ?_ ?_
  · (intro ev W X hb hR hO hD hj hx hax; have hS := hF W hR; obtain ⟨hb1, hb2, hb3⟩ := hb; simp only [Free.AllDeps, Free.AllOuts, Free.At, List.getElem?_cons_succ, List.getElem?_cons_zero, Array.getD_eq_getD_getElem?, List.getElem?_toArray, Option.getD_some, and_true] at hO hD; simp only [Free2.AllX, and_true] at hax; go_simp; exact ⟨(Below.refl _ W).alloc hj.size _, ⟨_, rfl⟩, hj.new ⟨6, 7, (.cells #[.int .i64 0, .int .i64 0] 31), (.cells #[.int .i64 1, .int .i64 2] 31)⟩ (by simp) (by simp) hx⟩)
  simp only [List.nil_append, List.cons_append]
  refine Free2.Chain.pr (fun _ _ => True) 7 rfl [(6, 4), (4, 34), (2, 33), (0, 31), (1, 32), (2, 33), (3, 30), (4, 34), (6, 4)] [] (by kernel_rfl) (by kernel_rfl) rfl (fun _ _ _ _ h => h) ?_ ?_
  · (intro ev W X hb hR hO hD hj hx hax; have hS := hF W hR; obtain ⟨hb1, hb2, hb3⟩ := hb; simp only [Free.AllDeps, Free.AllOuts, Free.At, List.getElem?_cons_succ, List.getElem?_cons_zero, Array.getD_eq_getD_getElem?, List.getElem?_toArray, Option.getD_some, and_true] at hO hD; simp only [Free2.AllX, and_true] at hax; obtain ⟨b, hb9, hs0, hbl⟩ := hj.at_ ⟨6, 7, (.cells #[.int .i64 0, .int .i64 0] 31), (.cells #[.int .i64 1, .int .i64 2] 31)⟩ (by simp) hax.1 hx; have hX := hax.1; rw [hb9] at hX; have hp := hj.puts ⟨6, 7, (.cells #[.int .i64 0, .int .i64 0] 31), (.cells #[.int .i64 1, .int .i64 2] 31)⟩ (by simp) (by simp) hX hs0 hbl [(0, .int .i64 1), (1, .int .i64 2)] rfl; have q0 : W.cell? ⟨b, 0, none⟩ = some (.int .i64 0) := cell_of_heap (o := 0) hbl rfl; have q1 : W.cell? ⟨b, 1, none⟩ = some (.int .i64 0) := cell_of_heap (o := 1) hbl rfl; have p0 : ∀ o, W.frozen? ⟨b, o, none⟩ = false := fun o => frozen_of_heap (o := o) hbl; go_simp; exact ⟨(hp undef).1, (hp _).2⟩)
  simp only [List.nil_append, List.cons_append]
  refine Free2.Chain.ex ?_ 8 rfl [(5, 35), (0, 31), (1, 32), (2, 33), (3, 30), (4, 34), (5, 35), (6, 4)] [] (by kernel_rfl) (by kernel_rfl) rfl (Below.refl _) (fun X W v h => LL.skip h 8 v (by simp)) ?_ ?_
  rotate_left
  · (intro ev W hb hR hO hD; have hS := hF W hR; obtain ⟨hb1, hb2, hb3⟩ := hb; simp only [Free.AllDeps, Free.AllOuts, Free.At, List.getElem?_cons_succ, List.getElem?_cons_zero, Array.getD_eq_getD_getElem?, List.getElem?_toArray, Option.getD_some, and_true] at hO hD; go_simp; rfl)
  simp only [List.nil_append, List.cons_append]
  intro xs w4 hR hV hX
  obtain ⟨X, hj, hxx⟩ := hX
  obtain ⟨b3, hp_b3, hs_b3, hl_b3⟩ := hj.done ⟨6, 7, (.cells #[.int .i64 0, .int .i64 0] 31), (.cells #[.int .i64 1, .int .i64 2] 31)⟩ (by simp) (hxx 6 (show (6 : Nat) < 9 by decide)) (hxx 7 (show (7 : Nat) < 9 by decide))
  simp only [Free.AllV, Free.At, List.length_cons, List.length_nil, Nat.reduceAdd, List.getElem?_cons_succ, List.getElem?_cons_zero, true_and, and_true] at hV
  simp only [Free.putsFrom, Act.put, Nat.zero_add, Nat.reduceAdd, hV, hp_b3, List.setIfInBounds_toArray, List.set_cons_succ, List.set_cons_zero]
  have hN := hF w4 hR
  have HB_w4 := Lib.hid (HB_w3.out.trans ((hN).mono hz_w3))
  have hz_w4 : bb ≤ w4.heap.size := Nat.le_trans hz_w3 (hN).size
  have FN : ∀ W, Free.Bel w4 W → W.cell? ⟨0, 0, none⟩ = some (dblF 125) ∧ W.cell? ⟨0, 1, none⟩ = some (dblF 126) ∧ W.cell? ⟨0, 2, none⟩ = some (dblF 127) ∧ bb ≤ W.heap.size ∧ W.cell? ⟨g10, 0, none⟩ = some (.int .i64 10) ∧ W.cell? ⟨g10, 1, none⟩ = some (.int .i64 0) ∧ W.cell? ⟨g10, 2, none⟩ = some (.int .i64 10) ∧ W.cell? ⟨b3, 0, none⟩ = some (.int .i64 1) ∧ W.cell? ⟨b3, 1, none⟩ = some (.int .i64 2) := fun W hW => by
    obtain ⟨a0, a1, a2, a3, a4, a5, a6⟩ := FA W (Free.Bel.trans _ _ _ (hN) hW)
    exact ⟨a0, a1, a2, a3, a4, a5, a6, keepsB hW (cell_of_heap (o := 0) hl_b3 rfl), keepsB hW (cell_of_heap (o := 1) hl_b3 rfl)⟩
  clear FA HB_w3 hz_w3
  have FA := FN
  clear FN
  clear hR hF hj hxx hV hN hp_b3 hs_b3 hl_b3
  go_wp2_with fail
  have hF : ∀ W, Below w4.heap.size w4.drew W → Free.Bel w4 W := fun W hW => (show Below w4.heap.size w4 W from ((Below.refl _ w4).drew).trans hW)
  refine Free2.wp_free (R := Below w4.heap.size) (J := LL w4.heap.size [⟨6, 7, (.cells #[.int .i64 0, .int .i64 0] 31), (.cells #[.int .i64 2, .int .i64 3] 31)⟩]) (by kernel_rfl) (by kernel_rfl) (Below.refl _) (fun _ _ _ => Below.trans) (LL.start (Nat.le_refl _)) ?_
  refine Free2.Chain.ex ?_ 0 rfl [] [1] (by kernel_rfl) (by kernel_rfl) rfl (Below.refl _) (fun X W v h => LL.skip h 0 v (by simp)) ?_ ?_
  rotate_left
  · (intro ev W hb hR hO hD; have hS := hF W hR; obtain ⟨hb1, hb2, hb3⟩ := hb; simp only [Free.AllDeps, Free.AllOuts, Free.At, List.getElem?_cons_succ, List.getElem?_cons_zero, Array.getD_eq_getD_getElem?, List.getElem?_toArray, Option.getD_some, and_true] at hO hD; go_simp; rfl)
  simp only [List.nil_append, List.cons_append]
  refine Free2.Chain.pr (fun v _ => v = i2 3 1) 1 rfl [] [] (by kernel_rfl) (by kernel_rfl) rfl (fun _ _ _ _ h => h) ?_ ?_
  · (intro ev W X hb hR hO hD hj hx hax; have hS := hF W hR; obtain ⟨hb1, hb2, hb3⟩ := hb; simp only [Free.AllDeps, Free.AllOuts, Free.At, List.getElem?_cons_succ, List.getElem?_cons_zero, Array.getD_eq_getD_getElem?, List.getElem?_toArray, Option.getD_some, and_true] at hO hD; simp only [Free2.AllX, and_true] at hax; go_simp; refine yields_enter ?_; (with_reducible refine (drawn_any 3 1 _).mono ?_); rintro e W2 ⟨rfl, hB2⟩; exact ⟨_, rfl, hB2.mono hj.size, rfl, (hj.bel hB2).skip 1 _ (by simp)⟩)
  simp only [List.nil_append, List.cons_append]
  refine Free2.Chain.pr (fun v _ => v = .tuple #[i2 2 3, .int .i64 0]) 2 rfl [(0, 37), (1, 38), (1, 38)] [] (by kernel_rfl) (by kernel_rfl) rfl (fun _ _ _ _ h => h) ?_ ?_
  · (intro ev W X hb hR hO hD hj hx hax; have hS := hF W hR; obtain ⟨hb1, hb2, hb3⟩ := hb; simp only [Free.AllDeps, Free.AllOuts, Free.At, List.getElem?_cons_succ, List.getElem?_cons_zero, Array.getD_eq_getD_getElem?, List.getElem?_toArray, Option.getD_some, and_true] at hO hD; simp only [Free2.AllX, and_true] at hax; go_simp; refine yields_enter ?_; (with_reducible refine (al_atmost _).mono ?_); rintro e W2 ⟨rfl, hB2⟩; exact ⟨_, rfl, hB2.mono hj.size, rfl, (hj.bel hB2).skip 2 _ (by simp)⟩)
  simp only [List.nil_append, List.cons_append]
  refine Free2.Chain.ex ?_ 3 rfl [(2, 39)] [] (by kernel_rfl) (by kernel_rfl) rfl (Below.refl _) (fun X W v h => LL.skip h 3 v (by simp)) ?_ ?_
  rotate_left
  · (intro ev W hb hR hO hD; have hS := hF W hR; obtain ⟨hb1, hb2, hb3⟩ := hb; simp only [Free.AllDeps, Free.AllOuts, Free.At, List.getElem?_cons_succ, List.getElem?_cons_zero, Array.getD_eq_getD_getElem?, List.getElem?_toArray, Option.getD_some, and_true] at hO hD; go_simp; rfl)
  simp only [List.nil_append, List.cons_append]
  refine Free2.Chain.ex ?_ 4 rfl [(3, 36)] [] (by kernel_rfl) (by kernel_rfl) rfl (Below.refl _) (fun X W v h => LL.skip h 4 v (by simp)) ?_ ?_
  rotate_left
  · (intro ev W hb hR hO hD; have hS := hF W hR; obtain ⟨hb1, hb2, hb3⟩ := hb; simp only [Free.AllDeps, Free.AllOuts, Free.At, List.getElem?_cons_succ, List.getElem?_cons_zero, Array.getD_eq_getD_getElem?, List.getElem?_toArray, Option.getD_some, and_true] at hO hD; go_simp; rfl)
  simp only [List.nil_append, List.cons_append]
  refine Free2.Chain.ex ?_ 5 rfl [(3, 36)] [] (by kernel_rfl) (by kernel_rfl) rfl (Below.refl _) (fun X W v h => LL.skip h 5 v (by simp)) ?_ ?_
  rotate_left
  · (intro ev W hb hR hO hD; have hS := hF W hR; obtain ⟨hb1, hb2, hb3⟩ := hb; simp only [Free.AllDeps, Free.AllOuts, Free.At, List.getElem?_cons_succ, List.getElem?_cons_zero, Array.getD_eq_getD_getElem?, List.getElem?_toArray, Option.getD_some, and_true] at hO hD; go_simp; rfl)
  simp only [List.nil_append, List.cons_append]
  refine Free2.Chain.pr (fun v _ => ∃ b, v = ptr b) 6 rfl [] [] (by kernel_rfl) (by kernel_rfl) rfl (fun _ _ _ _ h => h) ?_ ?_
  · (intro ev W X hb hR hO hD hj hx hax; have hS := hF W hR; obtain ⟨hb1, hb2, hb3⟩ := hb; simp only [Free.AllDeps, Free.AllOuts, Free.At, List.getElem?_cons_succ, List.getElem?_cons_zero, Array.getD_eq_getD_getElem?, List.getElem?_toArray, Option.getD_some, and_true] at hO hD; simp only [Free2.AllX, and_true] at hax; go_simp; exact ⟨(Below.refl _ W).alloc hj.size _, ⟨_, rfl⟩, hj.new ⟨6, 7, (.cells #[.int .i64 0, .int .i64 0] 31), (.cells #[.int .i64 2, .int .i64 3] 31)⟩ (by simp) (by simp) hx⟩)
  simp only [List.nil_append, List.cons_append]
  refine Free2.Chain.pr (fun _ _ => True) 7 rfl [(6, 6), (4, 40), (2, 39), (0, 37), (1, 38), (2, 39), (3, 36), (4, 40), (6, 6)] [] (by kernel_rfl) (by kernel_rfl) rfl (fun _ _ _ _ h => h) ?_ ?_
  · (intro ev W X hb hR hO hD hj hx hax; have hS := hF W hR; obtain ⟨hb1, hb2, hb3⟩ := hb; simp only [Free.AllDeps, Free.AllOuts, Free.At, List.getElem?_cons_succ, List.getElem?_cons_zero, Array.getD_eq_getD_getElem?, List.getElem?_toArray, Option.getD_some, and_true] at hO hD; simp only [Free2.AllX, and_true] at hax; obtain ⟨b, hb9, hs0, hbl⟩ := hj.at_ ⟨6, 7, (.cells #[.int .i64 0, .int .i64 0] 31), (.cells #[.int .i64 2, .int .i64 3] 31)⟩ (by simp) hax.1 hx; have hX := hax.1; rw [hb9] at hX; have hp := hj.puts ⟨6, 7, (.cells #[.int .i64 0, .int .i64 0] 31), (.cells #[.int .i64 2, .int .i64 3] 31)⟩ (by simp) (by simp) hX hs0 hbl [(0, .int .i64 2), (1, .int .i64 3)] rfl; have q0 : W.cell? ⟨b, 0, none⟩ = some (.int .i64 0) := cell_of_heap (o := 0) hbl rfl; have q1 : W.cell? ⟨b, 1, none⟩ = some (.int .i64 0) := cell_of_heap (o := 1) hbl rfl; have p0 : ∀ o, W.frozen? ⟨b, o, none⟩ = false := fun o => frozen_of_heap (o := o) hbl; go_simp; exact ⟨(hp undef).1, (hp _).2⟩)
  simp only [List.nil_append, List.cons_append]
  refine Free2.Chain.ex ?_ 8 rfl [(5, 41), (0, 37), (1, 38), (2, 39), (3, 36), (4, 40), (5, 41), (6, 6)] [] (by kernel_rfl) (by kernel_rfl) rfl (Below.refl _) (fun X W v h => LL.skip h 8 v (by simp)) ?_ ?_
  rotate_left
  · (intro ev W hb hR hO hD; have hS := hF W hR; obtain ⟨hb1, hb2, hb3⟩ := hb; simp only [Free.AllDeps, Free.AllOuts, Free.At, List.getElem?_cons_succ, List.getElem?_cons_zero, Array.getD_eq_getD_getElem?, List.getElem?_toArray, Option.getD_some, and_true] at hO hD; go_simp; rfl)
  simp only [List.nil_append, List.cons_append]
  intro xs w5 hR hV hX
  obtain ⟨X, hj, hxx⟩ := hX
  obtain ⟨b4, hp_b4, hs_b4, hl_b4⟩ := hj.done ⟨6, 7, (.cells #[.int .i64 0, .int .i64 0] 31), (.cells #[.int .i64 2, .int .i64 3] 31)⟩ (by simp) (hxx 6 (show (6 : Nat) < 9 by decide)) (hxx 7 (show (7 : Nat) < 9 by decide))
  simp only [Free.AllV, Free.At, List.length_cons, List.length_nil, Nat.reduceAdd, List.getElem?_cons_succ, List.getElem?_cons_zero, true_and, and_true] at hV
  simp only [Free.putsFrom, Act.put, Nat.zero_add, Nat.reduceAdd, hV, hp_b4, List.setIfInBounds_toArray, List.set_cons_succ, List.set_cons_zero]
  have hN := hF w5 hR
  have HB_w5 := Lib.hid (HB_w4.out.trans ((hN).mono hz_w4))
  have hz_w5 : bb ≤ w5.heap.size := Nat.le_trans hz_w4 (hN).size
  have FN : ∀ W, Free.Bel w5 W → W.cell? ⟨0, 0, none⟩ = some (dblF 125) ∧ W.cell? ⟨0, 1, none⟩ = some (dblF 126) ∧ W.cell? ⟨0, 2, none⟩ = some (dblF 127) ∧ bb ≤ W.heap.size ∧ W.cell? ⟨g10, 0, none⟩ = some (.int .i64 10) ∧ W.cell? ⟨g10, 1, none⟩ = some (.int .i64 0) ∧ W.cell? ⟨g10, 2, none⟩ = some (.int .i64 10) ∧ W.cell? ⟨b3, 0, none⟩ = some (.int .i64 1) ∧ W.cell? ⟨b3, 1, none⟩ = some (.int .i64 2) ∧ W.cell? ⟨b4, 0, none⟩ = some (.int .i64 2) ∧ W.cell? ⟨b4, 1, none⟩ = some (.int .i64 3) := fun W hW => by
    obtain ⟨a0, a1, a2, a3, a4, a5, a6, a7, a8⟩ := FA W (Free.Bel.trans _ _ _ (hN) hW)
    exact ⟨a0, a1, a2, a3, a4, a5, a6, a7, a8, keepsB hW (cell_of_heap (o := 0) hl_b4 rfl), keepsB hW (cell_of_heap (o := 1) hl_b4 rfl)⟩
  clear FA HB_w4 hz_w4
  have FA := FN
  clear FN
  clear hR hF hj hxx hV hN hp_b4 hs_b4 hl_b4
  go_wp2_with fail
  have hF : ∀ W, Below w5.heap.size w5.drew W → Free.Bel w5 W := fun W hW => (show Below w5.heap.size w5 W from ((Below.refl _ w5).drew).trans hW)
  refine Free2.wp_free (R := Below w5.heap.size) (J := LL w5.heap.size [⟨6, 7, (.cells #[.int .i64 0, .int .i64 0] 26), (.cells #[.int .i64 1, .int .i64 8] 26)⟩]) (by kernel_rfl) (by kernel_rfl) (Below.refl _) (fun _ _ _ => Below.trans) (LL.start (Nat.le_refl _)) ?_
  refine Free2.Chain.ex ?_ 0 rfl [] [1] (by kernel_rfl) (by kernel_rfl) rfl (Below.refl _) (fun X W v h => LL.skip h 0 v (by simp)) ?_ ?_
  rotate_left
  · (intro ev W hb hR hO hD; have hS := hF W hR; obtain ⟨hb1, hb2, hb3⟩ := hb; simp only [Free.AllDeps, Free.AllOuts, Free.At, List.getElem?_cons_succ, List.getElem?_cons_zero, Array.getD_eq_getD_getElem?, List.getElem?_toArray, Option.getD_some, and_true] at hO hD; go_simp; rfl)
  simp only [List.nil_append, List.cons_append]
  refine Free2.Chain.pr (fun v _ => v = i2 3 1) 1 rfl [] [] (by kernel_rfl) (by kernel_rfl) rfl (fun _ _ _ _ h => h) ?_ ?_
  · (intro ev W X hb hR hO hD hj hx hax; have hS := hF W hR; obtain ⟨hb1, hb2, hb3⟩ := hb; simp only [Free.AllDeps, Free.AllOuts, Free.At, List.getElem?_cons_succ, List.getElem?_cons_zero, Array.getD_eq_getD_getElem?, List.getElem?_toArray, Option.getD_some, and_true] at hO hD; simp only [Free2.AllX, and_true] at hax; go_simp; refine yields_enter ?_; (with_reducible refine (drawn_any 3 1 _).mono ?_); rintro e W2 ⟨rfl, hB2⟩; exact ⟨_, rfl, hB2.mono hj.size, rfl, (hj.bel hB2).skip 1 _ (by simp)⟩)
  simp only [List.nil_append, List.cons_append]
  refine Free2.Chain.pr (fun v _ => v = .tuple #[i2 1 8, .int .i64 0]) 2 rfl [(0, 43), (1, 44), (1, 44)] [] (by kernel_rfl) (by kernel_rfl) rfl (fun _ _ _ _ h => h) ?_ ?_
  · (intro ev W X hb hR hO hD hj hx hax; have hS := hF W hR; obtain ⟨hb1, hb2, hb3⟩ := hb; simp only [Free.AllDeps, Free.AllOuts, Free.At, List.getElem?_cons_succ, List.getElem?_cons_zero, Array.getD_eq_getD_getElem?, List.getElem?_toArray, Option.getD_some, and_true] at hO hD; simp only [Free2.AllX, and_true] at hax; go_simp; refine yields_enter ?_; (with_reducible refine (al_can _).mono ?_); rintro e W2 ⟨rfl, hB2⟩; exact ⟨_, rfl, hB2.mono hj.size, rfl, (hj.bel hB2).skip 2 _ (by simp)⟩)
  simp only [List.nil_append, List.cons_append]
  refine Free2.Chain.ex ?_ 3 rfl [(2, 45)] [] (by kernel_rfl) (by kernel_rfl) rfl (Below.refl _) (fun X W v h => LL.skip h 3 v (by simp)) ?_ ?_
  rotate_left
  · (intro ev W hb hR hO hD; have hS := hF W hR; obtain ⟨hb1, hb2, hb3⟩ := hb; simp only [Free.AllDeps, Free.AllOuts, Free.At, List.getElem?_cons_succ, List.getElem?_cons_zero, Array.getD_eq_getD_getElem?, List.getElem?_toArray, Option.getD_some, and_true] at hO hD; go_simp; rfl)
  simp only [List.nil_append, List.cons_append]
  refine Free2.Chain.ex ?_ 4 rfl [(3, 42)] [] (by kernel_rfl) (by kernel_rfl) rfl (Below.refl _) (fun X W v h => LL.skip h 4 v (by simp)) ?_ ?_
  rotate_left
  · (intro ev W hb hR hO hD; have hS := hF W hR; obtain ⟨hb1, hb2, hb3⟩ := hb; simp only [Free.AllDeps, Free.AllOuts, Free.At, List.getElem?_cons_succ, List.getElem?_cons_zero, Array.getD_eq_getD_getElem?, List.getElem?_toArray, Option.getD_some, and_true] at hO hD; go_simp; rfl)
  simp only [List.nil_append, List.cons_append]
  refine Free2.Chain.ex ?_ 5 rfl [(3, 42)] [] (by kernel_rfl) (by kernel_rfl) rfl (Below.refl _) (fun X W v h => LL.skip h 5 v (by simp)) ?_ ?_
  rotate_left
  · (intro ev W hb hR hO hD; have hS := hF W hR; obtain ⟨hb1, hb2, hb3⟩ := hb; simp only [Free.AllDeps, Free.AllOuts, Free.At, List.getElem?_cons_succ, List.getElem?_cons_zero, Array.getD_eq_getD_getElem?, List.getElem?_toArray, Option.getD_some, and_true] at hO hD; go_simp; rfl)
  simp only [List.nil_append, List.cons_append]
  refine Free2.Chain.pr (fun v _ => ∃ b, v = ptr b) 6 rfl [] [] (by kernel_rfl) (by kernel_rfl) rfl (fun _ _ _ _ h => h) ?_ ?_
  · (intro ev W X hb hR hO hD hj hx hax; have hS := hF W hR; obtain ⟨hb1, hb2, hb3⟩ := hb; simp only [Free.AllDeps, Free.AllOuts, Free.At, List.getElem?_cons_succ, List.getElem?_cons_zero, Array.getD_eq_getD_getElem?, List.getElem?_toArray, Option.getD_some, and_true] at hO hD; simp only [Free2.AllX, and_true] at hax; go_simp; exact ⟨(Below.refl _ W).alloc hj.size _, ⟨_, rfl⟩, hj.new ⟨6, 7, (.cells #[.int .i64 0, .int .i64 0] 26), (.cells #[.int .i64 1, .int .i64 8] 26)⟩ (by simp) (by simp) hx⟩)
  simp only [List.nil_append, List.cons_append]
  refine Free2.Chain.pr (fun _ _ => True) 7 rfl [(6, 8), (4, 46), (2, 45), (0, 43), (1, 44), (2, 45), (3, 42), (4, 46), (6, 8)] [] (by kernel_rfl) (by kernel_rfl) rfl (fun _ _ _ _ h => h) ?_ ?_
  · (intro ev W X hb hR hO hD hj hx hax; have hS := hF W hR; obtain ⟨hb1, hb2, hb3⟩ := hb; simp only [Free.AllDeps, Free.AllOuts, Free.At, List.getElem?_cons_succ, List.getElem?_cons_zero, Array.getD_eq_getD_getElem?, List.getElem?_toArray, Option.getD_some, and_true] at hO hD; simp only [Free2.AllX, and_true] at hax; obtain ⟨b, hb9, hs0, hbl⟩ := hj.at_ ⟨6, 7, (.cells #[.int .i64 0, .int .i64 0] 26), (.cells #[.int .i64 1, .int .i64 8] 26)⟩ (by simp) hax.1 hx; have hX := hax.1; rw [hb9] at hX; have hp := hj.puts ⟨6, 7, (.cells #[.int .i64 0, .int .i64 0] 26), (.cells #[.int .i64 1, .int .i64 8] 26)⟩ (by simp) (by simp) hX hs0 hbl [(0, .int .i64 1), (1, .int .i64 8)] rfl; have q0 : W.cell? ⟨b, 0, none⟩ = some (.int .i64 0) := cell_of_heap (o := 0) hbl rfl; have q1 : W.cell? ⟨b, 1, none⟩ = some (.int .i64 0) := cell_of_heap (o := 1) hbl rfl; have p0 : ∀ o, W.frozen? ⟨b, o, none⟩ = false := fun o => frozen_of_heap (o := o) hbl; go_simp; exact ⟨(hp undef).1, (hp _).2⟩)
  simp only [List.nil_append, List.cons_append]
  refine Free2.Chain.ex ?_ 8 rfl [(5, 47), (0, 43), (1, 44), (2, 45), (3, 42), (4, 46), (5, 47), (6, 8)] [] (by kernel_rfl) (by kernel_rfl) rfl (Below.refl _) (fun X W v h => LL.skip h 8 v (by simp)) ?_ ?_
  rotate_left
  · (intro ev W hb hR hO hD; have hS := hF W hR; obtain ⟨hb1, hb2, hb3⟩ := hb; simp only [Free.AllDeps, Free.AllOuts, Free.At, List.getElem?_cons_succ, List.getElem?_cons_zero, Array.getD_eq_getD_getElem?, List.getElem?_toArray, Option.getD_some, and_true] at hO hD; go_simp; rfl)
  simp only [List.nil_append, List.cons_append]
  intro xs w6 hR hV hX
  obtain ⟨X, hj, hxx⟩ := hX
  obtain ⟨b5, hp_b5, hs_b5, hl_b5⟩ := hj.done ⟨6, 7, (.cells #[.int .i64 0, .int .i64 0] 26), (.cells #[.int .i64 1, .int .i64 8] 26)⟩ (by simp) (hxx 6 (show (6 : Nat) < 9 by decide)) (hxx 7 (show (7 : Nat) < 9 by decide))
  simp only [Free.AllV, Free.At, List.length_cons, List.length_nil, Nat.reduceAdd, List.getElem?_cons_succ, List.getElem?_cons_zero, true_and, and_true] at hV
  simp only [Free.putsFrom, Act.put, Nat.zero_add, Nat.reduceAdd, hV, hp_b5, List.setIfInBounds_toArray, List.set_cons_succ, List.set_cons_zero]
  have hN := hF w6 hR
  have HB_w6 := Lib.hid (HB_w5.out.trans ((hN).mono hz_w5))
  have hz_w6 : bb ≤ w6.heap.size := Nat.le_trans hz_w5 (hN).size
  have FN : ∀ W, Free.Bel w6 W → W.cell? ⟨0, 0, none⟩ = some (dblF 125) ∧ W.cell? ⟨0, 1, none⟩ = some (dblF 126) ∧ W.cell? ⟨0, 2, none⟩ = some (dblF 127) ∧ bb ≤ W.heap.size ∧ W.cell? ⟨g10, 0, none⟩ = some (.int .i64 10) ∧ W.cell? ⟨g10, 1, none⟩ = some (.int .i64 0) ∧ W.cell? ⟨g10, 2, none⟩ = some (.int .i64 10) ∧ W.cell? ⟨b3, 0, none⟩ = some (.int .i64 1) ∧ W.cell? ⟨b3, 1, none⟩ = some (.int .i64 2) ∧ W.cell? ⟨b4, 0, none⟩ = some (.int .i64 2) ∧ W.cell? ⟨b4, 1, none⟩ = some (.int .i64 3) ∧ W.cell? ⟨b5, 0, none⟩ = some (.int .i64 1) ∧ W.cell? ⟨b5, 1, none⟩ = some (.int .i64 8) := fun W hW => by
    obtain ⟨a0, a1, a2, a3, a4, a5, a6, a7, a8, a9, a10⟩ := FA W (Free.Bel.trans _ _ _ (hN) hW)
    exact ⟨a0, a1, a2, a3, a4, a5, a6, a7, a8, a9, a10, keepsB hW (cell_of_heap (o := 0) hl_b5 rfl), keepsB hW (cell_of_heap (o := 1) hl_b5 rfl)⟩
  clear FA HB_w5 hz_w5
  have FA := FN
  clear FN
  clear hR hF hj hxx hV hN hp_b5 hs_b5 hl_b5
  go_wp2_with fail
  have hF : ∀ W, Free.Bel w6.drew W → Free.Bel w6 W := fun W hW => Free.Bel.trans _ _ _ (Bel.drewT (Free.Bel.refl _)) hW
  refine Free.wp_free (R := Free.Bel) (by kernel_rfl) (by kernel_rfl) Free.Bel.refl Free.Bel.trans ?_
  refine Free.Chain.ex ?_ [] [1] (by kernel_rfl) (by kernel_rfl) rfl Free.Bel.refl ?_ ?_
  rotate_left
  · (intro ev W hb hR hO hD; have hS := hF W hR; obtain ⟨hb1, hb2, hb3⟩ := hb; simp only [Free.AllDeps, Free.AllOuts, Free.At, List.getElem?_cons_succ, List.getElem?_cons_zero, Array.getD_eq_getD_getElem?, List.getElem?_toArray, Option.getD_some, and_true] at hO hD; go_simp; rfl)
  simp only [List.nil_append, List.cons_append]
  refine Free.Chain.pr (fun v _ => v = i2 3 1) [] [] (by kernel_rfl) (by kernel_rfl) rfl (fun _ _ _ _ h => h) ?_ ?_
  · (intro ev W hb hR hO hD; have hS := hF W hR; obtain ⟨hb1, hb2, hb3⟩ := hb; simp only [Free.AllDeps, Free.AllOuts, Free.At, List.getElem?_cons_succ, List.getElem?_cons_zero, Array.getD_eq_getD_getElem?, List.getElem?_toArray, Option.getD_some, and_true] at hO hD; go_simp; refine yields_enter ?_; (with_reducible refine (drawn_any 3 1 _).mono ?_); rintro e W2 ⟨rfl, hB2⟩; exact ⟨_, rfl, hB2, rfl⟩)
  simp only [List.nil_append, List.cons_append]
  refine Free.Chain.pr (fun v W => ∃ u, v = .tuple #[u, .int .i64 0] ∧ IL [3] u W) [(0, 49), (1, 50), (1, 50)] [] (by kernel_rfl) (by kernel_rfl) rfl (fun v W W' hB h => let ⟨u, h1, h2⟩ := h; ⟨u, h1, h2.keeps hB⟩) ?_ ?_
  · (intro ev W hb hR hO hD; have hS := hF W hR; obtain ⟨hb1, hb2, hb3⟩ := hb; simp only [Free.AllDeps, Free.AllOuts, Free.At, List.getElem?_cons_succ, List.getElem?_cons_zero, Array.getD_eq_getD_getElem?, List.getElem?_toArray, Option.getD_some, and_true] at hO hD; go_simp; refine yields_enter ?_; (with_reducible refine (al_likely _).mono ?_); rintro e W2 ⟨⟨u, rfl, hil⟩, hB2⟩; exact ⟨_, rfl, hB2, u, rfl, hil⟩)
  simp only [List.nil_append, List.cons_append]
  refine Free.Chain.pr (fun v W => ∃ u, v = .tuple #[u, .int .i64 0] ∧ IL [3] u W) [(2, 51)] [] (by kernel_rfl) (by kernel_rfl) rfl (fun v W W' hB h => let ⟨u, h1, h2⟩ := h; ⟨u, h1, h2.keeps hB⟩) ?_ ?_
  · (intro ev W hb hR hO hD; have hS := hF W hR; obtain ⟨hb1, hb2, hb3⟩ := hb; simp only [Free.AllDeps, Free.AllOuts, Free.At, List.getElem?_cons_succ, List.getElem?_cons_zero, Array.getD_eq_getD_getElem?, List.getElem?_toArray, Option.getD_some, and_true] at hO hD; obtain ⟨u, hu, hil⟩ := hD; go_simp; exact ⟨Free.Bel.refl _, u, rfl, hil⟩)
  simp only [List.nil_append, List.cons_append]
  refine Free.Chain.pr (fun v W => IL [3] v W) [(3, 48)] [] (by kernel_rfl) (by kernel_rfl) rfl (IL.stable _) ?_ ?_
  · (intro ev W hb hR hO hD; have hS := hF W hR; obtain ⟨hb1, hb2, hb3⟩ := hb; simp only [Free.AllDeps, Free.AllOuts, Free.At, List.getElem?_cons_succ, List.getElem?_cons_zero, Array.getD_eq_getD_getElem?, List.getElem?_toArray, Option.getD_some, and_true] at hO hD; obtain ⟨u, hu, hil⟩ := hD; go_simp; exact ⟨Free.Bel.refl _, hil⟩)
  simp only [List.nil_append, List.cons_append]
  refine Free.Chain.pr (fun v _ => v = .int .i64 0) [(3, 48)] [] (by kernel_rfl) (by kernel_rfl) rfl (fun _ _ _ _ h => h) ?_ ?_
  · (intro ev W hb hR hO hD; have hS := hF W hR; obtain ⟨hb1, hb2, hb3⟩ := hb; simp only [Free.AllDeps, Free.AllOuts, Free.At, List.getElem?_cons_succ, List.getElem?_cons_zero, Array.getD_eq_getD_getElem?, List.getElem?_toArray, Option.getD_some, and_true] at hO hD; obtain ⟨u, hu, hil⟩ := hD; go_simp; exact ⟨Free.Bel.refl _, rfl⟩)
  simp only [List.nil_append, List.cons_append]
  refine Free.Chain.pr (fun v W => IL [3] v W) [(4, 52), (2, 51), (0, 49), (1, 50), (2, 51), (3, 48), (4, 52)] [] (by kernel_rfl) (by kernel_rfl) rfl (IL.stable _) ?_ ?_
  · (intro ev W hb hR hO hD; have hS := hF W hR; obtain ⟨hb1, hb2, hb3⟩ := hb; simp only [Free.AllDeps, Free.AllOuts, Free.At, List.getElem?_cons_succ, List.getElem?_cons_zero, Array.getD_eq_getD_getElem?, List.getElem?_toArray, Option.getD_some, and_true] at hO hD; have hil := hD.1; go_simp; exact ⟨Free.Bel.refl _, hil⟩)
  simp only [List.nil_append, List.cons_append]
  refine Free.Chain.ex ?_ [(5, 53), (6, 10), (0, 49), (1, 50), (2, 51), (3, 48), (4, 52), (5, 53), (6, 10)] [] (by kernel_rfl) (by kernel_rfl) rfl Free.Bel.refl ?_ ?_
  rotate_left
  · (intro ev W hb hR hO hD; have hS := hF W hR; obtain ⟨hb1, hb2, hb3⟩ := hb; simp only [Free.AllDeps, Free.AllOuts, Free.At, List.getElem?_cons_succ, List.getElem?_cons_zero, Array.getD_eq_getD_getElem?, List.getElem?_toArray, Option.getD_some, and_true] at hO hD; go_simp; rfl)
  simp only [List.nil_append, List.cons_append]
  intro xs w7 hR hV
  simp only [Free.AllV, Free.At, List.length_cons, List.length_nil, Nat.reduceAdd, List.getElem?_cons_succ, List.getElem?_cons_zero, true_and, and_true] at hV
  obtain ⟨u6, hu6⟩ : ∃ u, xs 6 = u := ⟨_, rfl⟩
  have hil6 := hV.1.2
  rw [hu6] at hil6
  simp only [Free.putsFrom, Act.put, Nat.zero_add, Nat.reduceAdd, hV, hu6, List.setIfInBounds_toArray, List.set_cons_succ, List.set_cons_zero]
  have hN := hF w7 hR
  clear hR hF
  have HB_w7 := Lib.hid (HB_w6.out.trans ((hN).mono hz_w6))
  have hz_w7 : bb ≤ w7.heap.size := Nat.le_trans hz_w6 (hN).size
  have FN : ∀ W, Free.Bel w7 W → W.cell? ⟨0, 0, none⟩ = some (dblF 125) ∧ W.cell? ⟨0, 1, none⟩ = some (dblF 126) ∧ W.cell? ⟨0, 2, none⟩ = some (dblF 127) ∧ bb ≤ W.heap.size ∧ W.cell? ⟨g10, 0, none⟩ = some (.int .i64 10) ∧ W.cell? ⟨g10, 1, none⟩ = some (.int .i64 0) ∧ W.cell? ⟨g10, 2, none⟩ = some (.int .i64 10) ∧ W.cell? ⟨b3, 0, none⟩ = some (.int .i64 1) ∧ W.cell? ⟨b3, 1, none⟩ = some (.int .i64 2) ∧ W.cell? ⟨b4, 0, none⟩ = some (.int .i64 2) ∧ W.cell? ⟨b4, 1, none⟩ = some (.int .i64 3) ∧ W.cell? ⟨b5, 0, none⟩ = some (.int .i64 1) ∧ W.cell? ⟨b5, 1, none⟩ = some (.int .i64 8) ∧ IL [3] u6 W := fun W hW => by
    obtain ⟨a0, a1, a2, a3, a4, a5, a6, a7, a8, a9, a10, a11, a12⟩ := FA W (Free.Bel.trans _ _ _ (hN) hW)
    exact ⟨a0, a1, a2, a3, a4, a5, a6, a7, a8, a9, a10, a11, a12, hil6.keeps hW⟩
  clear FA HB_w6 hz_w6
  have FA := FN
  clear FN
  clear hN hV hil6
  go_wp2_with fail
  have hF : ∀ W, Free.Bel w7.drew W → Free.Bel w7 W := fun W hW => Free.Bel.trans _ _ _ (Bel.drewT (Free.Bel.refl _)) hW
  refine Free.wp_free (R := Free.Bel) (by kernel_rfl) (by kernel_rfl) Free.Bel.refl Free.Bel.trans ?_
  refine Free.Chain.ex ?_ [] [1] (by kernel_rfl) (by kernel_rfl) rfl Free.Bel.refl ?_ ?_
  rotate_left
  · (intro ev W hb hR hO hD; have hS := hF W hR; obtain ⟨hb1, hb2, hb3⟩ := hb; simp only [Free.AllDeps, Free.AllOuts, Free.At, List.getElem?_cons_succ, List.getElem?_cons_zero, Array.getD_eq_getD_getElem?, List.getElem?_toArray, Option.getD_some, and_true] at hO hD; go_simp; rfl)
  simp only [List.nil_append, List.cons_append]
  refine Free.Chain.pr (fun v _ => v = i2 3 0) [] [] (by kernel_rfl) (by kernel_rfl) rfl (fun _ _ _ _ h => h) ?_ ?_
  · (intro ev W hb hR hO hD; have hS := hF W hR; obtain ⟨hb1, hb2, hb3⟩ := hb; simp only [Free.AllDeps, Free.AllOuts, Free.At, List.getElem?_cons_succ, List.getElem?_cons_zero, Array.getD_eq_getD_getElem?, List.getElem?_toArray, Option.getD_some, and_true] at hO hD; go_simp; refine yields_enter ?_; (with_reducible refine (drawn_any 3 0 _).mono ?_); rintro e W2 ⟨rfl, hB2⟩; exact ⟨_, rfl, hB2, rfl⟩)
  simp only [List.nil_append, List.cons_append]
  refine Free.Chain.pr (fun v _ => v = i2 1 10) [(1, 56)] [] (by kernel_rfl) (by kernel_rfl) rfl (fun _ _ _ _ h => h) ?_ ?_
  · (intro ev W hb hR hO hD; have hS := hF W hR; obtain ⟨hb1, hb2, hb3⟩ := hb; simp only [Free.AllDeps, Free.AllOuts, Free.At, List.getElem?_cons_succ, List.getElem?_cons_zero, Array.getD_eq_getD_getElem?, List.getElem?_toArray, Option.getD_some, and_true] at hO hD; go_simp; refine yields_enter ?_; (with_reducible refine (partL_any 1 10 _).mono ?_); rintro e W2 ⟨rfl, hB2⟩; exact ⟨_, rfl, hB2, rfl⟩)
  simp only [List.nil_append, List.cons_append]
  refine Free.Chain.pr (fun v _ => v = .tuple #[.int .i64 4, .int .i64 0]) [(0, 55), (1, 56), (2, 57), (2, 57)] [] (by kernel_rfl) (by kernel_rfl) rfl (fun _ _ _ _ h => h) ?_ ?_
  · (intro ev W hb hR hO hD; have hS := hF W hR; obtain ⟨hb1, hb2, hb3⟩ := hb; simp only [Free.AllDeps, Free.AllOuts, Free.At, List.getElem?_cons_succ, List.getElem?_cons_zero, Array.getD_eq_getD_getElem?, List.getElem?_toArray, Option.getD_some, and_true] at hO hD; go_simp; refine yields_enter ?_; (with_reducible refine (al_bound _).mono ?_); rintro e W2 ⟨rfl, hB2⟩; exact ⟨_, rfl, hB2, rfl⟩)
  simp only [List.nil_append, List.cons_append]
  refine Free.Chain.ex ?_ [(3, 58)] [] (by kernel_rfl) (by kernel_rfl) rfl Free.Bel.refl ?_ ?_
  rotate_left
  · (intro ev W hb hR hO hD; have hS := hF W hR; obtain ⟨hb1, hb2, hb3⟩ := hb; simp only [Free.AllDeps, Free.AllOuts, Free.At, List.getElem?_cons_succ, List.getElem?_cons_zero, Array.getD_eq_getD_getElem?, List.getElem?_toArray, Option.getD_some, and_true] at hO hD; go_simp; rfl)
  simp only [List.nil_append, List.cons_append]
  refine Free.Chain.ex ?_ [(4, 54)] [] (by kernel_rfl) (by kernel_rfl) rfl Free.Bel.refl ?_ ?_
  rotate_left
  · (intro ev W hb hR hO hD; have hS := hF W hR; obtain ⟨hb1, hb2, hb3⟩ := hb; simp only [Free.AllDeps, Free.AllOuts, Free.At, List.getElem?_cons_succ, List.getElem?_cons_zero, Array.getD_eq_getD_getElem?, List.getElem?_toArray, Option.getD_some, and_true] at hO hD; go_simp; rfl)
  simp only [List.nil_append, List.cons_append]
  refine Free.Chain.ex ?_ [(4, 54)] [] (by kernel_rfl) (by kernel_rfl) rfl Free.Bel.refl ?_ ?_
  rotate_left
  · (intro ev W hb hR hO hD; have hS := hF W hR; obtain ⟨hb1, hb2, hb3⟩ := hb; simp only [Free.AllDeps, Free.AllOuts, Free.At, List.getElem?_cons_succ, List.getElem?_cons_zero, Array.getD_eq_getD_getElem?, List.getElem?_toArray, Option.getD_some, and_true] at hO hD; go_simp; rfl)
  simp only [List.nil_append, List.cons_append]
  refine Free.Chain.ex ?_ [(5, 59), (3, 58), (0, 55), (1, 56), (2, 57), (3, 58), (4, 54), (5, 59)] [] (by kernel_rfl) (by kernel_rfl) rfl Free.Bel.refl ?_ ?_
  rotate_left
  · (intro ev W hb hR hO hD; have hS := hF W hR; obtain ⟨hb1, hb2, hb3⟩ := hb; simp only [Free.AllDeps, Free.AllOuts, Free.At, List.getElem?_cons_succ, List.getElem?_cons_zero, Array.getD_eq_getD_getElem?, List.getElem?_toArray, Option.getD_some, and_true] at hO hD; go_simp; rfl)
  simp only [List.nil_append, List.cons_append]
  refine Free.Chain.ex ?_ [(6, 60), (7, 12), (0, 55), (1, 56), (2, 57), (3, 58), (4, 54), (5, 59), (6, 60), (7, 12)] [] (by kernel_rfl) (by kernel_rfl) rfl Free.Bel.refl ?_ ?_
  rotate_left
  · (intro ev W hb hR hO hD; have hS := hF W hR; obtain ⟨hb1, hb2, hb3⟩ := hb; simp only [Free.AllDeps, Free.AllOuts, Free.At, List.getElem?_cons_succ, List.getElem?_cons_zero, Array.getD_eq_getD_getElem?, List.getElem?_toArray, Option.getD_some, and_true] at hO hD; go_simp; rfl)
  simp only [List.nil_append, List.cons_append]
  intro xs w8 hR hV
  simp only [Free.AllV, Free.At, List.length_cons, List.length_nil, Nat.reduceAdd, List.getElem?_cons_succ, List.getElem?_cons_zero, true_and, and_true] at hV
  simp only [Free.putsFrom, Act.put, Nat.zero_add, Nat.reduceAdd, hV, List.setIfInBounds_toArray, List.set_cons_succ, List.set_cons_zero]
  have hN := hF w8 hR
  clear hR hF
  have HB_w8 := Lib.hid (HB_w7.out.trans ((hN).mono hz_w7))
  have hz_w8 : bb ≤ w8.heap.size := Nat.le_trans hz_w7 (hN).size
  have FN : ∀ W, Free.Bel w8 W → W.cell? ⟨0, 0, none⟩ = some (dblF 125) ∧ W.cell? ⟨0, 1, none⟩ = some (dblF 126) ∧ W.cell? ⟨0, 2, none⟩ = some (dblF 127) ∧ bb ≤ W.heap.size ∧ W.cell? ⟨g10, 0, none⟩ = some (.int .i64 10) ∧ W.cell? ⟨g10, 1, none⟩ = some (.int .i64 0) ∧ W.cell? ⟨g10, 2, none⟩ = some (.int .i64 10) ∧ W.cell? ⟨b3, 0, none⟩ = some (.int .i64 1) ∧ W.cell? ⟨b3, 1, none⟩ = some (.int .i64 2) ∧ W.cell? ⟨b4, 0, none⟩ = some (.int .i64 2) ∧ W.cell? ⟨b4, 1, none⟩ = some (.int .i64 3) ∧ W.cell? ⟨b5, 0, none⟩ = some (.int .i64 1) ∧ W.cell? ⟨b5, 1, none⟩ = some (.int .i64 8) ∧ IL [3] u6 W := fun W hW => by
    obtain ⟨a0, a1, a2, a3, a4, a5, a6, a7, a8, a9, a10, a11, a12, a13⟩ := FA W (Free.Bel.trans _ _ _ (hN) hW)
    exact ⟨a0, a1, a2, a3, a4, a5, a6, a7, a8, a9, a10, a11, a12, a13⟩
  clear FA HB_w7 hz_w7
  have FA := FN
  clear FN
  clear hN hV
  go_wp2_with fail
  have hF : ∀ W, Free.Bel w8.drew W → Free.Bel w8 W := fun W hW => Free.Bel.trans _ _ _ (Bel.drewT (Free.Bel.refl _)) hW
  refine Free.wp_free (R := Free.Bel) (by kernel_rfl) (by kernel_rfl) Free.Bel.refl Free.Bel.trans ?_
  refine Free.Chain.ex ?_ [] [1] (by kernel_rfl) (by kernel_rfl) rfl Free.Bel.refl ?_ ?_
  rotate_left
  · (intro ev W hb hR hO hD; have hS := hF W hR; obtain ⟨hb1, hb2, hb3⟩ := hb; simp only [Free.AllDeps, Free.AllOuts, Free.At, List.getElem?_cons_succ, List.getElem?_cons_zero, Array.getD_eq_getD_getElem?, List.getElem?_toArray, Option.getD_some, and_true] at hO hD; go_simp; rfl)
  simp only [List.nil_append, List.cons_append]
  refine Free.Chain.pr (fun v _ => v = i2 1 2) [] [] (by kernel_rfl) (by kernel_rfl) rfl (fun _ _ _ _ h => h) ?_ ?_
  · (intro ev W hb hR hO hD; have hS := hF W hR; obtain ⟨hb1, hb2, hb3⟩ := hb; simp only [Free.AllDeps, Free.AllOuts, Free.At, List.getElem?_cons_succ, List.getElem?_cons_zero, Array.getD_eq_getD_getElem?, List.getElem?_toArray, Option.getD_some, and_true] at hO hD; go_simp; refine yields_enter ?_; (with_reducible refine (partL_any 1 2 _).mono ?_); rintro e W2 ⟨rfl, hB2⟩; exact ⟨_, rfl, hB2, rfl⟩)
  simp only [List.nil_append, List.cons_append]
  refine Free.Chain.pr (fun v _ => v = .tuple #[.int .i64 3, .int .i64 0]) [(0, 62), (1, 63), (1, 63)] [] (by kernel_rfl) (by kernel_rfl) rfl (fun _ _ _ _ h => h) ?_ ?_
  · (intro ev W hb hR hO hD; have hS := hF W hR; obtain ⟨hb1, hb2, hb3⟩ := hb; simp only [Free.AllDeps, Free.AllOuts, Free.At, List.getElem?_cons_succ, List.getElem?_cons_zero, Array.getD_eq_getD_getElem?, List.getElem?_toArray, Option.getD_some, and_true] at hO hD; go_simp; refine yields_enter ?_; (with_reducible refine (al_find _).mono ?_); rintro e W2 ⟨rfl, hB2⟩; exact ⟨_, rfl, hB2, rfl⟩)
  simp only [List.nil_append, List.cons_append]
  refine Free.Chain.ex ?_ [(2, 64)] [] (by kernel_rfl) (by kernel_rfl) rfl Free.Bel.refl ?_ ?_
  rotate_left
  · (intro ev W hb hR hO hD; have hS := hF W hR; obtain ⟨hb1, hb2, hb3⟩ := hb; simp only [Free.AllDeps, Free.AllOuts, Free.At, List.getElem?_cons_succ, List.getElem?_cons_zero, Array.getD_eq_getD_getElem?, List.getElem?_toArray, Option.getD_some, and_true] at hO hD; go_simp; rfl)
  simp only [List.nil_append, List.cons_append]
  refine Free.Chain.ex ?_ [(3, 61)] [] (by kernel_rfl) (by kernel_rfl) rfl Free.Bel.refl ?_ ?_
  rotate_left
  · (intro ev W hb hR hO hD; have hS := hF W hR; obtain ⟨hb1, hb2, hb3⟩ := hb; simp only [Free.AllDeps, Free.AllOuts, Free.At, List.getElem?_cons_succ, List.getElem?_cons_zero, Array.getD_eq_getD_getElem?, List.getElem?_toArray, Option.getD_some, and_true] at hO hD; go_simp; rfl)
  simp only [List.nil_append, List.cons_append]
  refine Free.Chain.ex ?_ [(3, 61)] [] (by kernel_rfl) (by kernel_rfl) rfl Free.Bel.refl ?_ ?_
  rotate_left
  · (intro ev W hb hR hO hD; have hS := hF W hR; obtain ⟨hb1, hb2, hb3⟩ := hb; simp only [Free.AllDeps, Free.AllOuts, Free.At, List.getElem?_cons_succ, List.getElem?_cons_zero, Array.getD_eq_getD_getElem?, List.getElem?_toArray, Option.getD_some, and_true] at hO hD; go_simp; rfl)
  simp only [List.nil_append, List.cons_append]
  refine Free.Chain.ex ?_ [(4, 65), (2, 64), (0, 62), (1, 63), (2, 64), (3, 61), (4, 65)] [] (by kernel_rfl) (by kernel_rfl) rfl Free.Bel.refl ?_ ?_
  rotate_left
  · (intro ev W hb hR hO hD; have hS := hF W hR; obtain ⟨hb1, hb2, hb3⟩ := hb; simp only [Free.AllDeps, Free.AllOuts, Free.At, List.getElem?_cons_succ, List.getElem?_cons_zero, Array.getD_eq_getD_getElem?, List.getElem?_toArray, Option.getD_some, and_true] at hO hD; go_simp; rfl)
  simp only [List.nil_append, List.cons_append]
  refine Free.Chain.ex ?_ [(5, 66), (6, 14), (0, 62), (1, 63), (2, 64), (3, 61), (4, 65), (5, 66), (6, 14)] [] (by kernel_rfl) (by kernel_rfl) rfl Free.Bel.refl ?_ ?_
  rotate_left
  · (intro ev W hb hR hO hD; have hS := hF W hR; obtain ⟨hb1, hb2, hb3⟩ := hb; simp only [Free.AllDeps, Free.AllOuts, Free.At, List.getElem?_cons_succ, List.getElem?_cons_zero, Array.getD_eq_getD_getElem?, List.getElem?_toArray, Option.getD_some, and_true] at hO hD; go_simp; rfl)
  simp only [List.nil_append, List.cons_append]
  intro xs w9 hR hV
  simp only [Free.AllV, Free.At, List.length_cons, List.length_nil, Nat.reduceAdd, List.getElem?_cons_succ, List.getElem?_cons_zero, true_and, and_true] at hV
  simp only [Free.putsFrom, Act.put, Nat.zero_add, Nat.reduceAdd, hV, List.setIfInBounds_toArray, List.set_cons_succ, List.set_cons_zero]
  have hN := hF w9 hR
  clear hR hF
  have HB_w9 := Lib.hid (HB_w8.out.trans ((hN).mono hz_w8))
  have hz_w9 : bb ≤ w9.heap.size := Nat.le_trans hz_w8 (hN).size
  have FN : ∀ W, Free.Bel w9 W → W.cell? ⟨0, 0, none⟩ = some (dblF 125) ∧ W.cell? ⟨0, 1, none⟩ = some (dblF 126) ∧ W.cell? ⟨0, 2, none⟩ = some (dblF 127) ∧ bb ≤ W.heap.size ∧ W.cell? ⟨g10, 0, none⟩ = some (.int .i64 10) ∧ W.cell? ⟨g10, 1, none⟩ = some (.int .i64 0) ∧ W.cell? ⟨g10, 2, none⟩ = some (.int .i64 10) ∧ W.cell? ⟨b3, 0, none⟩ = some (.int .i64 1) ∧ W.cell? ⟨b3, 1, none⟩ = some (.int .i64 2) ∧ W.cell? ⟨b4, 0, none⟩ = some (.int .i64 2) ∧ W.cell? ⟨b4, 1, none⟩ = some (.int .i64 3) ∧ W.cell? ⟨b5, 0, none⟩ = some (.int .i64 1) ∧ W.cell? ⟨b5, 1, none⟩ = some (.int .i64 8) ∧ IL [3] u6 W := fun W hW => by
    obtain ⟨a0, a1, a2, a3, a4, a5, a6, a7, a8, a9, a10, a11, a12, a13⟩ := FA W (Free.Bel.trans _ _ _ (hN) hW)
    exact ⟨a0, a1, a2, a3, a4, a5, a6, a7, a8, a9, a10, a11, a12, a13⟩
  clear FA HB_w8 hz_w8
  have FA := FN
  clear FN
  clear hN hV
  go_wp2_with fail
  have hF : ∀ W, Below w9.heap.size w9.drew W → Free.Bel w9 W := fun W hW => (show Below w9.heap.size w9 W from ((Below.refl _ w9).drew).trans hW)
  refine Free2.wp_free (R := Below w9.heap.size) (J := LL w9.heap.size [⟨7, 8, (.cells #[.int .i64 0, .int .i64 0] 47), (.cells #[.int .i64 3, .int .i64 0] 47)⟩]) (by kernel_rfl) (by kernel_rfl) (Below.refl _) (fun _ _ _ => Below.trans) (LL.start (Nat.le_refl _)) ?_
  refine Free2.Chain.ex ?_ 0 rfl [] [1] (by kernel_rfl) (by kernel_rfl) rfl (Below.refl _) (fun X W v h => LL.skip h 0 v (by simp)) ?_ ?_
  rotate_left
  · (intro ev W hb hR hO hD; have hS := hF W hR; obtain ⟨hb1, hb2, hb3⟩ := hb; simp only [Free.AllDeps, Free.AllOuts, Free.At, List.getElem?_cons_succ, List.getElem?_cons_zero, Array.getD_eq_getD_getElem?, List.getElem?_toArray, Option.getD_some, and_true] at hO hD; go_simp; rfl)
  simp only [List.nil_append, List.cons_append]
  refine Free2.Chain.pr (fun v _ => v = i2 3 10) 1 rfl [] [] (by kernel_rfl) (by kernel_rfl) rfl (fun _ _ _ _ h => h) ?_ ?_
  · (intro ev W X hb hR hO hD hj hx hax; have hS := hF W hR; obtain ⟨hb1, hb2, hb3⟩ := hb; simp only [Free.AllDeps, Free.AllOuts, Free.At, List.getElem?_cons_succ, List.getElem?_cons_zero, Array.getD_eq_getD_getElem?, List.getElem?_toArray, Option.getD_some, and_true] at hO hD; simp only [Free2.AllX, and_true] at hax; go_simp; refine yields_enter ?_; (with_reducible refine (partL_any 3 10 _).mono ?_); rintro e W2 ⟨rfl, hB2⟩; exact ⟨_, rfl, hB2.mono hj.size, rfl, (hj.bel hB2).skip 1 _ (by simp)⟩)
  simp only [List.nil_append, List.cons_append]
  refine Free2.Chain.pr (fun v _ => v = i2 1 10) 2 rfl [(1, 69)] [] (by kernel_rfl) (by kernel_rfl) rfl (fun _ _ _ _ h => h) ?_ ?_
  · (intro ev W X hb hR hO hD hj hx hax; have hS := hF W hR; obtain ⟨hb1, hb2, hb3⟩ := hb; simp only [Free.AllDeps, Free.AllOuts, Free.At, List.getElem?_cons_succ, List.getElem?_cons_zero, Array.getD_eq_getD_getElem?, List.getElem?_toArray, Option.getD_some, and_true] at hO hD; simp only [Free2.AllX, and_true] at hax; go_simp; refine yields_enter ?_; (with_reducible refine (partL_any 1 10 _).mono ?_); rintro e W2 ⟨rfl, hB2⟩; exact ⟨_, rfl, hB2.mono hj.size, rfl, (hj.bel hB2).skip 2 _ (by simp)⟩)
  simp only [List.nil_append, List.cons_append]
  refine Free2.Chain.pr (fun v _ => v = .tuple #[i2 3 0, .int .i64 0]) 3 rfl [(0, 68), (1, 69), (2, 70), (2, 70)] [] (by kernel_rfl) (by kernel_rfl) rfl (fun _ _ _ _ h => h) ?_ ?_
  · (intro ev W X hb hR hO hD hj hx hax; have hS := hF W hR; obtain ⟨hb1, hb2, hb3⟩ := hb; simp only [Free.AllDeps, Free.AllOuts, Free.At, List.getElem?_cons_succ, List.getElem?_cons_zero, Array.getD_eq_getD_getElem?, List.getElem?_toArray, Option.getD_some, and_true] at hO hD; simp only [Free2.AllX, and_true] at hax; go_simp; refine yields_enter ?_; (with_reducible refine (al_least _).mono ?_); rintro e W2 ⟨rfl, hB2⟩; exact ⟨_, rfl, hB2.mono hj.size, rfl, (hj.bel hB2).skip 3 _ (by simp)⟩)
  simp only [List.nil_append, List.cons_append]
  refine Free2.Chain.ex ?_ 4 rfl [(3, 71)] [] (by kernel_rfl) (by kernel_rfl) rfl (Below.refl _) (fun X W v h => LL.skip h 4 v (by simp)) ?_ ?_
  rotate_left
  · (intro ev W hb hR hO hD; have hS := hF W hR; obtain ⟨hb1, hb2, hb3⟩ := hb; simp only [Free.AllDeps, Free.AllOuts, Free.At, List.getElem?_cons_succ, List.getElem?_cons_zero, Array.getD_eq_getD_getElem?, List.getElem?_toArray, Option.getD_some, and_true] at hO hD; go_simp; rfl)
  simp only [List.nil_append, List.cons_append]
  refine Free2.Chain.ex ?_ 5 rfl [(4, 67)] [] (by kernel_rfl) (by kernel_rfl) rfl (Below.refl _) (fun X W v h => LL.skip h 5 v (by simp)) ?_ ?_
  rotate_left
  · (intro ev W hb hR hO hD; have hS := hF W hR; obtain ⟨hb1, hb2, hb3⟩ := hb; simp only [Free.AllDeps, Free.AllOuts, Free.At, List.getElem?_cons_succ, List.getElem?_cons_zero, Array.getD_eq_getD_getElem?, List.getElem?_toArray, Option.getD_some, and_true] at hO hD; go_simp; rfl)
  simp only [List.nil_append, List.cons_append]
  refine Free2.Chain.ex ?_ 6 rfl [(4, 67)] [] (by kernel_rfl) (by kernel_rfl) rfl (Below.refl _) (fun X W v h => LL.skip h 6 v (by simp)) ?_ ?_
  rotate_left
  · (intro ev W hb hR hO hD; have hS := hF W hR; obtain ⟨hb1, hb2, hb3⟩ := hb; simp only [Free.AllDeps, Free.AllOuts, Free.At, List.getElem?_cons_succ, List.getElem?_cons_zero, Array.getD_eq_getD_getElem?, List.getElem?_toArray, Option.getD_some, and_true] at hO hD; go_simp; rfl)
  simp only [List.nil_append, List.cons_append]
  refine Free2.Chain.pr (fun v _ => ∃ b, v = ptr b) 7 rfl [] [] (by kernel_rfl) (by kernel_rfl) rfl (fun _ _ _ _ h => h) ?_ ?_
  · (intro ev W X hb hR hO hD hj hx hax; have hS := hF W hR; obtain ⟨hb1, hb2, hb3⟩ := hb; simp only [Free.AllDeps, Free.AllOuts, Free.At, List.getElem?_cons_succ, List.getElem?_cons_zero, Array.getD_eq_getD_getElem?, List.getElem?_toArray, Option.getD_some, and_true] at hO hD; simp only [Free2.AllX, and_true] at hax; go_simp; exact ⟨(Below.refl _ W).alloc hj.size _, ⟨_, rfl⟩, hj.new ⟨7, 8, (.cells #[.int .i64 0, .int .i64 0] 47), (.cells #[.int .i64 3, .int .i64 0] 47)⟩ (by simp) (by simp) hx⟩)
  simp only [List.nil_append, List.cons_append]
  refine Free2.Chain.pr (fun _ _ => True) 8 rfl [(7, 16), (5, 72), (3, 71), (0, 68), (1, 69), (2, 70), (3, 71), (4, 67), (5, 72), (7, 16)] [] (by kernel_rfl) (by kernel_rfl) rfl (fun _ _ _ _ h => h) ?_ ?_
  · (intro ev W X hb hR hO hD hj hx hax; have hS := hF W hR; obtain ⟨hb1, hb2, hb3⟩ := hb; simp only [Free.AllDeps, Free.AllOuts, Free.At, List.getElem?_cons_succ, List.getElem?_cons_zero, Array.getD_eq_getD_getElem?, List.getElem?_toArray, Option.getD_some, and_true] at hO hD; simp only [Free2.AllX, and_true] at hax; obtain ⟨b, hb9, hs0, hbl⟩ := hj.at_ ⟨7, 8, (.cells #[.int .i64 0, .int .i64 0] 47), (.cells #[.int .i64 3, .int .i64 0] 47)⟩ (by simp) hax.1 hx; have hX := hax.1; rw [hb9] at hX; have hp := hj.puts ⟨7, 8, (.cells #[.int .i64 0, .int .i64 0] 47), (.cells #[.int .i64 3, .int .i64 0] 47)⟩ (by simp) (by simp) hX hs0 hbl [(0, .int .i64 3), (1, .int .i64 0)] rfl; have q0 : W.cell? ⟨b, 0, none⟩ = some (.int .i64 0) := cell_of_heap (o := 0) hbl rfl; have q1 : W.cell? ⟨b, 1, none⟩ = some (.int .i64 0) := cell_of_heap (o := 1) hbl rfl; have p0 : ∀ o, W.frozen? ⟨b, o, none⟩ = false := fun o => frozen_of_heap (o := o) hbl; go_simp; exact ⟨(hp undef).1, (hp _).2⟩)
  simp only [List.nil_append, List.cons_append]
  refine Free2.Chain.ex ?_ 9 rfl [(6, 73), (0, 68), (1, 69), (2, 70), (3, 71), (4, 67), (5, 72), (6, 73), (7, 16)] [] (by kernel_rfl) (by kernel_rfl) rfl (Below.refl _) (fun X W v h => LL.skip h 9 v (by simp)) ?_ ?_
  rotate_left
  · (intro ev W hb hR hO hD; have hS := hF W hR; obtain ⟨hb1, hb2, hb3⟩ := hb; simp only [Free.AllDeps, Free.AllOuts, Free.At, List.getElem?_cons_succ, List.getElem?_cons_zero, Array.getD_eq_getD_getElem?, List.getElem?_toArray, Option.getD_some, and_true] at hO hD; go_simp; rfl)
  simp only [List.nil_append, List.cons_append]
  intro xs w10 hR hV hX
  obtain ⟨X, hj, hxx⟩ := hX
  obtain ⟨b9, hp_b9, hs_b9, hl_b9⟩ := hj.done ⟨7, 8, (.cells #[.int .i64 0, .int .i64 0] 47), (.cells #[.int .i64 3, .int .i64 0] 47)⟩ (by simp) (hxx 7 (show (7 : Nat) < 10 by decide)) (hxx 8 (show (8 : Nat) < 10 by decide))
  simp only [Free.AllV, Free.At, List.length_cons, List.length_nil, Nat.reduceAdd, List.getElem?_cons_succ, List.getElem?_cons_zero, true_and, and_true] at hV
  simp only [Free.putsFrom, Act.put, Nat.zero_add, Nat.reduceAdd, hV, hp_b9, List.setIfInBounds_toArray, List.set_cons_succ, List.set_cons_zero]
  have hN := hF w10 hR
  have HB_w10 := Lib.hid (HB_w9.out.trans ((hN).mono hz_w9))
  have hz_w10 : bb ≤ w10.heap.size := Nat.le_trans hz_w9 (hN).size
  have FN : ∀ W, Free.Bel w10 W → W.cell? ⟨0, 0, none⟩ = some (dblF 125) ∧ W.cell? ⟨0, 1, none⟩ = some (dblF 126) ∧ W.cell? ⟨0, 2, none⟩ = some (dblF 127) ∧ bb ≤ W.heap.size ∧ W.cell? ⟨g10, 0, none⟩ = some (.int .i64 10) ∧ W.cell? ⟨g10, 1, none⟩ = some (.int .i64 0) ∧ W.cell? ⟨g10, 2, none⟩ = some (.int .i64 10) ∧ W.cell? ⟨b3, 0, none⟩ = some (.int .i64 1) ∧ W.cell? ⟨b3, 1, none⟩ = some (.int .i64 2) ∧ W.cell? ⟨b4, 0, none⟩ = some (.int .i64 2) ∧ W.cell? ⟨b4, 1, none⟩ = some (.int .i64 3) ∧ W.cell? ⟨b5, 0, none⟩ = some (.int .i64 1) ∧ W.cell? ⟨b5, 1, none⟩ = some (.int .i64 8) ∧ IL [3] u6 W ∧ W.cell? ⟨b9, 0, none⟩ = some (.int .i64 3) ∧ W.cell? ⟨b9, 1, none⟩ = some (.int .i64 0) := fun W hW => by
    obtain ⟨a0, a1, a2, a3, a4, a5, a6, a7, a8, a9, a10, a11, a12, a13⟩ := FA W (Free.Bel.trans _ _ _ (hN) hW)
    exact ⟨a0, a1, a2, a3, a4, a5, a6, a7, a8, a9, a10, a11, a12, a13, keepsB hW (cell_of_heap (o := 0) hl_b9 rfl), keepsB hW (cell_of_heap (o := 1) hl_b9 rfl)⟩
  clear FA HB_w9 hz_w9
  have FA := FN
  clear FN
  clear hR hF hj hxx hV hN hp_b9 hs_b9 hl_b9
  go_wp2_with fail
  have hF : ∀ W, Below w10.heap.size w10.drew W → Free.Bel w10 W := fun W hW => (show Below w10.heap.size w10 W from ((Below.refl _ w10).drew).trans hW)
  refine Free2.wp_free (R := Below w10.heap.size) (J := LL w10.heap.size [⟨7, 9, (.cells #[.int .i64 0, .int .i64 0] 31), (.cells #[.int .i64 11, .int .i64 21] 31)⟩, ⟨8, 10, (.cells #[.int .i64 0, .int .i64 0] 31), (.cells #[.int .i64 46, .int .i64 15] 31)⟩]) (by kernel_rfl) (by kernel_rfl) (Below.refl _) (fun _ _ _ => Below.trans) (LL.start (Nat.le_refl _)) ?_
  refine Free2.Chain.ex ?_ 0 rfl [] [1] (by kernel_rfl) (by kernel_rfl) rfl (Below.refl _) (fun X W v h => LL.skip h 0 v (by simp)) ?_ ?_
  rotate_left
  · (intro ev W hb hR hO hD; have hS := hF W hR; obtain ⟨hb1, hb2, hb3⟩ := hb; simp only [Free.AllDeps, Free.AllOuts, Free.At, List.getElem?_cons_succ, List.getElem?_cons_zero, Array.getD_eq_getD_getElem?, List.getElem?_toArray, Option.getD_some, and_true] at hO hD; go_simp; rfl)
  simp only [List.nil_append, List.cons_append]
  refine Free2.Chain.pr (fun v _ => v = .agg #[.int .i64 2, .int .i64 0, .int .i64 2, .int .i64 2, .int .i64 1]) 1 rfl [] [] (by kernel_rfl) (by kernel_rfl) rfl (fun _ _ _ _ h => h) ?_ ?_
  · (intro ev W X hb hR hO hD hj hx hax; have hS := hF W hR; obtain ⟨hb1, hb2, hb3⟩ := hb; simp only [Free.AllDeps, Free.AllOuts, Free.At, List.getElem?_cons_succ, List.getElem?_cons_zero, Array.getD_eq_getD_getElem?, List.getElem?_toArray, Option.getD_some, and_true] at hO hD; simp only [Free2.AllX, and_true] at hax; go_simp; refine yields_enter ?_; (with_reducible refine (twice1_any _).mono ?_); rintro e W2 ⟨rfl, hB2⟩; exact ⟨_, rfl, hB2.mono hj.size, rfl, (hj.bel hB2).skip 1 _ (by simp)⟩)
  simp only [List.nil_append, List.cons_append]
  refine Free2.Chain.pr (fun v _ => v = .tuple #[i2 11 21, i2 46 15, .int .i64 0]) 2 rfl [(0, 75), (1, 76), (1, 76)] [] (by kernel_rfl) (by kernel_rfl) rfl (fun _ _ _ _ h => h) ?_ ?_
  · (intro ev W X hb hR hO hD hj hx hax; have hS := hF W hR; obtain ⟨hb1, hb2, hb3⟩ := hb; simp only [Free.AllDeps, Free.AllOuts, Free.At, List.getElem?_cons_succ, List.getElem?_cons_zero, Array.getD_eq_getD_getElem?, List.getElem?_toArray, Option.getD_some, and_true] at hO hD; simp only [Free2.AllX, and_true] at hax; obtain ⟨tb0, tb1, tb2, _⟩ := FA W hS; go_simp; refine yields_enter ?_; (with_reducible refine (al_twice _ (tabD_mk tb0 tb1 tb2)).mono ?_); rintro e W2 ⟨rfl, hB2⟩; exact ⟨_, rfl, hB2.mono hj.size, rfl, (hj.bel hB2).skip 2 _ (by simp)⟩)
  simp only [List.nil_append, List.cons_append]
  refine Free2.Chain.ex ?_ 3 rfl [(2, 77)] [] (by kernel_rfl) (by kernel_rfl) rfl (Below.refl _) (fun X W v h => LL.skip h 3 v (by simp)) ?_ ?_
  rotate_left
  · (intro ev W hb hR hO hD; have hS := hF W hR; obtain ⟨hb1, hb2, hb3⟩ := hb; simp only [Free.AllDeps, Free.AllOuts, Free.At, List.getElem?_cons_succ, List.getElem?_cons_zero, Array.getD_eq_getD_getElem?, List.getElem?_toArray, Option.getD_some, and_true] at hO hD; go_simp; rfl)
  simp only [List.nil_append, List.cons_append]
  refine Free2.Chain.ex ?_ 4 rfl [(3, 74)] [] (by kernel_rfl) (by kernel_rfl) rfl (Below.refl _) (fun X W v h => LL.skip h 4 v (by simp)) ?_ ?_
  rotate_left
  · (intro ev W hb hR hO hD; have hS := hF W hR; obtain ⟨hb1, hb2, hb3⟩ := hb; simp only [Free.AllDeps, Free.AllOuts, Free.At, List.getElem?_cons_succ, List.getElem?_cons_zero, Array.getD_eq_getD_getElem?, List.getElem?_toArray, Option.getD_some, and_true] at hO hD; go_simp; rfl)
  simp only [List.nil_append, List.cons_append]
  refine Free2.Chain.ex ?_ 5 rfl [(3, 74)] [] (by kernel_rfl) (by kernel_rfl) rfl (Below.refl _) (fun X W v h => LL.skip h 5 v (by simp)) ?_ ?_
  rotate_left
  · (intro ev W hb hR hO hD; have hS := hF W hR; obtain ⟨hb1, hb2, hb3⟩ := hb; simp only [Free.AllDeps, Free.AllOuts, Free.At, List.getElem?_cons_succ, List.getElem?_cons_zero, Array.getD_eq_getD_getElem?, List.getElem?_toArray, Option.getD_some, and_true] at hO hD; go_simp; rfl)
  simp only [List.nil_append, List.cons_append]
  refine Free2.Chain.ex ?_ 6 rfl [(3, 74)] [] (by kernel_rfl) (by kernel_rfl) rfl (Below.refl _) (fun X W v h => LL.skip h 6 v (by simp)) ?_ ?_
  rotate_left
  · (intro ev W hb hR hO hD; have hS := hF W hR; obtain ⟨hb1, hb2, hb3⟩ := hb; simp only [Free.AllDeps, Free.AllOuts, Free.At, List.getElem?_cons_succ, List.getElem?_cons_zero, Array.getD_eq_getD_getElem?, List.getElem?_toArray, Option.getD_some, and_true] at hO hD; go_simp; rfl)
  simp only [List.nil_append, List.cons_append]
  refine Free2.Chain.pr (fun v _ => ∃ b, v = ptr b) 7 rfl [] [] (by kernel_rfl) (by kernel_rfl) rfl (fun _ _ _ _ h => h) ?_ ?_
  · (intro ev W X hb hR hO hD hj hx hax; have hS := hF W hR; obtain ⟨hb1, hb2, hb3⟩ := hb; simp only [Free.AllDeps, Free.AllOuts, Free.At, List.getElem?_cons_succ, List.getElem?_cons_zero, Array.getD_eq_getD_getElem?, List.getElem?_toArray, Option.getD_some, and_true] at hO hD; simp only [Free2.AllX, and_true] at hax; go_simp; exact ⟨(Below.refl _ W).alloc hj.size _, ⟨_, rfl⟩, hj.new ⟨7, 9, (.cells #[.int .i64 0, .int .i64 0] 31), (.cells #[.int .i64 11, .int .i64 21] 31)⟩ (by simp) (by simp) hx⟩)
  simp only [List.nil_append, List.cons_append]
  refine Free2.Chain.pr (fun v _ => ∃ b, v = ptr b) 8 rfl [] [] (by kernel_rfl) (by kernel_rfl) rfl (fun _ _ _ _ h => h) ?_ ?_
  · (intro ev W X hb hR hO hD hj hx hax; have hS := hF W hR; obtain ⟨hb1, hb2, hb3⟩ := hb; simp only [Free.AllDeps, Free.AllOuts, Free.At, List.getElem?_cons_succ, List.getElem?_cons_zero, Array.getD_eq_getD_getElem?, List.getElem?_toArray, Option.getD_some, and_true] at hO hD; simp only [Free2.AllX, and_true] at hax; go_simp; exact ⟨(Below.refl _ W).alloc hj.size _, ⟨_, rfl⟩, hj.new ⟨8, 10, (.cells #[.int .i64 0, .int .i64 0] 31), (.cells #[.int .i64 46, .int .i64 15] 31)⟩ (by simp) (by simp) hx⟩)
  simp only [List.nil_append, List.cons_append]
  refine Free2.Chain.pr (fun _ _ => True) 9 rfl [(7, 18), (4, 78), (2, 77), (0, 75), (1, 76), (2, 77), (3, 74), (4, 78), (7, 18), (8, 19)] [] (by kernel_rfl) (by kernel_rfl) rfl (fun _ _ _ _ h => h) ?_ ?_
  · (intro ev W X hb hR hO hD hj hx hax; have hS := hF W hR; obtain ⟨hb1, hb2, hb3⟩ := hb; simp only [Free.AllDeps, Free.AllOuts, Free.At, List.getElem?_cons_succ, List.getElem?_cons_zero, Array.getD_eq_getD_getElem?, List.getElem?_toArray, Option.getD_some, and_true] at hO hD; simp only [Free2.AllX, and_true] at hax; obtain ⟨b, hb9, hs0, hbl⟩ := hj.at_ ⟨7, 9, (.cells #[.int .i64 0, .int .i64 0] 31), (.cells #[.int .i64 11, .int .i64 21] 31)⟩ (by simp) hax.1 hx; have hX := hax.1; rw [hb9] at hX; have hp := hj.puts ⟨7, 9, (.cells #[.int .i64 0, .int .i64 0] 31), (.cells #[.int .i64 11, .int .i64 21] 31)⟩ (by simp) (by simp) hX hs0 hbl [(0, .int .i64 11), (1, .int .i64 21)] rfl; have q0 : W.cell? ⟨b, 0, none⟩ = some (.int .i64 0) := cell_of_heap (o := 0) hbl rfl; have q1 : W.cell? ⟨b, 1, none⟩ = some (.int .i64 0) := cell_of_heap (o := 1) hbl rfl; have p0 : ∀ o, W.frozen? ⟨b, o, none⟩ = false := fun o => frozen_of_heap (o := o) hbl; go_simp; exact ⟨(hp undef).1, (hp _).2⟩)
  simp only [List.nil_append, List.cons_append]
  refine Free2.Chain.pr (fun _ _ => True) 10 rfl [(8, 19), (5, 79), (0, 75), (1, 76), (2, 77), (3, 74), (4, 78), (5, 79), (7, 18), (8, 19)] [] (by kernel_rfl) (by kernel_rfl) rfl (fun _ _ _ _ h => h) ?_ ?_
  · (intro ev W X hb hR hO hD hj hx hax; have hS := hF W hR; obtain ⟨hb1, hb2, hb3⟩ := hb; simp only [Free.AllDeps, Free.AllOuts, Free.At, List.getElem?_cons_succ, List.getElem?_cons_zero, Array.getD_eq_getD_getElem?, List.getElem?_toArray, Option.getD_some, and_true] at hO hD; simp only [Free2.AllX, and_true] at hax; obtain ⟨b, hb9, hs0, hbl⟩ := hj.at_ ⟨8, 10, (.cells #[.int .i64 0, .int .i64 0] 31), (.cells #[.int .i64 46, .int .i64 15] 31)⟩ (by simp) hax.1 hx; have hX := hax.1; rw [hb9] at hX; have hp := hj.puts ⟨8, 10, (.cells #[.int .i64 0, .int .i64 0] 31), (.cells #[.int .i64 46, .int .i64 15] 31)⟩ (by simp) (by simp) hX hs0 hbl [(0, .int .i64 46), (1, .int .i64 15)] rfl; have q0 : W.cell? ⟨b, 0, none⟩ = some (.int .i64 0) := cell_of_heap (o := 0) hbl rfl; have q1 : W.cell? ⟨b, 1, none⟩ = some (.int .i64 0) := cell_of_heap (o := 1) hbl rfl; have p0 : ∀ o, W.frozen? ⟨b, o, none⟩ = false := fun o => frozen_of_heap (o := o) hbl; go_simp; exact ⟨(hp undef).1, (hp _).2⟩)
  simp only [List.nil_append, List.cons_append]
  refine Free2.Chain.ex ?_ 11 rfl [(6, 80), (0, 75), (1, 76), (2, 77), (3, 74), (4, 78), (5, 79), (6, 80), (7, 18), (8, 19)] [] (by kernel_rfl) (by kernel_rfl) rfl (Below.refl _) (fun X W v h => LL.skip h 11 v (by simp)) ?_ ?_
  rotate_left
  · (intro ev W hb hR hO hD; have hS := hF W hR; obtain ⟨hb1, hb2, hb3⟩ := hb; simp only [Free.AllDeps, Free.AllOuts, Free.At, List.getElem?_cons_succ, List.getElem?_cons_zero, Array.getD_eq_getD_getElem?, List.getElem?_toArray, Option.getD_some, and_true] at hO hD; go_simp; rfl)
  simp only [List.nil_append, List.cons_append]
  intro xs w11 hR hV hX
  obtain ⟨X, hj, hxx⟩ := hX
  obtain ⟨b10, hp_b10, hs_b10, hl_b10⟩ := hj.done ⟨7, 9, (.cells #[.int .i64 0, .int .i64 0] 31), (.cells #[.int .i64 11, .int .i64 21] 31)⟩ (by simp) (hxx 7 (show (7 : Nat) < 12 by decide)) (hxx 9 (show (9 : Nat) < 12 by decide))
  obtain ⟨b11, hp_b11, hs_b11, hl_b11⟩ := hj.done ⟨8, 10, (.cells #[.int .i64 0, .int .i64 0] 31), (.cells #[.int .i64 46, .int .i64 15] 31)⟩ (by simp) (hxx 8 (show (8 : Nat) < 12 by decide)) (hxx 10 (show (10 : Nat) < 12 by decide))
  simp only [Free.AllV, Free.At, List.length_cons, List.length_nil, Nat.reduceAdd, List.getElem?_cons_succ, List.getElem?_cons_zero, true_and, and_true] at hV
  simp only [Free.putsFrom, Act.put, Nat.zero_add, Nat.reduceAdd, hV, hp_b10, hp_b11, List.setIfInBounds_toArray, List.set_cons_succ, List.set_cons_zero]
  have hN := hF w11 hR
  have HB_w11 := Lib.hid (HB_w10.out.trans ((hN).mono hz_w10))
  have hz_w11 : bb ≤ w11.heap.size := Nat.le_trans hz_w10 (hN).size
  have FN : ∀ W, Free.Bel w11 W → W.cell? ⟨0, 0, none⟩ = some (dblF 125) ∧ W.cell? ⟨0, 1, none⟩ = some (dblF 126) ∧ W.cell? ⟨0, 2, none⟩ = some (dblF 127) ∧ bb ≤ W.heap.size ∧ W.cell? ⟨g10, 0, none⟩ = some (.int .i64 10) ∧ W.cell? ⟨g10, 1, none⟩ = some (.int .i64 0) ∧ W.cell? ⟨g10, 2, none⟩ = some (.int .i64 10) ∧ W.cell? ⟨b3, 0, none⟩ = some (.int .i64 1) ∧ W.cell? ⟨b3, 1, none⟩ = some (.int .i64 2) ∧ W.cell? ⟨b4, 0, none⟩ = some (.int .i64 2) ∧ W.cell? ⟨b4, 1, none⟩ = some (.int .i64 3) ∧ W.cell? ⟨b5, 0, none⟩ = some (.int .i64 1) ∧ W.cell? ⟨b5, 1, none⟩ = some (.int .i64 8) ∧ IL [3] u6 W ∧ W.cell? ⟨b9, 0, none⟩ = some (.int .i64 3) ∧ W.cell? ⟨b9, 1, none⟩ = some (.int .i64 0) ∧ W.cell? ⟨b10, 0, none⟩ = some (.int .i64 11) ∧ W.cell? ⟨b10, 1, none⟩ = some (.int .i64 21) ∧ W.cell? ⟨b11, 0, none⟩ = some (.int .i64 46) ∧ W.cell? ⟨b11, 1, none⟩ = some (.int .i64 15) := fun W hW => by
    obtain ⟨a0, a1, a2, a3, a4, a5, a6, a7, a8, a9, a10, a11, a12, a13, a14, a15⟩ := FA W (Free.Bel.trans _ _ _ (hN) hW)
    exact ⟨a0, a1, a2, a3, a4, a5, a6, a7, a8, a9, a10, a11, a12, a13, a14, a15, keepsB hW (cell_of_heap (o := 0) hl_b10 rfl), keepsB hW (cell_of_heap (o := 1) hl_b10 rfl), keepsB hW (cell_of_heap (o := 0) hl_b11 rfl), keepsB hW (cell_of_heap (o := 1) hl_b11 rfl)⟩
  clear FA HB_w10 hz_w10
  have FA := FN
  clear FN
  clear hR hF hj hxx hV hN hp_b10 hs_b10 hl_b10 hp_b11 hs_b11 hl_b11
  go_wp2_with fail
  refine (terms_any _).mono ?_
  rintro e w12 ⟨vt, rfl, hpl, hB⟩
  have HB_w12 := Lib.hid (HB_w11.out.trans ((hB).mono hz_w11))
  have hz_w12 : bb ≤ w12.heap.size := Nat.le_trans hz_w11 (hB).size
  have FN : ∀ W, Free.Bel w12 W → W.cell? ⟨0, 0, none⟩ = some (dblF 125) ∧ W.cell? ⟨0, 1, none⟩ = some (dblF 126) ∧ W.cell? ⟨0, 2, none⟩ = some (dblF 127) ∧ bb ≤ W.heap.size ∧ W.cell? ⟨g10, 0, none⟩ = some (.int .i64 10) ∧ W.cell? ⟨g10, 1, none⟩ = some (.int .i64 0) ∧ W.cell? ⟨g10, 2, none⟩ = some (.int .i64 10) ∧ W.cell? ⟨b3, 0, none⟩ = some (.int .i64 1) ∧ W.cell? ⟨b3, 1, none⟩ = some (.int .i64 2) ∧ W.cell? ⟨b4, 0, none⟩ = some (.int .i64 2) ∧ W.cell? ⟨b4, 1, none⟩ = some (.int .i64 3) ∧ W.cell? ⟨b5, 0, none⟩ = some (.int .i64 1) ∧ W.cell? ⟨b5, 1, none⟩ = some (.int .i64 8) ∧ IL [3] u6 W ∧ W.cell? ⟨b9, 0, none⟩ = some (.int .i64 3) ∧ W.cell? ⟨b9, 1, none⟩ = some (.int .i64 0) ∧ W.cell? ⟨b10, 0, none⟩ = some (.int .i64 11) ∧ W.cell? ⟨b10, 1, none⟩ = some (.int .i64 21) ∧ W.cell? ⟨b11, 0, none⟩ = some (.int .i64 46) ∧ W.cell? ⟨b11, 1, none⟩ = some (.int .i64 15) ∧ PL [(5, 100), (10, 300), (30, 1000)] vt W := fun W hW => by
    obtain ⟨a0, a1, a2, a3, a4, a5, a6, a7, a8, a9, a10, a11, a12, a13, a14, a15, a16, a17, a18, a19⟩ := FA W (Free.Bel.trans _ _ _ (hB) hW)
    exact ⟨a0, a1, a2, a3, a4, a5, a6, a7, a8, a9, a10, a11, a12, a13, a14, a15, a16, a17, a18, a19, hpl.keeps hW⟩
  clear FA HB_w11 hz_w11
  have FA := FN
  clear FN
  clear hB
  clear hpl
  go_wp2_with fail
  refine (drawn_any 10 1 _).mono ?_
  rintro e w13 ⟨rfl, hB⟩
  have HB_w13 := Lib.hid (HB_w12.out.trans ((hB).mono hz_w12))
  have hz_w13 : bb ≤ w13.heap.size := Nat.le_trans hz_w12 (hB).size
  have FN : ∀ W, Free.Bel w13 W → W.cell? ⟨0, 0, none⟩ = some (dblF 125) ∧ W.cell? ⟨0, 1, none⟩ = some (dblF 126) ∧ W.cell? ⟨0, 2, none⟩ = some (dblF 127) ∧ bb ≤ W.heap.size ∧ W.cell? ⟨g10, 0, none⟩ = some (.int .i64 10) ∧ W.cell? ⟨g10, 1, none⟩ = some (.int .i64 0) ∧ W.cell? ⟨g10, 2, none⟩ = some (.int .i64 10) ∧ W.cell? ⟨b3, 0, none⟩ = some (.int .i64 1) ∧ W.cell? ⟨b3, 1, none⟩ = some (.int .i64 2) ∧ W.cell? ⟨b4, 0, none⟩ = some (.int .i64 2) ∧ W.cell? ⟨b4, 1, none⟩ = some (.int .i64 3) ∧ W.cell? ⟨b5, 0, none⟩ = some (.int .i64 1) ∧ W.cell? ⟨b5, 1, none⟩ = some (.int .i64 8) ∧ IL [3] u6 W ∧ W.cell? ⟨b9, 0, none⟩ = some (.int .i64 3) ∧ W.cell? ⟨b9, 1, none⟩ = some (.int .i64 0) ∧ W.cell? ⟨b10, 0, none⟩ = some (.int .i64 11) ∧ W.cell? ⟨b10, 1, none⟩ = some (.int .i64 21) ∧ W.cell? ⟨b11, 0, none⟩ = some (.int .i64 46) ∧ W.cell? ⟨b11, 1, none⟩ = some (.int .i64 15) ∧ PL [(5, 100), (10, 300), (30, 1000)] vt W := fun W hW => by
    obtain ⟨a0, a1, a2, a3, a4, a5, a6, a7, a8, a9, a10, a11, a12, a13, a14, a15, a16, a17, a18, a19, a20⟩ := FA W (Free.Bel.trans _ _ _ (hB) hW)
    exact ⟨a0, a1, a2, a3, a4, a5, a6, a7, a8, a9, a10, a11, a12, a13, a14, a15, a16, a17, a18, a19, a20⟩
  clear FA HB_w12 hz_w12
  have FA := FN
  clear FN
  clear hB
  go_wp2_with fail
  refine (al_off vt _ (FA w13 (Free.Bel.refl _)).2.2.2.2.2.2.2.2.2.2.2.2.2.2.2.2.2.2.2.2).mono ?_
  rintro e w14 ⟨rfl, hB⟩
  have HB_w14 := Lib.hid (HB_w13.out.trans ((hB).mono hz_w13))
  have hz_w14 : bb ≤ w14.heap.size := Nat.le_trans hz_w13 (hB).size
  have FN : ∀ W, Free.Bel w14 W → W.cell? ⟨0, 0, none⟩ = some (dblF 125) ∧ W.cell? ⟨0, 1, none⟩ = some (dblF 126) ∧ W.cell? ⟨0, 2, none⟩ = some (dblF 127) ∧ bb ≤ W.heap.size ∧ W.cell? ⟨g10, 0, none⟩ = some (.int .i64 10) ∧ W.cell? ⟨g10, 1, none⟩ = some (.int .i64 0) ∧ W.cell? ⟨g10, 2, none⟩ = some (.int .i64 10) ∧ W.cell? ⟨b3, 0, none⟩ = some (.int .i64 1) ∧ W.cell? ⟨b3, 1, none⟩ = some (.int .i64 2) ∧ W.cell? ⟨b4, 0, none⟩ = some (.int .i64 2) ∧ W.cell? ⟨b4, 1, none⟩ = some (.int .i64 3) ∧ W.cell? ⟨b5, 0, none⟩ = some (.int .i64 1) ∧ W.cell? ⟨b5, 1, none⟩ = some (.int .i64 8) ∧ IL [3] u6 W ∧ W.cell? ⟨b9, 0, none⟩ = some (.int .i64 3) ∧ W.cell? ⟨b9, 1, none⟩ = some (.int .i64 0) ∧ W.cell? ⟨b10, 0, none⟩ = some (.int .i64 11) ∧ W.cell? ⟨b10, 1, none⟩ = some (.int .i64 21) ∧ W.cell? ⟨b11, 0, none⟩ = some (.int .i64 46) ∧ W.cell? ⟨b11, 1, none⟩ = some (.int .i64 15) ∧ PL [(5, 100), (10, 300), (30, 1000)] vt W := fun W hW => by
    obtain ⟨a0, a1, a2, a3, a4, a5, a6, a7, a8, a9, a10, a11, a12, a13, a14, a15, a16, a17, a18, a19, a20⟩ := FA W (Free.Bel.trans _ _ _ (hB) hW)
    exact ⟨a0, a1, a2, a3, a4, a5, a6, a7, a8, a9, a10, a11, a12, a13, a14, a15, a16, a17, a18, a19, a20⟩
  clear FA HB_w13 hz_w13
  have FA := FN
  clear FN
  clear hB
  go_wp2_with fail
  refine (al_award _).mono ?_
  rintro e w15 ⟨rfl, hB⟩
  have HB_w15 := Lib.hid (HB_w14.out.trans ((hB).mono hz_w14))
  have hz_w15 : bb ≤ w15.heap.size := Nat.le_trans hz_w14 (hB).size
  have FN : ∀ W, Free.Bel w15 W → W.cell? ⟨0, 0, none⟩ = some (dblF 125) ∧ W.cell? ⟨0, 1, none⟩ = some (dblF 126) ∧ W.cell? ⟨0, 2, none⟩ = some (dblF 127) ∧ bb ≤ W.heap.size ∧ W.cell? ⟨g10, 0, none⟩ = some (.int .i64 10) ∧ W.cell? ⟨g10, 1, none⟩ = some (.int .i64 0) ∧ W.cell? ⟨g10, 2, none⟩ = some (.int .i64 10) ∧ W.cell? ⟨b3, 0, none⟩ = some (.int .i64 1) ∧ W.cell? ⟨b3, 1, none⟩ = some (.int .i64 2) ∧ W.cell? ⟨b4, 0, none⟩ = some (.int .i64 2) ∧ W.cell? ⟨b4, 1, none⟩ = some (.int .i64 3) ∧ W.cell? ⟨b5, 0, none⟩ = some (.int .i64 1) ∧ W.cell? ⟨b5, 1, none⟩ = some (.int .i64 8) ∧ IL [3] u6 W ∧ W.cell? ⟨b9, 0, none⟩ = some (.int .i64 3) ∧ W.cell? ⟨b9, 1, none⟩ = some (.int .i64 0) ∧ W.cell? ⟨b10, 0, none⟩ = some (.int .i64 11) ∧ W.cell? ⟨b10, 1, none⟩ = some (.int .i64 21) ∧ W.cell? ⟨b11, 0, none⟩ = some (.int .i64 46) ∧ W.cell? ⟨b11, 1, none⟩ = some (.int .i64 15) ∧ PL [(5, 100), (10, 300), (30, 1000)] vt W := fun W hW => by
    obtain ⟨a0, a1, a2, a3, a4, a5, a6, a7, a8, a9, a10, a11, a12, a13, a14, a15, a16, a17, a18, a19, a20⟩ := FA W (Free.Bel.trans _ _ _ (hB) hW)
    exact ⟨a0, a1, a2, a3, a4, a5, a6, a7, a8, a9, a10, a11, a12, a13, a14, a15, a16, a17, a18, a19, a20⟩
  clear FA HB_w14 hz_w14
  have FA := FN
  clear FN
  clear hB
  go_wp2_with fail
  have hF : ∀ W, Free.Bel w15.drew W → Free.Bel w15 W := fun W hW => Free.Bel.trans _ _ _ (Bel.drewT (Free.Bel.refl _)) hW
  refine Free.wp_free (R := Free.Bel) (by kernel_rfl) (by kernel_rfl) Free.Bel.refl Free.Bel.trans ?_
  refine Free.Chain.ex ?_ [] [3] (by kernel_rfl) (by kernel_rfl) rfl Free.Bel.refl ?_ ?_
  rotate_left
  · (intro ev W hb hR hO hD; have hS := hF W hR; obtain ⟨hb1, hb2, hb3⟩ := hb; simp only [Free.AllDeps, Free.AllOuts, Free.At, List.getElem?_cons_succ, List.getElem?_cons_zero, Array.getD_eq_getD_getElem?, List.getElem?_toArray, Option.getD_some, and_true] at hO hD; go_simp; rfl)
  simp only [List.nil_append, List.cons_append]
  refine Free.Chain.ex ?_ [(0, 91)] [] (by kernel_rfl) (by kernel_rfl) rfl Free.Bel.refl ?_ ?_
  rotate_left
  · (intro ev W hb hR hO hD; have hS := hF W hR; obtain ⟨hb1, hb2, hb3⟩ := hb; simp only [Free.AllDeps, Free.AllOuts, Free.At, List.getElem?_cons_succ, List.getElem?_cons_zero, Array.getD_eq_getD_getElem?, List.getElem?_toArray, Option.getD_some, and_true] at hO hD; go_simp; rfl)
  simp only [List.nil_append, List.cons_append]
  refine Free.Chain.ex ?_ [(1, 92)] [] (by kernel_rfl) (by kernel_rfl) rfl Free.Bel.refl ?_ ?_
  rotate_left
  · (intro ev W hb hR hO hD; have hS := hF W hR; obtain ⟨hb1, hb2, hb3⟩ := hb; simp only [Free.AllDeps, Free.AllOuts, Free.At, List.getElem?_cons_succ, List.getElem?_cons_zero, Array.getD_eq_getD_getElem?, List.getElem?_toArray, Option.getD_some, and_true] at hO hD; go_simp; rfl)
  simp only [List.nil_append, List.cons_append]
  refine Free.Chain.exG ?_ [(2, 93)] [2] 2 false 93 (by kernel_rfl) (by kernel_rfl) rfl (by kernel_rfl) Free.Bel.refl ?_ ?_
  rotate_left
  · (intro ev W hb hR hO hD; have hS := hF W hR; obtain ⟨hb1, hb2, hb3⟩ := hb; simp only [Free.AllDeps, Free.AllOuts, Free.At, List.getElem?_cons_succ, List.getElem?_cons_zero, Array.getD_eq_getD_getElem?, List.getElem?_toArray, Option.getD_some, and_true] at hO hD; refine ⟨by simp [hD], ?_⟩; go_simp; rfl)
  simp only [List.nil_append, List.cons_append]
  refine Free.Chain.exG ?_ [(3, 94), (2, 93)] [] 2 false 93 (by kernel_rfl) (by kernel_rfl) rfl (by kernel_rfl) Free.Bel.refl ?_ ?_
  rotate_left
  · (intro ev W hb hR hO hD; have hS := hF W hR; obtain ⟨hb1, hb2, hb3⟩ := hb; simp only [Free.AllDeps, Free.AllOuts, Free.At, List.getElem?_cons_succ, List.getElem?_cons_zero, Array.getD_eq_getD_getElem?, List.getElem?_toArray, Option.getD_some, and_true] at hO hD; refine ⟨by simp [hD], ?_⟩; go_simp; rfl)
  simp only [List.nil_append, List.cons_append]
  refine Free.Chain.ex ?_ [(2, 93), (4, 95)] [] (by kernel_rfl) (by kernel_rfl) rfl Free.Bel.refl ?_ ?_
  rotate_left
  · (intro ev W hb hR hO hD; have hS := hF W hR; obtain ⟨hb1, hb2, hb3⟩ := hb; simp only [Free.AllDeps, Free.AllOuts, Free.At, List.getElem?_cons_succ, List.getElem?_cons_zero, Array.getD_eq_getD_getElem?, List.getElem?_toArray, Option.getD_some, and_true] at hO hD; go_simp; rfl)
  simp only [List.nil_append, List.cons_append]
  refine Free.Chain.ex ?_ [(5, 96), (2, 93)] [] (by kernel_rfl) (by kernel_rfl) rfl Free.Bel.refl ?_ ?_
  rotate_left
  · (intro ev W hb hR hO hD; have hS := hF W hR; obtain ⟨hb1, hb2, hb3⟩ := hb; simp only [Free.AllDeps, Free.AllOuts, Free.At, List.getElem?_cons_succ, List.getElem?_cons_zero, Array.getD_eq_getD_getElem?, List.getElem?_toArray, Option.getD_some, and_true] at hO hD; go_simp; rfl)
  simp only [List.nil_append, List.cons_append]
  refine Free.Chain.exG ?_ [(6, 97)] [5] 6 false 97 (by kernel_rfl) (by kernel_rfl) rfl (by kernel_rfl) Free.Bel.refl ?_ ?_
  rotate_left
  · (intro ev W hb hR hO hD; have hS := hF W hR; obtain ⟨hb1, hb2, hb3⟩ := hb; simp only [Free.AllDeps, Free.AllOuts, Free.At, List.getElem?_cons_succ, List.getElem?_cons_zero, Array.getD_eq_getD_getElem?, List.getElem?_toArray, Option.getD_some, and_true] at hO hD; refine ⟨by simp [hD], ?_⟩; go_simp; rfl)
  simp only [List.nil_append, List.cons_append]
  refine Free.Chain.exG ?_ [(7, 98), (6, 97)] [] 6 false 97 (by kernel_rfl) (by kernel_rfl) rfl (by kernel_rfl) Free.Bel.refl ?_ ?_
  rotate_left
  · (intro ev W hb hR hO hD; have hS := hF W hR; obtain ⟨hb1, hb2, hb3⟩ := hb; simp only [Free.AllDeps, Free.AllOuts, Free.At, List.getElem?_cons_succ, List.getElem?_cons_zero, Array.getD_eq_getD_getElem?, List.getElem?_toArray, Option.getD_some, and_true] at hO hD; refine ⟨by simp [hD], ?_⟩; go_simp; rfl)
  simp only [List.nil_append, List.cons_append]
  refine Free.Chain.ex ?_ [(6, 97), (8, 99)] [] (by kernel_rfl) (by kernel_rfl) rfl Free.Bel.refl ?_ ?_
  rotate_left
  · (intro ev W hb hR hO hD; have hS := hF W hR; obtain ⟨hb1, hb2, hb3⟩ := hb; simp only [Free.AllDeps, Free.AllOuts, Free.At, List.getElem?_cons_succ, List.getElem?_cons_zero, Array.getD_eq_getD_getElem?, List.getElem?_toArray, Option.getD_some, and_true] at hO hD; go_simp; rfl)
  simp only [List.nil_append, List.cons_append]
  refine Free.Chain.ex ?_ [(9, 100), (6, 97)] [] (by kernel_rfl) (by kernel_rfl) rfl Free.Bel.refl ?_ ?_
  rotate_left
  · (intro ev W hb hR hO hD; have hS := hF W hR; obtain ⟨hb1, hb2, hb3⟩ := hb; simp only [Free.AllDeps, Free.AllOuts, Free.At, List.getElem?_cons_succ, List.getElem?_cons_zero, Array.getD_eq_getD_getElem?, List.getElem?_toArray, Option.getD_some, and_true] at hO hD; go_simp; rfl)
  simp only [List.nil_append, List.cons_append]
  refine Free.Chain.exG ?_ [(10, 101)] [4] 10 false 101 (by kernel_rfl) (by kernel_rfl) rfl (by kernel_rfl) Free.Bel.refl ?_ ?_
  rotate_left
  · (intro ev W hb hR hO hD; have hS := hF W hR; obtain ⟨hb1, hb2, hb3⟩ := hb; simp only [Free.AllDeps, Free.AllOuts, Free.At, List.getElem?_cons_succ, List.getElem?_cons_zero, Array.getD_eq_getD_getElem?, List.getElem?_toArray, Option.getD_some, and_true] at hO hD; refine ⟨by simp [hD], ?_⟩; go_simp; rfl)
  simp only [List.nil_append, List.cons_append]
  refine Free.Chain.prG (fun v _ => v = i2 1 2) [(10, 101), (10, 101)] [] 10 false 101 (by kernel_rfl) (by kernel_rfl) rfl (by kernel_rfl) (fun _ _ _ _ h => h) ?_ ?_
  · (intro ev W hb hR hO hD; have hS := hF W hR; obtain ⟨hb1, hb2, hb3⟩ := hb; simp only [Free.AllDeps, Free.AllOuts, Free.At, List.getElem?_cons_succ, List.getElem?_cons_zero, Array.getD_eq_getD_getElem?, List.getElem?_toArray, Option.getD_some, and_true] at hO hD; refine ⟨by simp [hD], ?_⟩; go_simp; refine yields_enter ?_; (with_reducible refine (partL_any 1 2 _).mono ?_); rintro e W2 ⟨rfl, hB2⟩; exact ⟨_, rfl, hB2, rfl⟩)
  simp only [List.nil_append, List.cons_append]
  refine Free.Chain.exG ?_ [(11, 102), (12, 103), (10, 101)] [] 10 false 101 (by kernel_rfl) (by kernel_rfl) rfl (by kernel_rfl) Free.Bel.refl ?_ ?_
  rotate_left
  · (intro ev W hb hR hO hD; have hS := hF W hR; obtain ⟨hb1, hb2, hb3⟩ := hb; simp only [Free.AllDeps, Free.AllOuts, Free.At, List.getElem?_cons_succ, List.getElem?_cons_zero, Array.getD_eq_getD_getElem?, List.getElem?_toArray, Option.getD_some, and_true] at hO hD; refine ⟨by simp [hD], ?_⟩; go_simp; rfl)
  simp only [List.nil_append, List.cons_append]
  refine Free.Chain.ex ?_ [(10, 101), (13, 104)] [] (by kernel_rfl) (by kernel_rfl) rfl Free.Bel.refl ?_ ?_
  rotate_left
  · (intro ev W hb hR hO hD; have hS := hF W hR; obtain ⟨hb1, hb2, hb3⟩ := hb; simp only [Free.AllDeps, Free.AllOuts, Free.At, List.getElem?_cons_succ, List.getElem?_cons_zero, Array.getD_eq_getD_getElem?, List.getElem?_toArray, Option.getD_some, and_true] at hO hD; go_simp; rfl)
  simp only [List.nil_append, List.cons_append]
  refine Free.Chain.ex ?_ [(14, 105), (12, 103)] [] (by kernel_rfl) (by kernel_rfl) rfl Free.Bel.refl ?_ ?_
  rotate_left
  · (intro ev W hb hR hO hD; have hS := hF W hR; obtain ⟨hb1, hb2, hb3⟩ := hb; simp only [Free.AllDeps, Free.AllOuts, Free.At, List.getElem?_cons_succ, List.getElem?_cons_zero, Array.getD_eq_getD_getElem?, List.getElem?_toArray, Option.getD_some, and_true] at hO hD; go_simp; rfl)
  simp only [List.nil_append, List.cons_append]
  refine Free.Chain.exG ?_ [(15, 106)] [7] 15 false 106 (by kernel_rfl) (by kernel_rfl) rfl (by kernel_rfl) Free.Bel.refl ?_ ?_
  rotate_left
  · (intro ev W hb hR hO hD; have hS := hF W hR; obtain ⟨hb1, hb2, hb3⟩ := hb; simp only [Free.AllDeps, Free.AllOuts, Free.At, List.getElem?_cons_succ, List.getElem?_cons_zero, Array.getD_eq_getD_getElem?, List.getElem?_toArray, Option.getD_some, and_true] at hO hD; refine ⟨by simp [hD], ?_⟩; go_simp; rfl)
  simp only [List.nil_append, List.cons_append]
  refine Free.Chain.exG ?_ [(16, 107), (15, 106)] [] 15 false 106 (by kernel_rfl) (by kernel_rfl) rfl (by kernel_rfl) Free.Bel.refl ?_ ?_
  rotate_left
  · (intro ev W hb hR hO hD; have hS := hF W hR; obtain ⟨hb1, hb2, hb3⟩ := hb; simp only [Free.AllDeps, Free.AllOuts, Free.At, List.getElem?_cons_succ, List.getElem?_cons_zero, Array.getD_eq_getD_getElem?, List.getElem?_toArray, Option.getD_some, and_true] at hO hD; refine ⟨by simp [hD], ?_⟩; go_simp; rfl)
  simp only [List.nil_append, List.cons_append]
  refine Free.Chain.ex ?_ [(15, 106), (17, 108)] [] (by kernel_rfl) (by kernel_rfl) rfl Free.Bel.refl ?_ ?_
  rotate_left
  · (intro ev W hb hR hO hD; have hS := hF W hR; obtain ⟨hb1, hb2, hb3⟩ := hb; simp only [Free.AllDeps, Free.AllOuts, Free.At, List.getElem?_cons_succ, List.getElem?_cons_zero, Array.getD_eq_getD_getElem?, List.getElem?_toArray, Option.getD_some, and_true] at hO hD; go_simp; rfl)
  simp only [List.nil_append, List.cons_append]
  refine Free.Chain.ex ?_ [(18, 109), (15, 106)] [] (by kernel_rfl) (by kernel_rfl) rfl Free.Bel.refl ?_ ?_
  rotate_left
  · (intro ev W hb hR hO hD; have hS := hF W hR; obtain ⟨hb1, hb2, hb3⟩ := hb; simp only [Free.AllDeps, Free.AllOuts, Free.At, List.getElem?_cons_succ, List.getElem?_cons_zero, Array.getD_eq_getD_getElem?, List.getElem?_toArray, Option.getD_some, and_true] at hO hD; go_simp; rfl)
  simp only [List.nil_append, List.cons_append]
  refine Free.Chain.exG ?_ [(19, 110)] [6] 19 false 110 (by kernel_rfl) (by kernel_rfl) rfl (by kernel_rfl) Free.Bel.refl ?_ ?_
  rotate_left
  · (intro ev W hb hR hO hD; have hS := hF W hR; obtain ⟨hb1, hb2, hb3⟩ := hb; simp only [Free.AllDeps, Free.AllOuts, Free.At, List.getElem?_cons_succ, List.getElem?_cons_zero, Array.getD_eq_getD_getElem?, List.getElem?_toArray, Option.getD_some, and_true] at hO hD; refine ⟨by simp [hD], ?_⟩; go_simp; rfl)
  simp only [List.nil_append, List.cons_append]
  refine Free.Chain.prG (fun v _ => v = i2 2 3) [(19, 110), (19, 110)] [] 19 false 110 (by kernel_rfl) (by kernel_rfl) rfl (by kernel_rfl) (fun _ _ _ _ h => h) ?_ ?_
  · (intro ev W hb hR hO hD; have hS := hF W hR; obtain ⟨hb1, hb2, hb3⟩ := hb; simp only [Free.AllDeps, Free.AllOuts, Free.At, List.getElem?_cons_succ, List.getElem?_cons_zero, Array.getD_eq_getD_getElem?, List.getElem?_toArray, Option.getD_some, and_true] at hO hD; refine ⟨by simp [hD], ?_⟩; go_simp; refine yields_enter ?_; (with_reducible refine (partL_any 2 3 _).mono ?_); rintro e W2 ⟨rfl, hB2⟩; exact ⟨_, rfl, hB2, rfl⟩)
  simp only [List.nil_append, List.cons_append]
  refine Free.Chain.exG ?_ [(20, 111), (21, 112), (19, 110)] [] 19 false 110 (by kernel_rfl) (by kernel_rfl) rfl (by kernel_rfl) Free.Bel.refl ?_ ?_
  rotate_left
  · (intro ev W hb hR hO hD; have hS := hF W hR; obtain ⟨hb1, hb2, hb3⟩ := hb; simp only [Free.AllDeps, Free.AllOuts, Free.At, List.getElem?_cons_succ, List.getElem?_cons_zero, Array.getD_eq_getD_getElem?, List.getElem?_toArray, Option.getD_some, and_true] at hO hD; refine ⟨by simp [hD], ?_⟩; go_simp; rfl)
  simp only [List.nil_append, List.cons_append]
  refine Free.Chain.ex ?_ [(19, 110), (22, 113)] [] (by kernel_rfl) (by kernel_rfl) rfl Free.Bel.refl ?_ ?_
  rotate_left
  · (intro ev W hb hR hO hD; have hS := hF W hR; obtain ⟨hb1, hb2, hb3⟩ := hb; simp only [Free.AllDeps, Free.AllOuts, Free.At, List.getElem?_cons_succ, List.getElem?_cons_zero, Array.getD_eq_getD_getElem?, List.getElem?_toArray, Option.getD_some, and_true] at hO hD; go_simp; rfl)
  simp only [List.nil_append, List.cons_append]
  refine Free.Chain.ex ?_ [(23, 114), (21, 112)] [] (by kernel_rfl) (by kernel_rfl) rfl Free.Bel.refl ?_ ?_
  rotate_left
  · (intro ev W hb hR hO hD; have hS := hF W hR; obtain ⟨hb1, hb2, hb3⟩ := hb; simp only [Free.AllDeps, Free.AllOuts, Free.At, List.getElem?_cons_succ, List.getElem?_cons_zero, Array.getD_eq_getD_getElem?, List.getElem?_toArray, Option.getD_some, and_true] at hO hD; go_simp; rfl)
  simp only [List.nil_append, List.cons_append]
  refine Free.Chain.exG ?_ [(24, 115)] [9] 24 false 115 (by kernel_rfl) (by kernel_rfl) rfl (by kernel_rfl) Free.Bel.refl ?_ ?_
  rotate_left
  · (intro ev W hb hR hO hD; have hS := hF W hR; obtain ⟨hb1, hb2, hb3⟩ := hb; simp only [Free.AllDeps, Free.AllOuts, Free.At, List.getElem?_cons_succ, List.getElem?_cons_zero, Array.getD_eq_getD_getElem?, List.getElem?_toArray, Option.getD_some, and_true] at hO hD; refine ⟨by simp [hD], ?_⟩; go_simp; rfl)
  simp only [List.nil_append, List.cons_append]
  refine Free.Chain.exG ?_ [(25, 116), (24, 115)] [] 24 false 115 (by kernel_rfl) (by kernel_rfl) rfl (by kernel_rfl) Free.Bel.refl ?_ ?_
  rotate_left
  · (intro ev W hb hR hO hD; have hS := hF W hR; obtain ⟨hb1, hb2, hb3⟩ := hb; simp only [Free.AllDeps, Free.AllOuts, Free.At, List.getElem?_cons_succ, List.getElem?_cons_zero, Array.getD_eq_getD_getElem?, List.getElem?_toArray, Option.getD_some, and_true] at hO hD; refine ⟨by simp [hD], ?_⟩; go_simp; rfl)
  simp only [List.nil_append, List.cons_append]
  refine Free.Chain.ex ?_ [(24, 115), (26, 117)] [] (by kernel_rfl) (by kernel_rfl) rfl Free.Bel.refl ?_ ?_
  rotate_left
  · (intro ev W hb hR hO hD; have hS := hF W hR; obtain ⟨hb1, hb2, hb3⟩ := hb; simp only [Free.AllDeps, Free.AllOuts, Free.At, List.getElem?_cons_succ, List.getElem?_cons_zero, Array.getD_eq_getD_getElem?, List.getElem?_toArray, Option.getD_some, and_true] at hO hD; go_simp; rfl)
  simp only [List.nil_append, List.cons_append]
  refine Free.Chain.ex ?_ [(27, 118), (24, 115)] [] (by kernel_rfl) (by kernel_rfl) rfl Free.Bel.refl ?_ ?_
  rotate_left
  · (intro ev W hb hR hO hD; have hS := hF W hR; obtain ⟨hb1, hb2, hb3⟩ := hb; simp only [Free.AllDeps, Free.AllOuts, Free.At, List.getElem?_cons_succ, List.getElem?_cons_zero, Array.getD_eq_getD_getElem?, List.getElem?_toArray, Option.getD_some, and_true] at hO hD; go_simp; rfl)
  simp only [List.nil_append, List.cons_append]
  refine Free.Chain.exG ?_ [(28, 119)] [8] 28 false 119 (by kernel_rfl) (by kernel_rfl) rfl (by kernel_rfl) Free.Bel.refl ?_ ?_
  rotate_left
  · (intro ev W hb hR hO hD; have hS := hF W hR; obtain ⟨hb1, hb2, hb3⟩ := hb; simp only [Free.AllDeps, Free.AllOuts, Free.At, List.getElem?_cons_succ, List.getElem?_cons_zero, Array.getD_eq_getD_getElem?, List.getElem?_toArray, Option.getD_some, and_true] at hO hD; refine ⟨by simp [hD], ?_⟩; go_simp; rfl)
  simp only [List.nil_append, List.cons_append]
  refine Free.Chain.exG ?_ [(28, 119)] [] 28 false 119 (by kernel_rfl) (by kernel_rfl) rfl (by kernel_rfl) Free.Bel.refl ?_ ?_
  rotate_left
  · (intro ev W hb hR hO hD; have hS := hF W hR; obtain ⟨hb1, hb2, hb3⟩ := hb; simp only [Free.AllDeps, Free.AllOuts, Free.At, List.getElem?_cons_succ, List.getElem?_cons_zero, Array.getD_eq_getD_getElem?, List.getElem?_toArray, Option.getD_some, and_true] at hO hD; refine ⟨by simp [hD], ?_⟩; go_simp; rfl)
  simp only [List.nil_append, List.cons_append]
  refine Free.Chain.exG ?_ [(29, 120), (30, 121), (28, 119)] [] 28 false 119 (by kernel_rfl) (by kernel_rfl) rfl (by kernel_rfl) Free.Bel.refl ?_ ?_
  rotate_left
  · (intro ev W hb hR hO hD; have hS := hF W hR; obtain ⟨hb1, hb2, hb3⟩ := hb; simp only [Free.AllDeps, Free.AllOuts, Free.At, List.getElem?_cons_succ, List.getElem?_cons_zero, Array.getD_eq_getD_getElem?, List.getElem?_toArray, Option.getD_some, and_true] at hO hD; refine ⟨by simp [hD], ?_⟩; go_simp; rfl)
  simp only [List.nil_append, List.cons_append]
  refine Free.Chain.ex ?_ [(28, 119), (31, 122)] [] (by kernel_rfl) (by kernel_rfl) rfl Free.Bel.refl ?_ ?_
  rotate_left
  · (intro ev W hb hR hO hD; have hS := hF W hR; obtain ⟨hb1, hb2, hb3⟩ := hb; simp only [Free.AllDeps, Free.AllOuts, Free.At, List.getElem?_cons_succ, List.getElem?_cons_zero, Array.getD_eq_getD_getElem?, List.getElem?_toArray, Option.getD_some, and_true] at hO hD; go_simp; rfl)
  simp only [List.nil_append, List.cons_append]
  refine Free.Chain.ex ?_ [(32, 123), (28, 119)] [] (by kernel_rfl) (by kernel_rfl) rfl Free.Bel.refl ?_ ?_
  rotate_left
  · (intro ev W hb hR hO hD; have hS := hF W hR; obtain ⟨hb1, hb2, hb3⟩ := hb; simp only [Free.AllDeps, Free.AllOuts, Free.At, List.getElem?_cons_succ, List.getElem?_cons_zero, Array.getD_eq_getD_getElem?, List.getElem?_toArray, Option.getD_some, and_true] at hO hD; go_simp; rfl)
  simp only [List.nil_append, List.cons_append]
  refine Free.Chain.exG ?_ [(33, 124)] [11] 33 false 124 (by kernel_rfl) (by kernel_rfl) rfl (by kernel_rfl) Free.Bel.refl ?_ ?_
  rotate_left
  · (intro ev W hb hR hO hD; have hS := hF W hR; obtain ⟨hb1, hb2, hb3⟩ := hb; simp only [Free.AllDeps, Free.AllOuts, Free.At, List.getElem?_cons_succ, List.getElem?_cons_zero, Array.getD_eq_getD_getElem?, List.getElem?_toArray, Option.getD_some, and_true] at hO hD; refine ⟨by simp [hD], ?_⟩; go_simp; rfl)
  simp only [List.nil_append, List.cons_append]
  refine Free.Chain.exG ?_ [(34, 125), (33, 124)] [] 33 false 124 (by kernel_rfl) (by kernel_rfl) rfl (by kernel_rfl) Free.Bel.refl ?_ ?_
  rotate_left
  · (intro ev W hb hR hO hD; have hS := hF W hR; obtain ⟨hb1, hb2, hb3⟩ := hb; simp only [Free.AllDeps, Free.AllOuts, Free.At, List.getElem?_cons_succ, List.getElem?_cons_zero, Array.getD_eq_getD_getElem?, List.getElem?_toArray, Option.getD_some, and_true] at hO hD; refine ⟨by simp [hD], ?_⟩; go_simp; rfl)
  simp only [List.nil_append, List.cons_append]
  refine Free.Chain.ex ?_ [(33, 124), (35, 126)] [] (by kernel_rfl) (by kernel_rfl) rfl Free.Bel.refl ?_ ?_
  rotate_left
  · (intro ev W hb hR hO hD; have hS := hF W hR; obtain ⟨hb1, hb2, hb3⟩ := hb; simp only [Free.AllDeps, Free.AllOuts, Free.At, List.getElem?_cons_succ, List.getElem?_cons_zero, Array.getD_eq_getD_getElem?, List.getElem?_toArray, Option.getD_some, and_true] at hO hD; go_simp; rfl)
  simp only [List.nil_append, List.cons_append]
  refine Free.Chain.ex ?_ [(36, 127), (33, 124)] [] (by kernel_rfl) (by kernel_rfl) rfl Free.Bel.refl ?_ ?_
  rotate_left
  · (intro ev W hb hR hO hD; have hS := hF W hR; obtain ⟨hb1, hb2, hb3⟩ := hb; simp only [Free.AllDeps, Free.AllOuts, Free.At, List.getElem?_cons_succ, List.getElem?_cons_zero, Array.getD_eq_getD_getElem?, List.getElem?_toArray, Option.getD_some, and_true] at hO hD; go_simp; rfl)
  simp only [List.nil_append, List.cons_append]
  refine Free.Chain.exG ?_ [(37, 128)] [10] 37 false 128 (by kernel_rfl) (by kernel_rfl) rfl (by kernel_rfl) Free.Bel.refl ?_ ?_
  rotate_left
  · (intro ev W hb hR hO hD; have hS := hF W hR; obtain ⟨hb1, hb2, hb3⟩ := hb; simp only [Free.AllDeps, Free.AllOuts, Free.At, List.getElem?_cons_succ, List.getElem?_cons_zero, Array.getD_eq_getD_getElem?, List.getElem?_toArray, Option.getD_some, and_true] at hO hD; refine ⟨by simp [hD], ?_⟩; go_simp; rfl)
  simp only [List.nil_append, List.cons_append]
  refine Free.Chain.prG (fun v W => IL [3] v W) [(37, 128)] [] 37 false 128 (by kernel_rfl) (by kernel_rfl) rfl (by kernel_rfl) (IL.stable _) ?_ ?_
  · (intro ev W hb hR hO hD; have hS := hF W hR; obtain ⟨hb1, hb2, hb3⟩ := hb; simp only [Free.AllDeps, Free.AllOuts, Free.At, List.getElem?_cons_succ, List.getElem?_cons_zero, Array.getD_eq_getD_getElem?, List.getElem?_toArray, Option.getD_some, and_true] at hO hD; refine ⟨by simp [hD], ?_⟩; go_simp; exact ⟨belAlloc _ _, IL.of_sl (SlI.one _ _ _) (by simp [maxLen])⟩)
  simp only [List.nil_append, List.cons_append]
  refine Free.Chain.prG (fun v _ => v = .bool true) [(38, 129), (39, 130), (37, 128), (37, 128)] [] 37 false 128 (by kernel_rfl) (by kernel_rfl) rfl (by kernel_rfl) (fun _ _ _ _ h => h) ?_ ?_
  · (intro ev W hb hR hO hD; have hS := hF W hR; obtain ⟨hb1, hb2, hb3⟩ := hb; simp only [Free.AllDeps, Free.AllOuts, Free.At, List.getElem?_cons_succ, List.getElem?_cons_zero, Array.getD_eq_getD_getElem?, List.getElem?_toArray, Option.getD_some, and_true] at hO hD; refine ⟨by simp [hD], ?_⟩; have hil2 := hD.2.1; have hil1 := (FA W hS).2.2.2.2.2.2.2.2.2.2.2.2.2.1; go_simp; refine yields_enter ?_; (with_reducible refine (sameI_any [3] _ _ _ hil1 hil2).mono ?_); rintro e W2 ⟨rfl, hB2⟩; exact ⟨_, rfl, hB2, rfl⟩)
  simp only [List.nil_append, List.cons_append]
  refine Free.Chain.exG ?_ [(40, 131), (37, 128)] [] 37 false 128 (by kernel_rfl) (by kernel_rfl) rfl (by kernel_rfl) Free.Bel.refl ?_ ?_
  rotate_left
  · (intro ev W hb hR hO hD; have hS := hF W hR; obtain ⟨hb1, hb2, hb3⟩ := hb; simp only [Free.AllDeps, Free.AllOuts, Free.At, List.getElem?_cons_succ, List.getElem?_cons_zero, Array.getD_eq_getD_getElem?, List.getElem?_toArray, Option.getD_some, and_true] at hO hD; refine ⟨by simp [hD], ?_⟩; go_simp; rfl)
  simp only [List.nil_append, List.cons_append]
  refine Free.Chain.ex ?_ [(37, 128), (41, 132)] [] (by kernel_rfl) (by kernel_rfl) rfl Free.Bel.refl ?_ ?_
  rotate_left
  · (intro ev W hb hR hO hD; have hS := hF W hR; obtain ⟨hb1, hb2, hb3⟩ := hb; simp only [Free.AllDeps, Free.AllOuts, Free.At, List.getElem?_cons_succ, List.getElem?_cons_zero, Array.getD_eq_getD_getElem?, List.getElem?_toArray, Option.getD_some, and_true] at hO hD; go_simp; rfl)
  simp only [List.nil_append, List.cons_append]
  refine Free.Chain.ex ?_ [(42, 133), (40, 131)] [] (by kernel_rfl) (by kernel_rfl) rfl Free.Bel.refl ?_ ?_
  rotate_left
  · (intro ev W hb hR hO hD; have hS := hF W hR; obtain ⟨hb1, hb2, hb3⟩ := hb; simp only [Free.AllDeps, Free.AllOuts, Free.At, List.getElem?_cons_succ, List.getElem?_cons_zero, Array.getD_eq_getD_getElem?, List.getElem?_toArray, Option.getD_some, and_true] at hO hD; go_simp; rfl)
  simp only [List.nil_append, List.cons_append]
  refine Free.Chain.exG ?_ [(43, 134)] [13] 43 false 134 (by kernel_rfl) (by kernel_rfl) rfl (by kernel_rfl) Free.Bel.refl ?_ ?_
  rotate_left
  · (intro ev W hb hR hO hD; have hS := hF W hR; obtain ⟨hb1, hb2, hb3⟩ := hb; simp only [Free.AllDeps, Free.AllOuts, Free.At, List.getElem?_cons_succ, List.getElem?_cons_zero, Array.getD_eq_getD_getElem?, List.getElem?_toArray, Option.getD_some, and_true] at hO hD; refine ⟨by simp [hD], ?_⟩; go_simp; rfl)
  simp only [List.nil_append, List.cons_append]
  refine Free.Chain.exG ?_ [(44, 135), (43, 134)] [] 43 false 134 (by kernel_rfl) (by kernel_rfl) rfl (by kernel_rfl) Free.Bel.refl ?_ ?_
  rotate_left
  · (intro ev W hb hR hO hD; have hS := hF W hR; obtain ⟨hb1, hb2, hb3⟩ := hb; simp only [Free.AllDeps, Free.AllOuts, Free.At, List.getElem?_cons_succ, List.getElem?_cons_zero, Array.getD_eq_getD_getElem?, List.getElem?_toArray, Option.getD_some, and_true] at hO hD; refine ⟨by simp [hD], ?_⟩; go_simp; rfl)
  simp only [List.nil_append, List.cons_append]
  refine Free.Chain.ex ?_ [(43, 134), (45, 136)] [] (by kernel_rfl) (by kernel_rfl) rfl Free.Bel.refl ?_ ?_
  rotate_left
  · (intro ev W hb hR hO hD; have hS := hF W hR; obtain ⟨hb1, hb2, hb3⟩ := hb; simp only [Free.AllDeps, Free.AllOuts, Free.At, List.getElem?_cons_succ, List.getElem?_cons_zero, Array.getD_eq_getD_getElem?, List.getElem?_toArray, Option.getD_some, and_true] at hO hD; go_simp; rfl)
  simp only [List.nil_append, List.cons_append]
  refine Free.Chain.ex ?_ [(46, 137), (43, 134)] [] (by kernel_rfl) (by kernel_rfl) rfl Free.Bel.refl ?_ ?_
  rotate_left
  · (intro ev W hb hR hO hD; have hS := hF W hR; obtain ⟨hb1, hb2, hb3⟩ := hb; simp only [Free.AllDeps, Free.AllOuts, Free.At, List.getElem?_cons_succ, List.getElem?_cons_zero, Array.getD_eq_getD_getElem?, List.getElem?_toArray, Option.getD_some, and_true] at hO hD; go_simp; rfl)
  simp only [List.nil_append, List.cons_append]
  refine Free.Chain.exG ?_ [(47, 138)] [12] 47 false 138 (by kernel_rfl) (by kernel_rfl) rfl (by kernel_rfl) Free.Bel.refl ?_ ?_
  rotate_left
  · (intro ev W hb hR hO hD; have hS := hF W hR; obtain ⟨hb1, hb2, hb3⟩ := hb; simp only [Free.AllDeps, Free.AllOuts, Free.At, List.getElem?_cons_succ, List.getElem?_cons_zero, Array.getD_eq_getD_getElem?, List.getElem?_toArray, Option.getD_some, and_true] at hO hD; refine ⟨by simp [hD], ?_⟩; go_simp; rfl)
  simp only [List.nil_append, List.cons_append]
  refine Free.Chain.exG ?_ [(48, 139), (47, 138)] [] 47 false 138 (by kernel_rfl) (by kernel_rfl) rfl (by kernel_rfl) Free.Bel.refl ?_ ?_
  rotate_left
  · (intro ev W hb hR hO hD; have hS := hF W hR; obtain ⟨hb1, hb2, hb3⟩ := hb; simp only [Free.AllDeps, Free.AllOuts, Free.At, List.getElem?_cons_succ, List.getElem?_cons_zero, Array.getD_eq_getD_getElem?, List.getElem?_toArray, Option.getD_some, and_true] at hO hD; refine ⟨by simp [hD], ?_⟩; go_simp; rfl)
  simp only [List.nil_append, List.cons_append]
  refine Free.Chain.ex ?_ [(47, 138), (49, 140)] [] (by kernel_rfl) (by kernel_rfl) rfl Free.Bel.refl ?_ ?_
  rotate_left
  · (intro ev W hb hR hO hD; have hS := hF W hR; obtain ⟨hb1, hb2, hb3⟩ := hb; simp only [Free.AllDeps, Free.AllOuts, Free.At, List.getElem?_cons_succ, List.getElem?_cons_zero, Array.getD_eq_getD_getElem?, List.getElem?_toArray, Option.getD_some, and_true] at hO hD; go_simp; rfl)
  simp only [List.nil_append, List.cons_append]
  refine Free.Chain.ex ?_ [(50, 141), (47, 138)] [] (by kernel_rfl) (by kernel_rfl) rfl Free.Bel.refl ?_ ?_
  rotate_left
  · (intro ev W hb hR hO hD; have hS := hF W hR; obtain ⟨hb1, hb2, hb3⟩ := hb; simp only [Free.AllDeps, Free.AllOuts, Free.At, List.getElem?_cons_succ, List.getElem?_cons_zero, Array.getD_eq_getD_getElem?, List.getElem?_toArray, Option.getD_some, and_true] at hO hD; go_simp; rfl)
  simp only [List.nil_append, List.cons_append]
  refine Free.Chain.exG ?_ [(51, 142)] [15] 51 false 142 (by kernel_rfl) (by kernel_rfl) rfl (by kernel_rfl) Free.Bel.refl ?_ ?_
  rotate_left
  · (intro ev W hb hR hO hD; have hS := hF W hR; obtain ⟨hb1, hb2, hb3⟩ := hb; simp only [Free.AllDeps, Free.AllOuts, Free.At, List.getElem?_cons_succ, List.getElem?_cons_zero, Array.getD_eq_getD_getElem?, List.getElem?_toArray, Option.getD_some, and_true] at hO hD; refine ⟨by simp [hD], ?_⟩; go_simp; rfl)
  simp only [List.nil_append, List.cons_append]
  refine Free.Chain.exG ?_ [(52, 143), (51, 142)] [] 51 false 142 (by kernel_rfl) (by kernel_rfl) rfl (by kernel_rfl) Free.Bel.refl ?_ ?_
  rotate_left
  · (intro ev W hb hR hO hD; have hS := hF W hR; obtain ⟨hb1, hb2, hb3⟩ := hb; simp only [Free.AllDeps, Free.AllOuts, Free.At, List.getElem?_cons_succ, List.getElem?_cons_zero, Array.getD_eq_getD_getElem?, List.getElem?_toArray, Option.getD_some, and_true] at hO hD; refine ⟨by simp [hD], ?_⟩; go_simp; rfl)
  simp only [List.nil_append, List.cons_append]
  refine Free.Chain.ex ?_ [(51, 142), (53, 144)] [] (by kernel_rfl) (by kernel_rfl) rfl Free.Bel.refl ?_ ?_
  rotate_left
  · (intro ev W hb hR hO hD; have hS := hF W hR; obtain ⟨hb1, hb2, hb3⟩ := hb; simp only [Free.AllDeps, Free.AllOuts, Free.At, List.getElem?_cons_succ, List.getElem?_cons_zero, Array.getD_eq_getD_getElem?, List.getElem?_toArray, Option.getD_some, and_true] at hO hD; go_simp; rfl)
  simp only [List.nil_append, List.cons_append]
  refine Free.Chain.ex ?_ [(54, 145), (51, 142)] [] (by kernel_rfl) (by kernel_rfl) rfl Free.Bel.refl ?_ ?_
  rotate_left
  · (intro ev W hb hR hO hD; have hS := hF W hR; obtain ⟨hb1, hb2, hb3⟩ := hb; simp only [Free.AllDeps, Free.AllOuts, Free.At, List.getElem?_cons_succ, List.getElem?_cons_zero, Array.getD_eq_getD_getElem?, List.getElem?_toArray, Option.getD_some, and_true] at hO hD; go_simp; rfl)
  simp only [List.nil_append, List.cons_append]
  refine Free.Chain.exG ?_ [(55, 146)] [14] 55 false 146 (by kernel_rfl) (by kernel_rfl) rfl (by kernel_rfl) Free.Bel.refl ?_ ?_
  rotate_left
  · (intro ev W hb hR hO hD; have hS := hF W hR; obtain ⟨hb1, hb2, hb3⟩ := hb; simp only [Free.AllDeps, Free.AllOuts, Free.At, List.getElem?_cons_succ, List.getElem?_cons_zero, Array.getD_eq_getD_getElem?, List.getElem?_toArray, Option.getD_some, and_true] at hO hD; refine ⟨by simp [hD], ?_⟩; go_simp; rfl)
  simp only [List.nil_append, List.cons_append]
  refine Free.Chain.exG ?_ [(56, 147), (55, 146)] [] 55 false 146 (by kernel_rfl) (by kernel_rfl) rfl (by kernel_rfl) Free.Bel.refl ?_ ?_
  rotate_left
  · (intro ev W hb hR hO hD; have hS := hF W hR; obtain ⟨hb1, hb2, hb3⟩ := hb; simp only [Free.AllDeps, Free.AllOuts, Free.At, List.getElem?_cons_succ, List.getElem?_cons_zero, Array.getD_eq_getD_getElem?, List.getElem?_toArray, Option.getD_some, and_true] at hO hD; refine ⟨by simp [hD], ?_⟩; go_simp; rfl)
  simp only [List.nil_append, List.cons_append]
  refine Free.Chain.ex ?_ [(55, 146), (57, 148)] [] (by kernel_rfl) (by kernel_rfl) rfl Free.Bel.refl ?_ ?_
  rotate_left
  · (intro ev W hb hR hO hD; have hS := hF W hR; obtain ⟨hb1, hb2, hb3⟩ := hb; simp only [Free.AllDeps, Free.AllOuts, Free.At, List.getElem?_cons_succ, List.getElem?_cons_zero, Array.getD_eq_getD_getElem?, List.getElem?_toArray, Option.getD_some, and_true] at hO hD; go_simp; rfl)
  simp only [List.nil_append, List.cons_append]
  intro xs w16 hR hV
  simp only [Free.AllV, Free.At, List.length_cons, List.length_nil, Nat.reduceAdd, List.getElem?_cons_succ, List.getElem?_cons_zero, true_and, and_true] at hV
  simp only [Free.putsFrom, Act.put, Nat.zero_add, Nat.reduceAdd, hV, List.setIfInBounds_toArray, List.set_cons_succ, List.set_cons_zero]
  have hN := hF w16 hR
  clear hR hF
  have HB_w16 := Lib.hid (HB_w15.out.trans ((hN).mono hz_w15))
  have hz_w16 : bb ≤ w16.heap.size := Nat.le_trans hz_w15 (hN).size
  have FN : ∀ W, Free.Bel w16 W → W.cell? ⟨0, 0, none⟩ = some (dblF 125) ∧ W.cell? ⟨0, 1, none⟩ = some (dblF 126) ∧ W.cell? ⟨0, 2, none⟩ = some (dblF 127) ∧ bb ≤ W.heap.size ∧ W.cell? ⟨g10, 0, none⟩ = some (.int .i64 10) ∧ W.cell? ⟨g10, 1, none⟩ = some (.int .i64 0) ∧ W.cell? ⟨g10, 2, none⟩ = some (.int .i64 10) ∧ W.cell? ⟨b3, 0, none⟩ = some (.int .i64 1) ∧ W.cell? ⟨b3, 1, none⟩ = some (.int .i64 2) ∧ W.cell? ⟨b4, 0, none⟩ = some (.int .i64 2) ∧ W.cell? ⟨b4, 1, none⟩ = some (.int .i64 3) ∧ W.cell? ⟨b5, 0, none⟩ = some (.int .i64 1) ∧ W.cell? ⟨b5, 1, none⟩ = some (.int .i64 8) ∧ IL [3] u6 W ∧ W.cell? ⟨b9, 0, none⟩ = some (.int .i64 3) ∧ W.cell? ⟨b9, 1, none⟩ = some (.int .i64 0) ∧ W.cell? ⟨b10, 0, none⟩ = some (.int .i64 11) ∧ W.cell? ⟨b10, 1, none⟩ = some (.int .i64 21) ∧ W.cell? ⟨b11, 0, none⟩ = some (.int .i64 46) ∧ W.cell? ⟨b11, 1, none⟩ = some (.int .i64 15) ∧ PL [(5, 100), (10, 300), (30, 1000)] vt W := fun W hW => by
    obtain ⟨a0, a1, a2, a3, a4, a5, a6, a7, a8, a9, a10, a11, a12, a13, a14, a15, a16, a17, a18, a19, a20⟩ := FA W (Free.Bel.trans _ _ _ (hN) hW)
    exact ⟨a0, a1, a2, a3, a4, a5, a6, a7, a8, a9, a10, a11, a12, a13, a14, a15, a16, a17, a18, a19, a20⟩
  clear FA HB_w15 hz_w15
  have FA := FN
  clear FN
  clear hN hV
  go_wp2_with fail
  have hF : ∀ W, Free.Bel w16.drew W → Free.Bel w16 W := fun W hW => Free.Bel.trans _ _ _ (Bel.drewT (Free.Bel.refl _)) hW
  refine Free.wp_free (R := Free.Bel) (by kernel_rfl) (by kernel_rfl) Free.Bel.refl Free.Bel.trans ?_
  refine Free.Chain.ex ?_ [] [17] (by kernel_rfl) (by kernel_rfl) rfl Free.Bel.refl ?_ ?_
  rotate_left
  · (intro ev W hb hR hO hD; have hS := hF W hR; obtain ⟨hb1, hb2, hb3⟩ := hb; simp only [Free.AllDeps, Free.AllOuts, Free.At, List.getElem?_cons_succ, List.getElem?_cons_zero, Array.getD_eq_getD_getElem?, List.getElem?_toArray, Option.getD_some, and_true] at hO hD; go_simp; rfl)
  simp only [List.nil_append, List.cons_append]
  refine Free.Chain.ex ?_ [(0, 150)] [] (by kernel_rfl) (by kernel_rfl) rfl Free.Bel.refl ?_ ?_
  rotate_left
  · (intro ev W hb hR hO hD; have hS := hF W hR; obtain ⟨hb1, hb2, hb3⟩ := hb; simp only [Free.AllDeps, Free.AllOuts, Free.At, List.getElem?_cons_succ, List.getElem?_cons_zero, Array.getD_eq_getD_getElem?, List.getElem?_toArray, Option.getD_some, and_true] at hO hD; go_simp; rfl)
  simp only [List.nil_append, List.cons_append]
  refine Free.Chain.ex ?_ [(1, 151)] [] (by kernel_rfl) (by kernel_rfl) rfl Free.Bel.refl ?_ ?_
  rotate_left
  · (intro ev W hb hR hO hD; have hS := hF W hR; obtain ⟨hb1, hb2, hb3⟩ := hb; simp only [Free.AllDeps, Free.AllOuts, Free.At, List.getElem?_cons_succ, List.getElem?_cons_zero, Array.getD_eq_getD_getElem?, List.getElem?_toArray, Option.getD_some, and_true] at hO hD; go_simp; rfl)
  simp only [List.nil_append, List.cons_append]
  refine Free.Chain.exG ?_ [(2, 152)] [16] 2 true 152 (by kernel_rfl) (by kernel_rfl) rfl (by kernel_rfl) Free.Bel.refl ?_ ?_
  rotate_left
  · (intro ev W hb hR hO hD; have hS := hF W hR; obtain ⟨hb1, hb2, hb3⟩ := hb; simp only [Free.AllDeps, Free.AllOuts, Free.At, List.getElem?_cons_succ, List.getElem?_cons_zero, Array.getD_eq_getD_getElem?, List.getElem?_toArray, Option.getD_some, and_true] at hO hD; refine ⟨by simp [hD], ?_⟩; go_simp; rfl)
  simp only [List.nil_append, List.cons_append]
  refine Free.Chain.exG ?_ [(2, 152)] [] 2 true 152 (by kernel_rfl) (by kernel_rfl) rfl (by kernel_rfl) Free.Bel.refl ?_ ?_
  rotate_left
  · (intro ev W hb hR hO hD; have hS := hF W hR; obtain ⟨hb1, hb2, hb3⟩ := hb; simp only [Free.AllDeps, Free.AllOuts, Free.At, List.getElem?_cons_succ, List.getElem?_cons_zero, Array.getD_eq_getD_getElem?, List.getElem?_toArray, Option.getD_some, and_true] at hO hD; refine ⟨by simp [hD], ?_⟩; go_simp; rfl)
  simp only [List.nil_append, List.cons_append]
  refine Free.Chain.exG ?_ [(3, 153), (4, 154), (2, 152)] [] 2 true 152 (by kernel_rfl) (by kernel_rfl) rfl (by kernel_rfl) Free.Bel.refl ?_ ?_
  rotate_left
  · (intro ev W hb hR hO hD; have hS := hF W hR; obtain ⟨hb1, hb2, hb3⟩ := hb; simp only [Free.AllDeps, Free.AllOuts, Free.At, List.getElem?_cons_succ, List.getElem?_cons_zero, Array.getD_eq_getD_getElem?, List.getElem?_toArray, Option.getD_some, and_true] at hO hD; refine ⟨by simp [hD], ?_⟩; go_simp; rfl)
  simp only [List.nil_append, List.cons_append]
  refine Free.Chain.ex ?_ [(2, 152), (5, 155)] [] (by kernel_rfl) (by kernel_rfl) rfl Free.Bel.refl ?_ ?_
  rotate_left
  · (intro ev W hb hR hO hD; have hS := hF W hR; obtain ⟨hb1, hb2, hb3⟩ := hb; simp only [Free.AllDeps, Free.AllOuts, Free.At, List.getElem?_cons_succ, List.getElem?_cons_zero, Array.getD_eq_getD_getElem?, List.getElem?_toArray, Option.getD_some, and_true] at hO hD; go_simp; rfl)
  simp only [List.nil_append, List.cons_append]
  refine Free.Chain.ex ?_ [(6, 156), (2, 152)] [] (by kernel_rfl) (by kernel_rfl) rfl Free.Bel.refl ?_ ?_
  rotate_left
  · (intro ev W hb hR hO hD; have hS := hF W hR; obtain ⟨hb1, hb2, hb3⟩ := hb; simp only [Free.AllDeps, Free.AllOuts, Free.At, List.getElem?_cons_succ, List.getElem?_cons_zero, Array.getD_eq_getD_getElem?, List.getElem?_toArray, Option.getD_some, and_true] at hO hD; go_simp; rfl)
  simp only [List.nil_append, List.cons_append]
  refine Free.Chain.exG ?_ [(7, 157)] [20] 7 true 157 (by kernel_rfl) (by kernel_rfl) rfl (by kernel_rfl) Free.Bel.refl ?_ ?_
  rotate_left
  · (intro ev W hb hR hO hD; have hS := hF W hR; obtain ⟨hb1, hb2, hb3⟩ := hb; simp only [Free.AllDeps, Free.AllOuts, Free.At, List.getElem?_cons_succ, List.getElem?_cons_zero, Array.getD_eq_getD_getElem?, List.getElem?_toArray, Option.getD_some, and_true] at hO hD; refine ⟨by simp [hD], ?_⟩; go_simp; rfl)
  simp only [List.nil_append, List.cons_append]
  refine Free.Chain.exG ?_ [(8, 158), (7, 157)] [] 7 true 157 (by kernel_rfl) (by kernel_rfl) rfl (by kernel_rfl) Free.Bel.refl ?_ ?_
  rotate_left
  · (intro ev W hb hR hO hD; have hS := hF W hR; obtain ⟨hb1, hb2, hb3⟩ := hb; simp only [Free.AllDeps, Free.AllOuts, Free.At, List.getElem?_cons_succ, List.getElem?_cons_zero, Array.getD_eq_getD_getElem?, List.getElem?_toArray, Option.getD_some, and_true] at hO hD; refine ⟨by simp [hD], ?_⟩; go_simp; rfl)
  simp only [List.nil_append, List.cons_append]
  refine Free.Chain.ex ?_ [(7, 157), (9, 159)] [] (by kernel_rfl) (by kernel_rfl) rfl Free.Bel.refl ?_ ?_
  rotate_left
  · (intro ev W hb hR hO hD; have hS := hF W hR; obtain ⟨hb1, hb2, hb3⟩ := hb; simp only [Free.AllDeps, Free.AllOuts, Free.At, List.getElem?_cons_succ, List.getElem?_cons_zero, Array.getD_eq_getD_getElem?, List.getElem?_toArray, Option.getD_some, and_true] at hO hD; go_simp; rfl)
  simp only [List.nil_append, List.cons_append]
  refine Free.Chain.ex ?_ [(10, 160), (7, 157)] [] (by kernel_rfl) (by kernel_rfl) rfl Free.Bel.refl ?_ ?_
  rotate_left
  · (intro ev W hb hR hO hD; have hS := hF W hR; obtain ⟨hb1, hb2, hb3⟩ := hb; simp only [Free.AllDeps, Free.AllOuts, Free.At, List.getElem?_cons_succ, List.getElem?_cons_zero, Array.getD_eq_getD_getElem?, List.getElem?_toArray, Option.getD_some, and_true] at hO hD; go_simp; rfl)
  simp only [List.nil_append, List.cons_append]
  refine Free.Chain.exG ?_ [(11, 161)] [18] 11 true 161 (by kernel_rfl) (by kernel_rfl) rfl (by kernel_rfl) Free.Bel.refl ?_ ?_
  rotate_left
  · (intro ev W hb hR hO hD; have hS := hF W hR; obtain ⟨hb1, hb2, hb3⟩ := hb; simp only [Free.AllDeps, Free.AllOuts, Free.At, List.getElem?_cons_succ, List.getElem?_cons_zero, Array.getD_eq_getD_getElem?, List.getElem?_toArray, Option.getD_some, and_true] at hO hD; refine ⟨by simp [hD], ?_⟩; go_simp; rfl)
  simp only [List.nil_append, List.cons_append]
  refine Free.Chain.prG (fun v _ => v = i2 11 21) [(11, 161), (11, 161)] [] 11 true 161 (by kernel_rfl) (by kernel_rfl) rfl (by kernel_rfl) (fun _ _ _ _ h => h) ?_ ?_
  · (intro ev W hb hR hO hD; have hS := hF W hR; obtain ⟨hb1, hb2, hb3⟩ := hb; simp only [Free.AllDeps, Free.AllOuts, Free.At, List.getElem?_cons_succ, List.getElem?_cons_zero, Array.getD_eq_getD_getElem?, List.getElem?_toArray, Option.getD_some, and_true] at hO hD; refine ⟨by simp [hD], ?_⟩; go_simp; refine yields_enter ?_; (with_reducible refine (partL_any 11 21 _).mono ?_); rintro e W2 ⟨rfl, hB2⟩; exact ⟨_, rfl, hB2, rfl⟩)
  simp only [List.nil_append, List.cons_append]
  refine Free.Chain.exG ?_ [(12, 162), (13, 163), (11, 161)] [] 11 true 161 (by kernel_rfl) (by kernel_rfl) rfl (by kernel_rfl) Free.Bel.refl ?_ ?_
  rotate_left
  · (intro ev W hb hR hO hD; have hS := hF W hR; obtain ⟨hb1, hb2, hb3⟩ := hb; simp only [Free.AllDeps, Free.AllOuts, Free.At, List.getElem?_cons_succ, List.getElem?_cons_zero, Array.getD_eq_getD_getElem?, List.getElem?_toArray, Option.getD_some, and_true] at hO hD; refine ⟨by simp [hD], ?_⟩; go_simp; rfl)
  simp only [List.nil_append, List.cons_append]
  refine Free.Chain.ex ?_ [(11, 161), (14, 164)] [] (by kernel_rfl) (by kernel_rfl) rfl Free.Bel.refl ?_ ?_
  rotate_left
  · (intro ev W hb hR hO hD; have hS := hF W hR; obtain ⟨hb1, hb2, hb3⟩ := hb; simp only [Free.AllDeps, Free.AllOuts, Free.At, List.getElem?_cons_succ, List.getElem?_cons_zero, Array.getD_eq_getD_getElem?, List.getElem?_toArray, Option.getD_some, and_true] at hO hD; go_simp; rfl)
  simp only [List.nil_append, List.cons_append]
  refine Free.Chain.ex ?_ [(15, 165), (13, 163)] [] (by kernel_rfl) (by kernel_rfl) rfl Free.Bel.refl ?_ ?_
  rotate_left
  · (intro ev W hb hR hO hD; have hS := hF W hR; obtain ⟨hb1, hb2, hb3⟩ := hb; simp only [Free.AllDeps, Free.AllOuts, Free.At, List.getElem?_cons_succ, List.getElem?_cons_zero, Array.getD_eq_getD_getElem?, List.getElem?_toArray, Option.getD_some, and_true] at hO hD; go_simp; rfl)
  simp only [List.nil_append, List.cons_append]
  refine Free.Chain.exG ?_ [(16, 166)] [19] 16 true 166 (by kernel_rfl) (by kernel_rfl) rfl (by kernel_rfl) Free.Bel.refl ?_ ?_
  rotate_left
  · (intro ev W hb hR hO hD; have hS := hF W hR; obtain ⟨hb1, hb2, hb3⟩ := hb; simp only [Free.AllDeps, Free.AllOuts, Free.At, List.getElem?_cons_succ, List.getElem?_cons_zero, Array.getD_eq_getD_getElem?, List.getElem?_toArray, Option.getD_some, and_true] at hO hD; refine ⟨by simp [hD], ?_⟩; go_simp; rfl)
  simp only [List.nil_append, List.cons_append]
  refine Free.Chain.prG (fun v _ => v = i2 46 15) [(16, 166), (16, 166)] [] 16 true 166 (by kernel_rfl) (by kernel_rfl) rfl (by kernel_rfl) (fun _ _ _ _ h => h) ?_ ?_
  · (intro ev W hb hR hO hD; have hS := hF W hR; obtain ⟨hb1, hb2, hb3⟩ := hb; simp only [Free.AllDeps, Free.AllOuts, Free.At, List.getElem?_cons_succ, List.getElem?_cons_zero, Array.getD_eq_getD_getElem?, List.getElem?_toArray, Option.getD_some, and_true] at hO hD; refine ⟨by simp [hD], ?_⟩; go_simp; refine yields_enter ?_; (with_reducible refine (partL_any 46 15 _).mono ?_); rintro e W2 ⟨rfl, hB2⟩; exact ⟨_, rfl, hB2, rfl⟩)
  simp only [List.nil_append, List.cons_append]
  refine Free.Chain.exG ?_ [(17, 167), (18, 168), (16, 166)] [] 16 true 166 (by kernel_rfl) (by kernel_rfl) rfl (by kernel_rfl) Free.Bel.refl ?_ ?_
  rotate_left
  · (intro ev W hb hR hO hD; have hS := hF W hR; obtain ⟨hb1, hb2, hb3⟩ := hb; simp only [Free.AllDeps, Free.AllOuts, Free.At, List.getElem?_cons_succ, List.getElem?_cons_zero, Array.getD_eq_getD_getElem?, List.getElem?_toArray, Option.getD_some, and_true] at hO hD; refine ⟨by simp [hD], ?_⟩; go_simp; rfl)
  simp only [List.nil_append, List.cons_append]
  refine Free.Chain.ex ?_ [(16, 166), (19, 169)] [] (by kernel_rfl) (by kernel_rfl) rfl Free.Bel.refl ?_ ?_
  rotate_left
  · (intro ev W hb hR hO hD; have hS := hF W hR; obtain ⟨hb1, hb2, hb3⟩ := hb; simp only [Free.AllDeps, Free.AllOuts, Free.At, List.getElem?_cons_succ, List.getElem?_cons_zero, Array.getD_eq_getD_getElem?, List.getElem?_toArray, Option.getD_some, and_true] at hO hD; go_simp; rfl)
  simp only [List.nil_append, List.cons_append]
  refine Free.Chain.ex ?_ [(20, 170), (18, 168)] [] (by kernel_rfl) (by kernel_rfl) rfl Free.Bel.refl ?_ ?_
  rotate_left
  · (intro ev W hb hR hO hD; have hS := hF W hR; obtain ⟨hb1, hb2, hb3⟩ := hb; simp only [Free.AllDeps, Free.AllOuts, Free.At, List.getElem?_cons_succ, List.getElem?_cons_zero, Array.getD_eq_getD_getElem?, List.getElem?_toArray, Option.getD_some, and_true] at hO hD; go_simp; rfl)
  simp only [List.nil_append, List.cons_append]
  refine Free.Chain.exG ?_ [(21, 171)] [22] 21 true 171 (by kernel_rfl) (by kernel_rfl) rfl (by kernel_rfl) Free.Bel.refl ?_ ?_
  rotate_left
  · (intro ev W hb hR hO hD; have hS := hF W hR; obtain ⟨hb1, hb2, hb3⟩ := hb; simp only [Free.AllDeps, Free.AllOuts, Free.At, List.getElem?_cons_succ, List.getElem?_cons_zero, Array.getD_eq_getD_getElem?, List.getElem?_toArray, Option.getD_some, and_true] at hO hD; refine ⟨by simp [hD], ?_⟩; go_simp; rfl)
  simp only [List.nil_append, List.cons_append]
  refine Free.Chain.exG ?_ [(22, 172), (21, 171)] [] 21 true 171 (by kernel_rfl) (by kernel_rfl) rfl (by kernel_rfl) Free.Bel.refl ?_ ?_
  rotate_left
  · (intro ev W hb hR hO hD; have hS := hF W hR; obtain ⟨hb1, hb2, hb3⟩ := hb; simp only [Free.AllDeps, Free.AllOuts, Free.At, List.getElem?_cons_succ, List.getElem?_cons_zero, Array.getD_eq_getD_getElem?, List.getElem?_toArray, Option.getD_some, and_true] at hO hD; refine ⟨by simp [hD], ?_⟩; go_simp; rfl)
  simp only [List.nil_append, List.cons_append]
  refine Free.Chain.ex ?_ [(21, 171), (23, 173)] [] (by kernel_rfl) (by kernel_rfl) rfl Free.Bel.refl ?_ ?_
  rotate_left
  · (intro ev W hb hR hO hD; have hS := hF W hR; obtain ⟨hb1, hb2, hb3⟩ := hb; simp only [Free.AllDeps, Free.AllOuts, Free.At, List.getElem?_cons_succ, List.getElem?_cons_zero, Array.getD_eq_getD_getElem?, List.getElem?_toArray, Option.getD_some, and_true] at hO hD; go_simp; rfl)
  simp only [List.nil_append, List.cons_append]
  refine Free.Chain.ex ?_ [(24, 174), (21, 171)] [] (by kernel_rfl) (by kernel_rfl) rfl Free.Bel.refl ?_ ?_
  rotate_left
  · (intro ev W hb hR hO hD; have hS := hF W hR; obtain ⟨hb1, hb2, hb3⟩ := hb; simp only [Free.AllDeps, Free.AllOuts, Free.At, List.getElem?_cons_succ, List.getElem?_cons_zero, Array.getD_eq_getD_getElem?, List.getElem?_toArray, Option.getD_some, and_true] at hO hD; go_simp; rfl)
  simp only [List.nil_append, List.cons_append]
  refine Free.Chain.exG ?_ [(25, 175)] [21] 25 true 175 (by kernel_rfl) (by kernel_rfl) rfl (by kernel_rfl) Free.Bel.refl ?_ ?_
  rotate_left
  · (intro ev W hb hR hO hD; have hS := hF W hR; obtain ⟨hb1, hb2, hb3⟩ := hb; simp only [Free.AllDeps, Free.AllOuts, Free.At, List.getElem?_cons_succ, List.getElem?_cons_zero, Array.getD_eq_getD_getElem?, List.getElem?_toArray, Option.getD_some, and_true] at hO hD; refine ⟨by simp [hD], ?_⟩; go_simp; rfl)
  simp only [List.nil_append, List.cons_append]
  refine Free.Chain.exG ?_ [(26, 176), (25, 175)] [] 25 true 175 (by kernel_rfl) (by kernel_rfl) rfl (by kernel_rfl) Free.Bel.refl ?_ ?_
  rotate_left
  · (intro ev W hb hR hO hD; have hS := hF W hR; obtain ⟨hb1, hb2, hb3⟩ := hb; simp only [Free.AllDeps, Free.AllOuts, Free.At, List.getElem?_cons_succ, List.getElem?_cons_zero, Array.getD_eq_getD_getElem?, List.getElem?_toArray, Option.getD_some, and_true] at hO hD; refine ⟨by simp [hD], ?_⟩; go_simp; rfl)
  simp only [List.nil_append, List.cons_append]
  refine Free.Chain.ex ?_ [(25, 175), (27, 177)] [] (by kernel_rfl) (by kernel_rfl) rfl Free.Bel.refl ?_ ?_
  rotate_left
  · (intro ev W hb hR hO hD; have hS := hF W hR; obtain ⟨hb1, hb2, hb3⟩ := hb; simp only [Free.AllDeps, Free.AllOuts, Free.At, List.getElem?_cons_succ, List.getElem?_cons_zero, Array.getD_eq_getD_getElem?, List.getElem?_toArray, Option.getD_some, and_true] at hO hD; go_simp; rfl)
  simp only [List.nil_append, List.cons_append]
  refine Free.Chain.ex ?_ [(28, 178), (25, 175)] [] (by kernel_rfl) (by kernel_rfl) rfl Free.Bel.refl ?_ ?_
  rotate_left
  · (intro ev W hb hR hO hD; have hS := hF W hR; obtain ⟨hb1, hb2, hb3⟩ := hb; simp only [Free.AllDeps, Free.AllOuts, Free.At, List.getElem?_cons_succ, List.getElem?_cons_zero, Array.getD_eq_getD_getElem?, List.getElem?_toArray, Option.getD_some, and_true] at hO hD; go_simp; rfl)
  simp only [List.nil_append, List.cons_append]
  refine Free.Chain.exG ?_ [(29, 179)] [24] 29 true 179 (by kernel_rfl) (by kernel_rfl) rfl (by kernel_rfl) Free.Bel.refl ?_ ?_
  rotate_left
  · (intro ev W hb hR hO hD; have hS := hF W hR; obtain ⟨hb1, hb2, hb3⟩ := hb; simp only [Free.AllDeps, Free.AllOuts, Free.At, List.getElem?_cons_succ, List.getElem?_cons_zero, Array.getD_eq_getD_getElem?, List.getElem?_toArray, Option.getD_some, and_true] at hO hD; refine ⟨by simp [hD], ?_⟩; go_simp; rfl)
  simp only [List.nil_append, List.cons_append]
  refine Free.Chain.exG ?_ [(30, 180), (29, 179)] [] 29 true 179 (by kernel_rfl) (by kernel_rfl) rfl (by kernel_rfl) Free.Bel.refl ?_ ?_
  rotate_left
  · (intro ev W hb hR hO hD; have hS := hF W hR; obtain ⟨hb1, hb2, hb3⟩ := hb; simp only [Free.AllDeps, Free.AllOuts, Free.At, List.getElem?_cons_succ, List.getElem?_cons_zero, Array.getD_eq_getD_getElem?, List.getElem?_toArray, Option.getD_some, and_true] at hO hD; refine ⟨by simp [hD], ?_⟩; go_simp; rfl)
  simp only [List.nil_append, List.cons_append]
  refine Free.Chain.ex ?_ [(29, 179), (31, 181)] [] (by kernel_rfl) (by kernel_rfl) rfl Free.Bel.refl ?_ ?_
  rotate_left
  · (intro ev W hb hR hO hD; have hS := hF W hR; obtain ⟨hb1, hb2, hb3⟩ := hb; simp only [Free.AllDeps, Free.AllOuts, Free.At, List.getElem?_cons_succ, List.getElem?_cons_zero, Array.getD_eq_getD_getElem?, List.getElem?_toArray, Option.getD_some, and_true] at hO hD; go_simp; rfl)
  simp only [List.nil_append, List.cons_append]
  refine Free.Chain.ex ?_ [(32, 182), (29, 179)] [] (by kernel_rfl) (by kernel_rfl) rfl Free.Bel.refl ?_ ?_
  rotate_left
  · (intro ev W hb hR hO hD; have hS := hF W hR; obtain ⟨hb1, hb2, hb3⟩ := hb; simp only [Free.AllDeps, Free.AllOuts, Free.At, List.getElem?_cons_succ, List.getElem?_cons_zero, Array.getD_eq_getD_getElem?, List.getElem?_toArray, Option.getD_some, and_true] at hO hD; go_simp; rfl)
  simp only [List.nil_append, List.cons_append]
  refine Free.Chain.exG ?_ [(33, 183)] [23] 33 true 183 (by kernel_rfl) (by kernel_rfl) rfl (by kernel_rfl) Free.Bel.refl ?_ ?_
  rotate_left
  · (intro ev W hb hR hO hD; have hS := hF W hR; obtain ⟨hb1, hb2, hb3⟩ := hb; simp only [Free.AllDeps, Free.AllOuts, Free.At, List.getElem?_cons_succ, List.getElem?_cons_zero, Array.getD_eq_getD_getElem?, List.getElem?_toArray, Option.getD_some, and_true] at hO hD; refine ⟨by simp [hD], ?_⟩; go_simp; rfl)
  simp only [List.nil_append, List.cons_append]
  refine Free.Chain.exG ?_ [(34, 184), (33, 183)] [] 33 true 183 (by kernel_rfl) (by kernel_rfl) rfl (by kernel_rfl) Free.Bel.refl ?_ ?_
  rotate_left
  · (intro ev W hb hR hO hD; have hS := hF W hR; obtain ⟨hb1, hb2, hb3⟩ := hb; simp only [Free.AllDeps, Free.AllOuts, Free.At, List.getElem?_cons_succ, List.getElem?_cons_zero, Array.getD_eq_getD_getElem?, List.getElem?_toArray, Option.getD_some, and_true] at hO hD; refine ⟨by simp [hD], ?_⟩; go_simp; rfl)
  simp only [List.nil_append, List.cons_append]
  refine Free.Chain.ex ?_ [(33, 183), (35, 185)] [] (by kernel_rfl) (by kernel_rfl) rfl Free.Bel.refl ?_ ?_
  rotate_left
  · (intro ev W hb hR hO hD; have hS := hF W hR; obtain ⟨hb1, hb2, hb3⟩ := hb; simp only [Free.AllDeps, Free.AllOuts, Free.At, List.getElem?_cons_succ, List.getElem?_cons_zero, Array.getD_eq_getD_getElem?, List.getElem?_toArray, Option.getD_some, and_true] at hO hD; go_simp; rfl)
  simp only [List.nil_append, List.cons_append]
  refine Free.Chain.ex ?_ [(36, 186), (33, 183), (0, 150), (1, 151), (2, 152), (3, 153), (4, 154), (5, 155), (6, 156), (7, 157), (8, 158), (9, 159), (10, 160), (11, 161), (12, 162), (13, 163), (14, 164), (15, 165), (16, 166), (17, 167), (18, 168), (19, 169), (20, 170), (21, 171), (22, 172), (23, 173), (24, 174), (25, 175), (26, 176), (27, 177), (28, 178), (29, 179), (30, 180), (31, 181), (32, 182), (33, 183), (34, 184), (35, 185), (36, 186)] [] (by kernel_rfl) (by kernel_rfl) rfl Free.Bel.refl ?_ ?_
  rotate_left
  · (intro ev W hb hR hO hD; have hS := hF W hR; obtain ⟨hb1, hb2, hb3⟩ := hb; simp only [Free.AllDeps, Free.AllOuts, Free.At, List.getElem?_cons_succ, List.getElem?_cons_zero, Array.getD_eq_getD_getElem?, List.getElem?_toArray, Option.getD_some, and_true] at hO hD; go_simp; rfl)
  simp only [List.nil_append, List.cons_append]
  intro xs w17 hR hV
  simp only [Free.AllV, Free.At, List.length_cons, List.length_nil, Nat.reduceAdd, List.getElem?_cons_succ, List.getElem?_cons_zero, true_and, and_true] at hV
  simp only [Free.putsFrom, Act.put, Nat.zero_add, Nat.reduceAdd, hV, List.setIfInBounds_toArray, List.set_cons_succ, List.set_cons_zero]
  have hN := hF w17 hR
  clear hR hF
  have HB_w17 := Lib.hid (HB_w16.out.trans ((hN).mono hz_w16))
  have hz_w17 : bb ≤ w17.heap.size := Nat.le_trans hz_w16 (hN).size
  have FN : ∀ W, Free.Bel w17 W → W.cell? ⟨0, 0, none⟩ = some (dblF 125) ∧ W.cell? ⟨0, 1, none⟩ = some (dblF 126) ∧ W.cell? ⟨0, 2, none⟩ = some (dblF 127) ∧ bb ≤ W.heap.size ∧ W.cell? ⟨g10, 0, none⟩ = some (.int .i64 10) ∧ W.cell? ⟨g10, 1, none⟩ = some (.int .i64 0) ∧ W.cell? ⟨g10, 2, none⟩ = some (.int .i64 10) ∧ W.cell? ⟨b3, 0, none⟩ = some (.int .i64 1) ∧ W.cell? ⟨b3, 1, none⟩ = some (.int .i64 2) ∧ W.cell? ⟨b4, 0, none⟩ = some (.int .i64 2) ∧ W.cell? ⟨b4, 1, none⟩ = some (.int .i64 3) ∧ W.cell? ⟨b5, 0, none⟩ = some (.int .i64 1) ∧ W.cell? ⟨b5, 1, none⟩ = some (.int .i64 8) ∧ IL [3] u6 W ∧ W.cell? ⟨b9, 0, none⟩ = some (.int .i64 3) ∧ W.cell? ⟨b9, 1, none⟩ = some (.int .i64 0) ∧ W.cell? ⟨b10, 0, none⟩ = some (.int .i64 11) ∧ W.cell? ⟨b10, 1, none⟩ = some (.int .i64 21) ∧ W.cell? ⟨b11, 0, none⟩ = some (.int .i64 46) ∧ W.cell? ⟨b11, 1, none⟩ = some (.int .i64 15) ∧ PL [(5, 100), (10, 300), (30, 1000)] vt W := fun W hW => by
    obtain ⟨a0, a1, a2, a3, a4, a5, a6, a7, a8, a9, a10, a11, a12, a13, a14, a15, a16, a17, a18, a19, a20⟩ := FA W (Free.Bel.trans _ _ _ (hN) hW)
    exact ⟨a0, a1, a2, a3, a4, a5, a6, a7, a8, a9, a10, a11, a12, a13, a14, a15, a16, a17, a18, a19, a20⟩
  clear FA HB_w16 hz_w16
  have FA := FN
  clear FN
  clear hN hV
  go_wp2_with fail
  go_ret
  have hbb := HBB.out
  subst hbb
  exact ⟨rfl, HB_w17.out⟩
end Go.Proofs.YtigdpohdihopjaaGreatDoor

/- Plain arithmetic behind the laws of the sample layer: sets of things. No program here. -/
namespace Go.Proofs.YtigdpohdihopjaaGreatDoor.Samp
set_option linter.unusedSimpArgs false
set_option linter.unusedVariables false

end Go.Proofs.YtigdpohdihopjaaGreatDoor.Samp

/- What the laws of the sample layer ask of ways and sums. No walk here. -/
namespace Go.Proofs.YtigdpohdihopjaaGreatDoor
set_option linter.unusedSimpArgs false
set_option linter.unusedVariables false
open Go.RowKit Go.Proofs.YtigdpohdihopjaaGreatDoor.ML Go.Proofs.YtigdpohdihopjaaGreatDoor.Samp

end Go.Proofs.YtigdpohdihopjaaGreatDoor

/- The program's functions where nothing is wrong. -/
namespace Go.Proofs.YtigdpohdihopjaaGreatDoor
set_option linter.unusedSimpArgs false
set_option linter.unusedVariables false
open Go.RowKit Go.Proofs.YtigdpohdihopjaaGreatDoor.ML Go.Proofs.YtigdpohdihopjaaGreatDoor.Samp

end Go.Proofs.YtigdpohdihopjaaGreatDoor

/- The table of what a double rule is asked: beside the library's three tables: what the row's list gives; a start that meets it. -/
namespace Go.Proofs.YtigdpohdihopjaaGreatDoor.Tab
open Go Go.ChangeShapes Go.WideShapes Go.ChangeAt Go.RowKit

abbrev laid {H : Type} : List (String × DataW H) := [("math/bits.deBruijn32tab", Rows.laid_math_bits_deBruijn32tab), ("math/bits.deBruijn64tab", Rows.laid_math_bits_deBruijn64tab), ("internal/strconv.uint64pow10", Rows.laid_internal_strconv_uint64pow10), ("oilcake/sample.doubles", Rows.laid_oilcake_sample_doubles)]
theorem own : ownKnob Tryz.prog.godebug = none := by kernel_rfl
theorem laidOut : laidOutB Tryz.prog = true := by kernel_rfl
theorem gTab : Tryz.prog.globalNamed "oilcake/sample.doubles" = some 0 := by kernel_rfl
theorem tTab : (Tryz.prog.globals[0]?).map (·.type) = some 114 := by kernel_rfl
theorem c118 : Tryz.prog.cellsOf 114 = 3 := by kernel_rfl
theorem c117 : Tryz.prog.cellsOf 113 = 1 := by kernel_rfl
theorem c116 : Tryz.prog.cellsOf 112 = 1 := by kernel_rfl

/-- The door's own heap meets the condition. -/
theorem door_met (os : Os) (args : Array Value) : laidMetH Tryz.prog laid ((World.doorLaid Tryz.prog 400 os).forCall (fun _ _ => 0) ⟨#[], args, []⟩).memory :=
  laidMetH_of_parts3 (fuel := 8) (laidMet_of_run' 8 (by kernel_rfl) (by kernel_rfl)) (by kernel_rfl) (by kernel_rfl)

theorem one {W : World} {n : Nat} {c : Value} {y : DataW (List UInt8) × List MemPlace} {b : UInt8} {r : List UInt8} {f0 : FuncId} (hy : y.1 = .agg [.held (b :: r)])
    (hone : ((List.range Tryz.prog.funcs.size).filter fun f => (Tryz.prog.funcs[f]?).any (·.name.toUTF8.data.toList == b :: r)) = [f0])
    (h : DataW.trod (funcToken Tryz.prog) Tryz.prog W 0 (fun _ => true) true n 113 [c] = some y) : c = .func (.func f0) #[] #[] := by
  obtain ⟨y0, m, rfl, _, h0⟩ := trod_struct1 Tryz.underlying113 h
  simp only [c116, List.drop_zero, List.take_one, List.head?_cons, Option.toList_some] at h0
  simp at hy
  obtain ⟨z, q⟩ := y0
  simp only at hy
  subst hy
  exact func_of_trod Tryz.underlying112 hone (by simpa using h0)

theorem of_laid {W : World} (h : laidMetH Tryz.prog laid W) : TabD W := by
  obtain ⟨g, t, cs, fuel, p, hg, ht, hv, hd⟩ := h.funcs (List.mem_cons_of_mem _ (List.mem_cons_of_mem _ (List.mem_cons_of_mem _ (List.mem_singleton.2 rfl))))
  obtain rfl := Option.some.inj (gTab.symm.trans hg)
  obtain rfl := Option.some.inj (tTab.symm.trans ht)
  have hd' : DataW.trod (funcToken Tryz.prog) Tryz.prog W 0 (fun _ => true) true fuel 114 cs.toList = some (.agg [.agg [.held [111, 105, 108, 99, 97, 107, 101, 47, 115, 97, 109, 112, 108, 101, 46, 100, 111, 117, 98, 108, 101, 115, 36, 49]], .agg [.held [111, 105, 108, 99, 97, 107, 101, 47, 115, 97, 109, 112, 108, 101, 46, 100, 111, 117, 98, 108, 101, 115, 36, 50]], .agg [.held [111, 105, 108, 99, 97, 107, 101, 47, 115, 97, 109, 112, 108, 101, 46, 100, 111, 117, 98, 108, 101, 115, 36, 51]]], p) := hd
  have hl : cs.size = 3 := by
    obtain ⟨_, _, _, _, hl, _, _⟩ := DataW.trod_array Tryz.underlying114 hd'
    simpa [c118] using hl
  obtain ⟨c0, c1, c2, rfl⟩ := Joins.array3 hl
  obtain ⟨y0, y1, y2, n, hx, h0, h1, h2⟩ := trod_array3 Tryz.underlying114 c117 hd'
  simp only [Prod.mk.injEq, DataW.agg.injEq, List.cons.injEq, and_true] at hx
  obtain ⟨⟨e0, e1, e2⟩, _⟩ := hx
  have f0 := one (f0 := 125) e0.symm (by kernel_rfl) h0
  have f1 := one (f0 := 126) e1.symm (by kernel_rfl) h1
  have f2 := one (f0 := 127) e2.symm (by kernel_rfl) h2
  subst f0 f1 f2
  exact ⟨World.var?_cell hg hv 0, World.var?_cell hg hv 1, World.var?_cell hg hv 2⟩
end Go.Proofs.YtigdpohdihopjaaGreatDoor.Tab

/- From a walk to a law's statement: what the arguments read as, before and behind the call. No function of the program here. -/
namespace Go.Proofs.YtigdpohdihopjaaGreatDoor.Law
open Go Go.ChangeShapes Go.WideShapes Go.ChangeAt Go.RowKit

section
variable {H : Type} {enc : TypeId × Value → H} {P : Program} {W W' : World}
theorem trodAll_below (hl : laidOutB P = true) (hb : Below W.heap.size W W') : ∀ (ts : List TypeId) (vs : List Value) (ds : List (DataW H)) (ps : List MemPlace),
    (∀ t ∈ ts, P.readableRec t = true ∧ t < P.types.size) → DataW.TrodAll enc P W 0 (fun _ => true) true ts vs ds ps → (∀ x ∈ ps, x.block < W.heap.size) →
    DataW.TrodAll enc P W' 0 (fun b => decide (b < W.heap.size)) true ts vs ds ps
  | [], vs, ds, ps, _, h, _ => by
    obtain ⟨rfl, rfl, rfl⟩ := trodAll_nil h
    exact trodAll_mk0
  | t :: ts, vs, ds, ps, hr, h, hlt => by
    obtain ⟨v0, vs0, d0, ds0, p0, q0, rfl, rfl, rfl, h0, r0⟩ := trodAll_cons h
    have ht := hr t (by simp)
    exact trodAll_cons_mk (Below.trod hl ht.1 ht.2 h0 hb fun x hx => hlt x (by simp [hx]))
      (trodAll_below hl hb ts vs0 ds0 q0 (fun t ht => hr t (by simp [ht])) r0 fun x hx => hlt x (by simp [hx]))

variable {base : Nat} {spare : Nat → Bool} {held : Bool}
theorem args_below {ts : List TypeId} {vs : List Value} {ds : List (DataW H)} {ps : List MemPlace} (hl : laidOutB P = true) (hr : (ts.all fun t => P.readableRec t && decide (t < P.types.size)) = true) (hb : Below W.heap.size W W')
    (h : DataW.TrodAll enc P W 0 (fun _ => true) true ts vs ds ps) (hlt : ∀ x ∈ ps, x.block < W.heap.size) : DataW.TrodAll enc P W' 0 (fun b => decide (b < W.heap.size)) true ts vs ds ps :=
  trodAll_below hl hb ts vs ds ps (fun t ht => by simpa using List.all_eq_true.1 hr t ht) h hlt
end
end Go.Proofs.YtigdpohdihopjaaGreatDoor.Law

/- The bounds of small kinds of numbers. -/
namespace Go.Proofs.YtigdpohdihopjaaGreatDoor
open Go
end Go.Proofs.YtigdpohdihopjaaGreatDoor

