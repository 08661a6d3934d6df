/- Rules: Least. -/
import Derived.Test.YtigdpohdihopjaaGreatDoorB4
import Derived.WalkMore
import Derived.IntWalk
import Derived.Outline
namespace Go.Proofs.YtigdpohdihopjaaGreatDoor
set_option linter.unusedSimpArgs false
set_option linter.unusedVariables false
open Go.RowKit Go.Proofs.YtigdpohdihopjaaGreatDoor.ML Go.Proofs.YtigdpohdihopjaaGreatDoor.Samp

set_option maxRecDepth 100000 in
set_option maxHeartbeats 2000000 in
theorem least_a (N lo hi g b sn sd bn bd : Int) (w : World) (hc : cargoB N lo hi = false) :
    Calls Tryz.prog 27 #[.agg #[.int .i64 N, .int .i64 lo, .int .i64 hi], .int .i64 g, .int .i64 b, .agg #[.int .i64 sn, .int .i64 sd], .agg #[.int .i64 bn, .int .i64 bd]] w fun e w' => e = .returned (.tuple #[.agg #[.int .i64 0, .int .i64 0], .int .i64 10]) ∧ Below w.heap.size w w' := by
  have hB0 : Below w.heap.size w ((((w.alloc (.cells #[.int .i64 N, .int .i64 lo, .int .i64 hi] 28)).alloc (.cells #[.int .i64 sn, .int .i64 sd] 31)).alloc (.cells #[.int .i64 bn, .int .i64 bd] 31)).alloc (.cells #[.int .i64 0, .int .i64 0] 47)) := ((((Below.refl _ w).alloc (Nat.le_refl _) _).alloc (by simp) _).alloc (by simp; omega) _).alloc (by simp; omega) _
  have c0 : ((((w.alloc (.cells #[.int .i64 N, .int .i64 lo, .int .i64 hi] 28)).alloc (.cells #[.int .i64 sn, .int .i64 sd] 31)).alloc (.cells #[.int .i64 bn, .int .i64 bd] 31)).alloc (.cells #[.int .i64 0, .int .i64 0] 47)).cell? ⟨w.heap.size, 0, none⟩ = some (.int .i64 N) := by simp [go_sem]
  have c1 : ((((w.alloc (.cells #[.int .i64 N, .int .i64 lo, .int .i64 hi] 28)).alloc (.cells #[.int .i64 sn, .int .i64 sd] 31)).alloc (.cells #[.int .i64 bn, .int .i64 bd] 31)).alloc (.cells #[.int .i64 0, .int .i64 0] 47)).cell? ⟨w.heap.size, 1, none⟩ = some (.int .i64 lo) := by simp [go_sem]
  have c2 : ((((w.alloc (.cells #[.int .i64 N, .int .i64 lo, .int .i64 hi] 28)).alloc (.cells #[.int .i64 sn, .int .i64 sd] 31)).alloc (.cells #[.int .i64 bn, .int .i64 bd] 31)).alloc (.cells #[.int .i64 0, .int .i64 0] 47)).cell? ⟨w.heap.size, 2, none⟩ = some (.int .i64 hi) := by simp [go_sem]
  have c3 : ((((w.alloc (.cells #[.int .i64 N, .int .i64 lo, .int .i64 hi] 28)).alloc (.cells #[.int .i64 sn, .int .i64 sd] 31)).alloc (.cells #[.int .i64 bn, .int .i64 bd] 31)).alloc (.cells #[.int .i64 0, .int .i64 0] 47)).cell? ⟨w.heap.size + 1, 0, none⟩ = some (.int .i64 sn) := by simp [go_sem]
  have c4 : ((((w.alloc (.cells #[.int .i64 N, .int .i64 lo, .int .i64 hi] 28)).alloc (.cells #[.int .i64 sn, .int .i64 sd] 31)).alloc (.cells #[.int .i64 bn, .int .i64 bd] 31)).alloc (.cells #[.int .i64 0, .int .i64 0] 47)).cell? ⟨w.heap.size + 1, 1, none⟩ = some (.int .i64 sd) := by simp [go_sem]
  have c5 : ((((w.alloc (.cells #[.int .i64 N, .int .i64 lo, .int .i64 hi] 28)).alloc (.cells #[.int .i64 sn, .int .i64 sd] 31)).alloc (.cells #[.int .i64 bn, .int .i64 bd] 31)).alloc (.cells #[.int .i64 0, .int .i64 0] 47)).cell? ⟨w.heap.size + 1 + 1, 0, none⟩ = some (.int .i64 bn) := by simp [go_sem]
  have c6 : ((((w.alloc (.cells #[.int .i64 N, .int .i64 lo, .int .i64 hi] 28)).alloc (.cells #[.int .i64 sn, .int .i64 sd] 31)).alloc (.cells #[.int .i64 bn, .int .i64 bd] 31)).alloc (.cells #[.int .i64 0, .int .i64 0] 47)).cell? ⟨w.heap.size + 1 + 1, 1, none⟩ = some (.int .i64 bd) := by simp [go_sem]
  have s1 := Lib.hid (fun (W : World) (h : Below ((((w.alloc (.cells #[.int .i64 N, .int .i64 lo, .int .i64 hi] 28)).alloc (.cells #[.int .i64 sn, .int .i64 sd] 31)).alloc (.cells #[.int .i64 bn, .int .i64 bd] 31)).alloc (.cells #[.int .i64 0, .int .i64 0] 47)).heap.size ((((w.alloc (.cells #[.int .i64 N, .int .i64 lo, .int .i64 hi] 28)).alloc (.cells #[.int .i64 sn, .int .i64 sd] 31)).alloc (.cells #[.int .i64 bn, .int .i64 bd] 31)).alloc (.cells #[.int .i64 0, .int .i64 0] 47)) W) => And.intro (keepsB h c0) ( And.intro (keepsB h c1) ( And.intro (keepsB h c2) ( And.intro (keepsB h c3) ( And.intro (keepsB h c4) ( And.intro (keepsB h c5) (keepsB h c6)))))))
  have HB0 := Lib.hid hB0
  clear hB0 c0 c1 c2 c3 c4 c5 c6
  have hT : Two (w.heap.size + 1 + 1 + 1) (.int .i64 0) (.int .i64 0) ((((w.alloc (.cells #[.int .i64 N, .int .i64 lo, .int .i64 hi] 28)).alloc (.cells #[.int .i64 sn, .int .i64 sd] 31)).alloc (.cells #[.int .i64 bn, .int .i64 bd] 31)).alloc (.cells #[.int .i64 0, .int .i64 0] 47)) := ⟨by simp [go_sem], by simp [go_sem], by simp [go_sem], by simp [go_sem]⟩
  have HT := Lib.hid (fun (W : World) (h : Below ((((w.alloc (.cells #[.int .i64 N, .int .i64 lo, .int .i64 hi] 28)).alloc (.cells #[.int .i64 sn, .int .i64 sd] 31)).alloc (.cells #[.int .i64 bn, .int .i64 bd] 31)).alloc (.cells #[.int .i64 0, .int .i64 0] 47)).heap.size ((((w.alloc (.cells #[.int .i64 N, .int .i64 lo, .int .i64 hi] 28)).alloc (.cells #[.int .i64 sn, .int .i64 sd] 31)).alloc (.cells #[.int .i64 bn, .int .i64 bd] 31)).alloc (.cells #[.int .i64 0, .int .i64 0] 47)) W) => hT.keeps h)
  clear hT
  go_enter Tryz.func27, Tryz.ntmps27
  go_wp2_with fail
  generalize ((((w.alloc (.cells #[.int .i64 N, .int .i64 lo, .int .i64 hi] 28)).alloc (.cells #[.int .i64 sn, .int .i64 sd] 31)).alloc (.cells #[.int .i64 bn, .int .i64 bd] 31)).alloc (.cells #[.int .i64 0, .int .i64 0] 47)) = W0 at *
  generalize hbb : w.heap.size = bb at *
  have HBB := Lib.hid hbb
  clear hbb
  have hs0 : bb ≤ W0.heap.size := by have h1 := HB0.out.size; have h2 := HBB.out; omega
  refine (begun_bad N lo hi _ hc).mono ?_
  rintro e w1 ⟨rfl, hB1⟩
  have HB1 := Lib.hid hB1
  clear hB1
  obtain ⟨dw1_0, dw1_1, dw1_2, dw1_3, dw1_4, dw1_5, dw1_6⟩ := s1.out w1 HB1.out
  have Tw1 := HT.out w1 HB1.out
  have tw1_c0 := Tw1.c0
  have tw1_c1 := Tw1.c1
  have tw1_f0 := Tw1.f0
  have tw1_f1 := Tw1.f1
  obtain ⟨z1, z2⟩ := two_stores (w := w1) (b := bb + 1 + 1 + 1) (.int .i64 (0)) (.int .i64 (0)) tw1_c0 tw1_c1
  have hB9 := Lib.hid (((HB0.out.trans (HB1.out.mono hs0)).setCell (p := ⟨bb + 1 + 1 + 1, 0, none⟩) (by show bb ≤ bb + 1 + 1 + 1; omega) (.int .i64 (0))).setCell (p := ⟨bb + 1 + 1 + 1, 1, none⟩) (by show bb ≤ bb + 1 + 1 + 1; omega) (.int .i64 (0)))
  go_wp2_with fail
  have hbb := HBB.out
  subst hbb
  refine bodyPost_ret (v := .tuple #[.agg #[.int .i64 (0), .int .i64 (0)], .int .i64 (10)]) ?_ rfl ⟨rfl, hB9.out⟩
  simp [results, Tryz.results27, go_sem, z1, z2]

set_option maxRecDepth 100000 in
set_option maxHeartbeats 2000000 in
theorem least_b (N lo hi g b sn sd bn bd : Int) (w : World) (hc : cargoB N lo hi = true) (z : Int) (hy : Hid (riskedE lo hi g b sn sd bn bd = z)) (hz0 : (z != 0) = true) :
    Calls Tryz.prog 27 #[.agg #[.int .i64 N, .int .i64 lo, .int .i64 hi], .int .i64 g, .int .i64 b, .agg #[.int .i64 sn, .int .i64 sd], .agg #[.int .i64 bn, .int .i64 bd]] w fun e w' => e = .returned (.tuple #[.agg #[.int .i64 0, .int .i64 0], .int .i64 z]) ∧ Below w.heap.size w w' := by
  have hB0 : Below w.heap.size w ((((w.alloc (.cells #[.int .i64 N, .int .i64 lo, .int .i64 hi] 28)).alloc (.cells #[.int .i64 sn, .int .i64 sd] 31)).alloc (.cells #[.int .i64 bn, .int .i64 bd] 31)).alloc (.cells #[.int .i64 0, .int .i64 0] 47)) := ((((Below.refl _ w).alloc (Nat.le_refl _) _).alloc (by simp) _).alloc (by simp; omega) _).alloc (by simp; omega) _
  have c0 : ((((w.alloc (.cells #[.int .i64 N, .int .i64 lo, .int .i64 hi] 28)).alloc (.cells #[.int .i64 sn, .int .i64 sd] 31)).alloc (.cells #[.int .i64 bn, .int .i64 bd] 31)).alloc (.cells #[.int .i64 0, .int .i64 0] 47)).cell? ⟨w.heap.size, 0, none⟩ = some (.int .i64 N) := by simp [go_sem]
  have c1 : ((((w.alloc (.cells #[.int .i64 N, .int .i64 lo, .int .i64 hi] 28)).alloc (.cells #[.int .i64 sn, .int .i64 sd] 31)).alloc (.cells #[.int .i64 bn, .int .i64 bd] 31)).alloc (.cells #[.int .i64 0, .int .i64 0] 47)).cell? ⟨w.heap.size, 1, none⟩ = some (.int .i64 lo) := by simp [go_sem]
  have c2 : ((((w.alloc (.cells #[.int .i64 N, .int .i64 lo, .int .i64 hi] 28)).alloc (.cells #[.int .i64 sn, .int .i64 sd] 31)).alloc (.cells #[.int .i64 bn, .int .i64 bd] 31)).alloc (.cells #[.int .i64 0, .int .i64 0] 47)).cell? ⟨w.heap.size, 2, none⟩ = some (.int .i64 hi) := by simp [go_sem]
  have c3 : ((((w.alloc (.cells #[.int .i64 N, .int .i64 lo, .int .i64 hi] 28)).alloc (.cells #[.int .i64 sn, .int .i64 sd] 31)).alloc (.cells #[.int .i64 bn, .int .i64 bd] 31)).alloc (.cells #[.int .i64 0, .int .i64 0] 47)).cell? ⟨w.heap.size + 1, 0, none⟩ = some (.int .i64 sn) := by simp [go_sem]
  have c4 : ((((w.alloc (.cells #[.int .i64 N, .int .i64 lo, .int .i64 hi] 28)).alloc (.cells #[.int .i64 sn, .int .i64 sd] 31)).alloc (.cells #[.int .i64 bn, .int .i64 bd] 31)).alloc (.cells #[.int .i64 0, .int .i64 0] 47)).cell? ⟨w.heap.size + 1, 1, none⟩ = some (.int .i64 sd) := by simp [go_sem]
  have c5 : ((((w.alloc (.cells #[.int .i64 N, .int .i64 lo, .int .i64 hi] 28)).alloc (.cells #[.int .i64 sn, .int .i64 sd] 31)).alloc (.cells #[.int .i64 bn, .int .i64 bd] 31)).alloc (.cells #[.int .i64 0, .int .i64 0] 47)).cell? ⟨w.heap.size + 1 + 1, 0, none⟩ = some (.int .i64 bn) := by simp [go_sem]
  have c6 : ((((w.alloc (.cells #[.int .i64 N, .int .i64 lo, .int .i64 hi] 28)).alloc (.cells #[.int .i64 sn, .int .i64 sd] 31)).alloc (.cells #[.int .i64 bn, .int .i64 bd] 31)).alloc (.cells #[.int .i64 0, .int .i64 0] 47)).cell? ⟨w.heap.size + 1 + 1, 1, none⟩ = some (.int .i64 bd) := by simp [go_sem]
  have s1 := Lib.hid (fun (W : World) (h : Below ((((w.alloc (.cells #[.int .i64 N, .int .i64 lo, .int .i64 hi] 28)).alloc (.cells #[.int .i64 sn, .int .i64 sd] 31)).alloc (.cells #[.int .i64 bn, .int .i64 bd] 31)).alloc (.cells #[.int .i64 0, .int .i64 0] 47)).heap.size ((((w.alloc (.cells #[.int .i64 N, .int .i64 lo, .int .i64 hi] 28)).alloc (.cells #[.int .i64 sn, .int .i64 sd] 31)).alloc (.cells #[.int .i64 bn, .int .i64 bd] 31)).alloc (.cells #[.int .i64 0, .int .i64 0] 47)) W) => And.intro (keepsB h c0) ( And.intro (keepsB h c1) ( And.intro (keepsB h c2) ( And.intro (keepsB h c3) ( And.intro (keepsB h c4) ( And.intro (keepsB h c5) (keepsB h c6)))))))
  have HB0 := Lib.hid hB0
  clear hB0 c0 c1 c2 c3 c4 c5 c6
  have hT : Two (w.heap.size + 1 + 1 + 1) (.int .i64 0) (.int .i64 0) ((((w.alloc (.cells #[.int .i64 N, .int .i64 lo, .int .i64 hi] 28)).alloc (.cells #[.int .i64 sn, .int .i64 sd] 31)).alloc (.cells #[.int .i64 bn, .int .i64 bd] 31)).alloc (.cells #[.int .i64 0, .int .i64 0] 47)) := ⟨by simp [go_sem], by simp [go_sem], by simp [go_sem], by simp [go_sem]⟩
  have HT := Lib.hid (fun (W : World) (h : Below ((((w.alloc (.cells #[.int .i64 N, .int .i64 lo, .int .i64 hi] 28)).alloc (.cells #[.int .i64 sn, .int .i64 sd] 31)).alloc (.cells #[.int .i64 bn, .int .i64 bd] 31)).alloc (.cells #[.int .i64 0, .int .i64 0] 47)).heap.size ((((w.alloc (.cells #[.int .i64 N, .int .i64 lo, .int .i64 hi] 28)).alloc (.cells #[.int .i64 sn, .int .i64 sd] 31)).alloc (.cells #[.int .i64 bn, .int .i64 bd] 31)).alloc (.cells #[.int .i64 0, .int .i64 0] 47)) W) => hT.keeps h)
  clear hT
  go_enter Tryz.func27, Tryz.ntmps27
  go_wp2_with fail
  generalize ((((w.alloc (.cells #[.int .i64 N, .int .i64 lo, .int .i64 hi] 28)).alloc (.cells #[.int .i64 sn, .int .i64 sd] 31)).alloc (.cells #[.int .i64 bn, .int .i64 bd] 31)).alloc (.cells #[.int .i64 0, .int .i64 0] 47)) = W0 at *
  generalize hbb : w.heap.size = bb at *
  have HBB := Lib.hid hbb
  clear hbb
  have hs0 : bb ≤ W0.heap.size := by have h1 := HB0.out.size; have h2 := HBB.out; omega
  refine (begun_ok N lo hi _ hc).mono ?_
  rintro e w1 ⟨hb, mb, kb, cb, rfl, hH, hmb, hhb, hB1⟩
  have HB1 := Lib.hid hB1
  have HH := Lib.hid (And.intro hH (And.intro hmb hhb))
  have hlo := hH.lo
  have hhi := hH.hi
  have hbags := hH.bags
  clear hB1 hH hmb hhb
  obtain ⟨dw1_0, dw1_1, dw1_2, dw1_3, dw1_4, dw1_5, dw1_6⟩ := s1.out w1 HB1.out
  have Tw1 := HT.out w1 HB1.out
  have hs1 := HB1.out.size
  go_wp2_with fail
  refine (risked_any hb lo hi g b sn sd bn bd _ _ _ z _ hlo hhi rfl rfl rfl hy.out).mono ?_
  rintro e w2 ⟨rfl, hB2⟩
  have HB2 := Lib.hid (HB1.out.trans (hB2.mono hs1))
  have HH2 := Lib.hid (HH.out.1.kept (.of_below hB2))
  have hs2 := hB2.size
  clear hB2
  obtain ⟨dw2_0, dw2_1, dw2_2, dw2_3, dw2_4, dw2_5, dw2_6⟩ := s1.out w2 HB2.out
  have Tw2 := HT.out w2 HB2.out
  have tw2_c0 := Tw2.c0
  have tw2_c1 := Tw2.c1
  have tw2_f0 := Tw2.f0
  have tw2_f1 := Tw2.f1
  obtain ⟨z1, z2⟩ := two_stores (w := w2) (b := bb + 1 + 1 + 1) (.int .i64 (0)) (.int .i64 (0)) tw2_c0 tw2_c1
  have hB9 := Lib.hid (((HB0.out.trans (HB2.out.mono hs0)).setCell (p := ⟨bb + 1 + 1 + 1, 0, none⟩) (by show bb ≤ bb + 1 + 1 + 1; omega) (.int .i64 (0))).setCell (p := ⟨bb + 1 + 1 + 1, 1, none⟩) (by show bb ≤ bb + 1 + 1 + 1; omega) (.int .i64 (0)))
  go_wp2_with fail
  have hbb := HBB.out
  subst hbb
  refine bodyPost_ret (v := .tuple #[.agg #[.int .i64 (0), .int .i64 (0)], .int .i64 (z)]) ?_ rfl ⟨rfl, hB9.out⟩
  simp [results, Tryz.results27, go_sem, z1, z2]

set_option maxRecDepth 100000 in
set_option maxHeartbeats 2000000 in
theorem least_c (N lo hi g b sn sd bn bd : Int) (w : World) (hc : cargoB N lo hi = true) (hy : Hid (riskedE lo hi g b sn sd bn bd = 0)) (P : Int → Int → Bool) (hP : Hid (∀ o a, 0 ≤ a → a ≤ o → o ≤ N → fineB N g b o a sn sd bn bd = P o a)) :
    Calls Tryz.prog 27 #[.agg #[.int .i64 N, .int .i64 lo, .int .i64 hi], .int .i64 g, .int .i64 b, .agg #[.int .i64 sn, .int .i64 sd], .agg #[.int .i64 bn, .int .i64 bd]] w fun e w' => (∃ o a q, e = .returned (.tuple #[.agg #[.int .i64 o, .int .i64 a], .int .i64 q]) ∧ LeastIs P N o a q) ∧ Below w.heap.size w w' := by
  have hN := (cargoB_iff N lo hi).1 hc
  have hM := riskedE_zero hy.out
  have hfine := Lib.hid (fun (hb mb kb cb : Nat) (o a : Int) (W : World) (hH : Hold hb N lo hi mb kb cb W) (h1 : 0 ≤ a) (h2 : a ≤ o) (h3 : o ≤ N) => fine_any hb N lo hi g b o a sn sd bn bd mb kb cb (P o a) W hH (by omega) (by omega) (by omega) (by omega) hM.2.2.2.1 hM.2.2.2.2 (hP.out o a h1 h2 h3))
  have hN36 : 1 ≤ N ∧ N ≤ 36 := ⟨hN.1, hN.2.1⟩
  clear hN hM
  have hB0 : Below w.heap.size w ((((w.alloc (.cells #[.int .i64 N, .int .i64 lo, .int .i64 hi] 28)).alloc (.cells #[.int .i64 sn, .int .i64 sd] 31)).alloc (.cells #[.int .i64 bn, .int .i64 bd] 31)).alloc (.cells #[.int .i64 0, .int .i64 0] 47)) := ((((Below.refl _ w).alloc (Nat.le_refl _) _).alloc (by simp) _).alloc (by simp; omega) _).alloc (by simp; omega) _
  have c0 : ((((w.alloc (.cells #[.int .i64 N, .int .i64 lo, .int .i64 hi] 28)).alloc (.cells #[.int .i64 sn, .int .i64 sd] 31)).alloc (.cells #[.int .i64 bn, .int .i64 bd] 31)).alloc (.cells #[.int .i64 0, .int .i64 0] 47)).cell? ⟨w.heap.size, 0, none⟩ = some (.int .i64 N) := by simp [go_sem]
  have c1 : ((((w.alloc (.cells #[.int .i64 N, .int .i64 lo, .int .i64 hi] 28)).alloc (.cells #[.int .i64 sn, .int .i64 sd] 31)).alloc (.cells #[.int .i64 bn, .int .i64 bd] 31)).alloc (.cells #[.int .i64 0, .int .i64 0] 47)).cell? ⟨w.heap.size, 1, none⟩ = some (.int .i64 lo) := by simp [go_sem]
  have c2 : ((((w.alloc (.cells #[.int .i64 N, .int .i64 lo, .int .i64 hi] 28)).alloc (.cells #[.int .i64 sn, .int .i64 sd] 31)).alloc (.cells #[.int .i64 bn, .int .i64 bd] 31)).alloc (.cells #[.int .i64 0, .int .i64 0] 47)).cell? ⟨w.heap.size, 2, none⟩ = some (.int .i64 hi) := by simp [go_sem]
  have c3 : ((((w.alloc (.cells #[.int .i64 N, .int .i64 lo, .int .i64 hi] 28)).alloc (.cells #[.int .i64 sn, .int .i64 sd] 31)).alloc (.cells #[.int .i64 bn, .int .i64 bd] 31)).alloc (.cells #[.int .i64 0, .int .i64 0] 47)).cell? ⟨w.heap.size + 1, 0, none⟩ = some (.int .i64 sn) := by simp [go_sem]
  have c4 : ((((w.alloc (.cells #[.int .i64 N, .int .i64 lo, .int .i64 hi] 28)).alloc (.cells #[.int .i64 sn, .int .i64 sd] 31)).alloc (.cells #[.int .i64 bn, .int .i64 bd] 31)).alloc (.cells #[.int .i64 0, .int .i64 0] 47)).cell? ⟨w.heap.size + 1, 1, none⟩ = some (.int .i64 sd) := by simp [go_sem]
  have c5 : ((((w.alloc (.cells #[.int .i64 N, .int .i64 lo, .int .i64 hi] 28)).alloc (.cells #[.int .i64 sn, .int .i64 sd] 31)).alloc (.cells #[.int .i64 bn, .int .i64 bd] 31)).alloc (.cells #[.int .i64 0, .int .i64 0] 47)).cell? ⟨w.heap.size + 1 + 1, 0, none⟩ = some (.int .i64 bn) := by simp [go_sem]
  have c6 : ((((w.alloc (.cells #[.int .i64 N, .int .i64 lo, .int .i64 hi] 28)).alloc (.cells #[.int .i64 sn, .int .i64 sd] 31)).alloc (.cells #[.int .i64 bn, .int .i64 bd] 31)).alloc (.cells #[.int .i64 0, .int .i64 0] 47)).cell? ⟨w.heap.size + 1 + 1, 1, none⟩ = some (.int .i64 bd) := by simp [go_sem]
  have s1 := Lib.hid (fun (W : World) (h : Below ((((w.alloc (.cells #[.int .i64 N, .int .i64 lo, .int .i64 hi] 28)).alloc (.cells #[.int .i64 sn, .int .i64 sd] 31)).alloc (.cells #[.int .i64 bn, .int .i64 bd] 31)).alloc (.cells #[.int .i64 0, .int .i64 0] 47)).heap.size ((((w.alloc (.cells #[.int .i64 N, .int .i64 lo, .int .i64 hi] 28)).alloc (.cells #[.int .i64 sn, .int .i64 sd] 31)).alloc (.cells #[.int .i64 bn, .int .i64 bd] 31)).alloc (.cells #[.int .i64 0, .int .i64 0] 47)) W) => And.intro (keepsB h c0) ( And.intro (keepsB h c1) ( And.intro (keepsB h c2) ( And.intro (keepsB h c3) ( And.intro (keepsB h c4) ( And.intro (keepsB h c5) (keepsB h c6)))))))
  have HB0 := Lib.hid hB0
  clear hB0 c0 c1 c2 c3 c4 c5 c6
  have hT : Two (w.heap.size + 1 + 1 + 1) (.int .i64 0) (.int .i64 0) ((((w.alloc (.cells #[.int .i64 N, .int .i64 lo, .int .i64 hi] 28)).alloc (.cells #[.int .i64 sn, .int .i64 sd] 31)).alloc (.cells #[.int .i64 bn, .int .i64 bd] 31)).alloc (.cells #[.int .i64 0, .int .i64 0] 47)) := ⟨by simp [go_sem], by simp [go_sem], by simp [go_sem], by simp [go_sem]⟩
  have HT := Lib.hid (fun (W : World) (h : Below ((((w.alloc (.cells #[.int .i64 N, .int .i64 lo, .int .i64 hi] 28)).alloc (.cells #[.int .i64 sn, .int .i64 sd] 31)).alloc (.cells #[.int .i64 bn, .int .i64 bd] 31)).alloc (.cells #[.int .i64 0, .int .i64 0] 47)).heap.size ((((w.alloc (.cells #[.int .i64 N, .int .i64 lo, .int .i64 hi] 28)).alloc (.cells #[.int .i64 sn, .int .i64 sd] 31)).alloc (.cells #[.int .i64 bn, .int .i64 bd] 31)).alloc (.cells #[.int .i64 0, .int .i64 0] 47)) W) => hT.keeps h)
  clear hT
  go_enter Tryz.func27, Tryz.ntmps27
  go_wp2_with fail
  generalize ((((w.alloc (.cells #[.int .i64 N, .int .i64 lo, .int .i64 hi] 28)).alloc (.cells #[.int .i64 sn, .int .i64 sd] 31)).alloc (.cells #[.int .i64 bn, .int .i64 bd] 31)).alloc (.cells #[.int .i64 0, .int .i64 0] 47)) = W0 at *
  generalize hbb : w.heap.size = bb at *
  have HBB := Lib.hid hbb
  clear hbb
  have hs0 : bb ≤ W0.heap.size := by have h1 := HB0.out.size; have h2 := HBB.out; omega
  refine (begun_ok N lo hi _ hc).mono ?_
  rintro e w1 ⟨hb, mb, kb, cb, rfl, hH, hmb, hhb, hB1⟩
  have HB1 := Lib.hid hB1
  have HH := Lib.hid (And.intro hH (And.intro hmb hhb))
  have hlo := hH.lo
  have hhi := hH.hi
  have hbags := hH.bags
  clear hB1 hH hmb hhb
  obtain ⟨dw1_0, dw1_1, dw1_2, dw1_3, dw1_4, dw1_5, dw1_6⟩ := s1.out w1 HB1.out
  have Tw1 := HT.out w1 HB1.out
  have hs1 := HB1.out.size
  go_wp2_with fail
  refine (risked_any hb lo hi g b sn sd bn bd _ _ _ 0 _ hlo hhi rfl rfl rfl hy.out).mono ?_
  rintro e w2 ⟨rfl, hB2⟩
  have HB2 := Lib.hid (HB1.out.trans (hB2.mono hs1))
  have HH2 := Lib.hid (HH.out.1.kept (.of_below hB2))
  have hs2 := hB2.size
  clear hB2
  obtain ⟨dw2_0, dw2_1, dw2_2, dw2_3, dw2_4, dw2_5, dw2_6⟩ := s1.out w2 HB2.out
  have Tw2 := HT.out w2 HB2.out
  have hbags2 := HH2.out.bags
  have KF := Lib.hid (fun (W : World) (hK : Kept mb w2 W) => And.intro (HH2.out.kept hK) (And.intro (Tw2.kept hK (HH2.out.ctr.memo.ne Tw2.c0)) (And.intro (hK.cell dw2_0 (HH2.out.ctr.memo.ne dw2_0)) (And.intro (hK.cell dw2_1 (HH2.out.ctr.memo.ne dw2_1)) (And.intro (hK.cell dw2_2 (HH2.out.ctr.memo.ne dw2_2)) (And.intro (hK.cell dw2_3 (HH2.out.ctr.memo.ne dw2_3)) (And.intro (hK.cell dw2_4 (HH2.out.ctr.memo.ne dw2_4)) (And.intro (hK.cell dw2_5 (HH2.out.ctr.memo.ne dw2_5)) (hK.cell dw2_6 (HH2.out.ctr.memo.ne dw2_6))))))))))
  have HMB := Lib.hid (show bb ≤ mb ∧ bb ≤ w2.heap.size from ⟨Nat.le_trans hs0 HH.out.2.1, by omega⟩)
  go_wp2_with fail
  go_loopw [43] (fun i wr => ∃ n : Int, 0 ≤ n ∧ n ≤ N + 1 ∧ i = .int .i64 n ∧ Hid (∀ o' a', 0 ≤ a' → a' ≤ o' → o' < n → P o' a' = false) ∧ Hid (Kept mb w2 wr)) (fun i _ => (N + 1 - intOf i).toNat)
  case atStart => exact ⟨0, by omega, by omega, rfl, fun o' a' h1 h2 h3 => by omega, Kept.refl _ _⟩
  case round =>
    obtain ⟨n, hn0, hn1, rfl, hno, hK⟩ := hrel
    obtain ⟨Hwr, Twr, dwr_0, dwr_1, dwr_2, dwr_3, dwr_4, dwr_5, dwr_6⟩ := KF.out wr hK.out
    have twr_c0 := Twr.c0
    have twr_c1 := Twr.c1
    have twr_f0 := Twr.f0
    have twr_f1 := Twr.f1
    have hHr := Lib.hid Hwr
    clear Hwr
    by_cases hlt : n ≤ N
    · go_wp2_with fail
      go_step3
      go_wp2_with fail
      go_step3
      go_wp2_with fail
      have hdl : decide (n < N + 1) = true := by simp; omega
      simp only [hdl]
      clear hdl
      go_loopw [48] (fun i wr => ∃ k : Int, 0 ≤ k ∧ k ≤ n + 1 ∧ i = .int .i64 k ∧ Hid (∀ a', 0 ≤ a' → a' < k → P n a' = false) ∧ Hid (Kept mb w2 wr)) (fun i _ => (n + 1 - intOf i).toNat)
      case atStart => exact ⟨0, by omega, by omega, rfl, fun a' h1 h2 => by omega, hK.out⟩
      case round =>
        obtain ⟨k, hk0, hk1, rfl, hno2, hK3⟩ := hrel
        have hss := hK3.out.size
        obtain ⟨Hwr, Twr, dwr_0, dwr_1, dwr_2, dwr_3, dwr_4, dwr_5, dwr_6⟩ := KF.out wr hK3.out
        have twr_c0 := Twr.c0
        have twr_c1 := Twr.c1
        have twr_f0 := Twr.f0
        have twr_f1 := Twr.f1
        by_cases hlt2 : k ≤ n
        · have hKa := Lib.hid (hK3.out.alloc (.cells #[.int .i64 n, .int .i64 k] 47))
          obtain ⟨Ha, Ta, da_0, da_1, da_2, da_3, da_4, da_5, da_6⟩ := KF.out _ hKa.out
          have ka0 := (two_alloc (.int .i64 n) (.int .i64 k) 47 wr).c0
          have ka1 := (two_alloc (.int .i64 n) (.int .i64 k) 47 wr).c1
          have KA := Lib.hid (And.intro (two_alloc (.int .i64 n) (.int .i64 k) 47 wr) (Ha.ctr.memo.ne ka0))
          generalize hpk : P n k = q
          have HPK := Lib.hid hpk
          have hcall := Lib.hid (hfine.out hb mb kb cb n k (wr.alloc (.cells #[.int .i64 n, .int .i64 k] 47)) Ha hk0 hlt2 hlt)
          rw [hpk] at hcall
          clear hpk Ha Ta
          cases q
          · go_wp2_with fail
            refine hcall.out.mono ?_
            rintro e w4 ⟨rfl, hK4⟩
            have HK4 := Lib.hid (hKa.out.trans hK4)
            clear hK4
            go_wp2_with fail
            go_roundw
            case rel => exact ⟨k + 1, by omega, by omega, by go_num, fun a' h1 h2 => (by
              by_cases h : a' = k
              · subst h; exact HPK.out
              · exact hno2.out a' h1 (by omega)), HK4.out⟩
            case measure => simp [intOf]; omega
          · go_wp2_with fail
            refine hcall.out.mono ?_
            rintro e w4 ⟨rfl, hK4⟩
            have HK4 := Lib.hid (hKa.out.trans hK4)
            have K4 := KA.out.1.kept hK4 KA.out.2
            have k40 := K4.c0
            have k41 := K4.c1
            have HB4 := Lib.hid (HK4.out.below_of (HB0.out.trans (HB2.out.mono hs0)) HMB.out.1 HMB.out.2)
            clear hK4
            obtain ⟨Hw4, Tw4, dw4_0, dw4_1, dw4_2, dw4_3, dw4_4, dw4_5, dw4_6⟩ := KF.out w4 HK4.out
            have tw4_c0 := Tw4.c0
            have tw4_c1 := Tw4.c1
            have tw4_f0 := Tw4.f0
            have tw4_f1 := Tw4.f1
            obtain ⟨z1, z2⟩ := two_stores (w := w4) (b := bb + 1 + 1 + 1) (.int .i64 (n)) (.int .i64 (k)) tw4_c0 tw4_c1
            have hB9 := Lib.hid (((HB4.out).setCell (p := ⟨bb + 1 + 1 + 1, 0, none⟩) (by show bb ≤ bb + 1 + 1 + 1; omega) (.int .i64 (n))).setCell (p := ⟨bb + 1 + 1 + 1, 1, none⟩) (by show bb ≤ bb + 1 + 1 + 1; omega) (.int .i64 (k)))
            go_wp2_with fail
            have hbb := HBB.out
            subst hbb
            rw [Exit.noGoto_ret]
            simp +zetaDelta only [Exit.inBlock, Exit.then]
            refine bodyPost_ret (v := .tuple #[.agg #[.int .i64 (n), .int .i64 (k)], .int .i64 (0)]) ?_ rfl ⟨⟨n, k, 0, rfl, .inl ⟨rfl, hk0, hlt2, hlt, HPK.out, hno.out, hno2.out⟩⟩, hB9.out⟩
            simp [results, Tryz.results27, go_sem, z1, z2]
        · go_wp2_with fail
          go_roundw
          case rel => exact ⟨n + 1, by omega, by omega, by go_num, fun o' a' h1 h2 h3 => by
            by_cases h : o' = n
            · subst h; exact hno2.out a' h1 (by omega)
            · exact hno.out o' a' h1 h2 (by omega), hK3.out⟩
          case measure => simp [intOf]; omega
    · have HB4 := Lib.hid (hK.out.below_of (HB0.out.trans (HB2.out.mono hs0)) HMB.out.1 HMB.out.2)
      obtain ⟨z1, z2⟩ := two_stores (w := wr) (b := bb + 1 + 1 + 1) (.int .i64 (0)) (.int .i64 (0)) twr_c0 twr_c1
      have hB9 := Lib.hid (((HB4.out).setCell (p := ⟨bb + 1 + 1 + 1, 0, none⟩) (by show bb ≤ bb + 1 + 1 + 1; omega) (.int .i64 (0))).setCell (p := ⟨bb + 1 + 1 + 1, 1, none⟩) (by show bb ≤ bb + 1 + 1 + 1; omega) (.int .i64 (0)))
      go_wp2_with fail
      have hbb := HBB.out
      subst hbb
      refine bodyPost_ret (v := .tuple #[.agg #[.int .i64 (0), .int .i64 (0)], .int .i64 (6)]) ?_ rfl ⟨⟨0, 0, 6, rfl, .inr ⟨rfl, rfl, rfl, fun o' a' h1 h2 h3 => hno.out o' a' h1 h2 (by omega)⟩⟩, hB9.out⟩
      simp [results, Tryz.results27, go_sem, z1, z2]
end Go.Proofs.YtigdpohdihopjaaGreatDoor

/- The rule that opens the fewest bags: what Least returns. -/
namespace Go.Proofs.YtigdpohdihopjaaGreatDoor
set_option linter.unusedSimpArgs false
set_option linter.unusedVariables false
open Go.RowKit Go.Proofs.YtigdpohdihopjaaGreatDoor.ML Go.Proofs.YtigdpohdihopjaaGreatDoor.Samp

/-- What the rule that opens the fewest bags is. -/
def LeastAll (N lo hi g b sn sd bn bd o a q : Int) : Prop :=
  if cargoB N lo hi = false then o = 0 ∧ a = 0 ∧ q = 10 else if riskedE lo hi g b sn sd bn bd ≠ 0 then o = 0 ∧ a = 0 ∧ q = riskedE lo hi g b sn sd bn bd else LeastIs (fun o a => fineB N g b o a sn sd bn bd) N o a q
theorem LeastAll.unique {N lo hi g b sn sd bn bd o a q o' a' q' : Int} (h : LeastAll N lo hi g b sn sd bn bd o a q) (k : LeastAll N lo hi g b sn sd bn bd o' a' q') : o = o' ∧ a = a' ∧ q = q' := by
  unfold LeastAll at h k
  split at h
  · rw [if_pos ‹_›] at k; omega
  · split at h
    · rw [if_neg ‹_›, if_pos ‹_›] at k; omega
    · rw [if_neg ‹_›, if_neg ‹_›] at k; exact h.unique k
theorem least_all (N lo hi g b sn sd bn bd : Int) (w : World) :
    Calls Tryz.prog 27 #[.agg #[.int .i64 N, .int .i64 lo, .int .i64 hi], .int .i64 g, .int .i64 b, .agg #[.int .i64 sn, .int .i64 sd], .agg #[.int .i64 bn, .int .i64 bd]] w fun e w' => (∃ o a q, e = .returned (.tuple #[.agg #[.int .i64 o, .int .i64 a], .int .i64 q]) ∧ LeastAll N lo hi g b sn sd bn bd o a q) ∧ Below w.heap.size w w' := by
  cases hc : cargoB N lo hi
  · exact (least_a N lo hi g b sn sd bn bd w hc).mono fun e w' ⟨h1, h2⟩ => ⟨⟨0, 0, 10, h1, by rw [LeastAll, if_pos hc]; exact ⟨rfl, rfl, rfl⟩⟩, h2⟩
  · by_cases hz : riskedE lo hi g b sn sd bn bd = 0
    · exact (least_c N lo hi g b sn sd bn bd w hc hz (fun o a => fineB N g b o a sn sd bn bd) (fun _ _ _ _ _ => rfl)).mono fun e w' ⟨⟨o, a, q, h1, h3⟩, h2⟩ => ⟨⟨o, a, q, h1, by rw [LeastAll, if_neg (by simp [hc]), if_neg (by simp [hz])]; exact h3⟩, h2⟩
    · exact (least_b N lo hi g b sn sd bn bd w hc _ rfl (by simpa using hz)).mono fun e w' ⟨h1, h2⟩ => ⟨⟨0, 0, _, h1, by rw [LeastAll, if_neg (by simp [hc]), if_pos hz]; exact ⟨rfl, rfl, rfl⟩⟩, h2⟩
end Go.Proofs.YtigdpohdihopjaaGreatDoor

/- What a double rule is asked. -/
namespace Go.Proofs.YtigdpohdihopjaaGreatDoor
set_option linter.unusedSimpArgs false
set_option linter.unusedVariables false
open Go.RowKit Go.Proofs.YtigdpohdihopjaaGreatDoor.ML Go.Proofs.YtigdpohdihopjaaGreatDoor.Samp

def right1 (N F S : Int) : Bool := inB 0 N [F] && inB 0 (N - F) [S]
def right2 (F A : Int) : Bool := inB 0 F [A]
def right3 (F A R S T : Int) : Bool := inB (A + 1) (F + 1) [R] && inB A (R + S) [T]

set_option maxRecDepth 100000 in
set_option maxHeartbeats 2000000 in
theorem dbl1_any (N F A R S T : Int) (r : Bool) (w : World) (hN : 1 ≤ N ∧ N ≤ 36) (hr : Hid (right1 N F S = r)) :
    Calls Tryz.prog 125 #[.int .i64 N, .agg #[.int .i64 F, .int .i64 A, .int .i64 R, .int .i64 S, .int .i64 T]] w fun e w' => e = .returned (.bool r) ∧ Below w.heap.size w w' := by
  have hB0 : Below w.heap.size w (w.alloc (.cells #[.int .i64 F, .int .i64 A, .int .i64 R, .int .i64 S, .int .i64 T] 71)) := (Below.refl _ w).alloc (Nat.le_refl _) _
  have c0_0 : (w.alloc (.cells #[.int .i64 F, .int .i64 A, .int .i64 R, .int .i64 S, .int .i64 T] 71)).cell? ⟨w.heap.size, 0, none⟩ = some (.int .i64 F) := by simp [go_sem]
  have c0_1 : (w.alloc (.cells #[.int .i64 F, .int .i64 A, .int .i64 R, .int .i64 S, .int .i64 T] 71)).cell? ⟨w.heap.size, 1, none⟩ = some (.int .i64 A) := by simp [go_sem]
  have c0_2 : (w.alloc (.cells #[.int .i64 F, .int .i64 A, .int .i64 R, .int .i64 S, .int .i64 T] 71)).cell? ⟨w.heap.size, 2, none⟩ = some (.int .i64 R) := by simp [go_sem]
  have c0_3 : (w.alloc (.cells #[.int .i64 F, .int .i64 A, .int .i64 R, .int .i64 S, .int .i64 T] 71)).cell? ⟨w.heap.size, 3, none⟩ = some (.int .i64 S) := by simp [go_sem]
  have c0_4 : (w.alloc (.cells #[.int .i64 F, .int .i64 A, .int .i64 R, .int .i64 S, .int .i64 T] 71)).cell? ⟨w.heap.size, 4, none⟩ = some (.int .i64 T) := by simp [go_sem]
  cases h1 : inB 0 N [F]
  · have H1 := Lib.hid h1
    obtain rfl : r = false := by rw [← hr.out]; simp [right1, h1]
    have HB0 := Lib.hid hB0
    clear h1 hr hB0 c0_0 c0_1 c0_2 c0_3 c0_4
    go_enter Tryz.func125, Tryz.ntmps125
    go_wp2_with fail
    refine (in_one _ _ F false _ _ H1.out (by simp [go_sem])).mono ?_
    rintro e w1 ⟨rfl, hB1⟩
    go_wp2_with fail
    go_ret
    exact ⟨rfl, (HB0.out.alloc (by simp) _).trans (hB1.mono (by simp; omega))⟩
  · have H1 := Lib.hid h1
    have HR := Lib.hid (show inB 0 (N - F) [S] = r by rw [← hr.out]; simp [right1, h1])
    have hF : 0 ≤ F ∧ F ≤ N := by simpa [inB] using h1
    clear h1 hr
    go_enter Tryz.func125, Tryz.ntmps125
    go_wp2_with fail
    refine (in_one _ _ F true _ _ H1.out (by simp [go_sem])).mono ?_
    rintro e w1 ⟨rfl, hB1⟩
    have K_w1 : Free.Bel (w.alloc (.cells #[.int .i64 F, .int .i64 A, .int .i64 R, .int .i64 S, .int .i64 T] 71)) w1 := by
      refine Free.Bel.trans _ _ _ ?_ hB1
      repeat (first | exact Free.Bel.refl _ | refine Bel.allocT ?_ _ | refine Bel.drewT ?_)
    clear hB1
    have hq : w.heap.size + 1 = (w.alloc (.cells #[.int .i64 F, .int .i64 A, .int .i64 R, .int .i64 S, .int .i64 T] 71)).heap.size := by simp
    generalize (w.alloc (.cells #[.int .i64 F, .int .i64 A, .int .i64 R, .int .i64 S, .int .i64 T] 71)) = W0 at *
    generalize hbb : w.heap.size = bb at *
    have HBB := Lib.hid hbb
    clear hbb
    have HB0 := Lib.hid hB0
    have hq0 : bb + 1 ≤ W0.heap.size := by omega
    clear hB0 hq
    have FA : ∀ W, Free.Bel W0 W → W.cell? ⟨bb, 0, none⟩ = some (.int .i64 F) ∧ W.cell? ⟨bb, 1, none⟩ = some (.int .i64 A) ∧ W.cell? ⟨bb, 2, none⟩ = some (.int .i64 R) ∧ W.cell? ⟨bb, 3, none⟩ = some (.int .i64 S) ∧ W.cell? ⟨bb, 4, none⟩ = some (.int .i64 T) ∧ bb + 1 ≤ W.heap.size := fun W hW => ⟨keepsB hW c0_0, keepsB hW c0_1, keepsB hW c0_2, keepsB hW c0_3, keepsB hW c0_4, Nat.le_trans hq0 hW.size⟩
    clear c0_0 c0_1 c0_2 c0_3 c0_4
    go_wp2_with fail
    refine (in_one _ _ S r _ _ HR.out (by simp [go_sem])).mono ?_
    rintro e w2 ⟨rfl, hB2⟩
    have K_w2 : Free.Bel W0 w2 := by
      refine Free.Bel.trans _ _ _ ?_ hB2
      repeat (first | exact K_w1 | exact Free.Bel.refl _ | refine Bel.allocT ?_ _ | refine Bel.drewT ?_)
    go_wp2_with fail
    go_ret
    have hbb := HBB.out
    subst hbb
    exact ⟨rfl, HB0.out.trans (K_w2.mono (by omega))⟩

set_option maxRecDepth 100000 in
set_option maxHeartbeats 2000000 in
theorem dbl2_any (N F A R S T : Int) (r : Bool) (w : World)  (hr : Hid (right2 F A = r)) :
    Calls Tryz.prog 126 #[.int .i64 N, .agg #[.int .i64 F, .int .i64 A, .int .i64 R, .int .i64 S, .int .i64 T]] w fun e w' => e = .returned (.bool r) ∧ Below w.heap.size w w' := by
  have hB0 : Below w.heap.size w (w.alloc (.cells #[.int .i64 F, .int .i64 A, .int .i64 R, .int .i64 S, .int .i64 T] 71)) := (Below.refl _ w).alloc (Nat.le_refl _) _
  have c0_0 : (w.alloc (.cells #[.int .i64 F, .int .i64 A, .int .i64 R, .int .i64 S, .int .i64 T] 71)).cell? ⟨w.heap.size, 0, none⟩ = some (.int .i64 F) := by simp [go_sem]
  have c0_1 : (w.alloc (.cells #[.int .i64 F, .int .i64 A, .int .i64 R, .int .i64 S, .int .i64 T] 71)).cell? ⟨w.heap.size, 1, none⟩ = some (.int .i64 A) := by simp [go_sem]
  have c0_2 : (w.alloc (.cells #[.int .i64 F, .int .i64 A, .int .i64 R, .int .i64 S, .int .i64 T] 71)).cell? ⟨w.heap.size, 2, none⟩ = some (.int .i64 R) := by simp [go_sem]
  have c0_3 : (w.alloc (.cells #[.int .i64 F, .int .i64 A, .int .i64 R, .int .i64 S, .int .i64 T] 71)).cell? ⟨w.heap.size, 3, none⟩ = some (.int .i64 S) := by simp [go_sem]
  have c0_4 : (w.alloc (.cells #[.int .i64 F, .int .i64 A, .int .i64 R, .int .i64 S, .int .i64 T] 71)).cell? ⟨w.heap.size, 4, none⟩ = some (.int .i64 T) := by simp [go_sem]
  have HB0 := Lib.hid hB0
  clear hB0 c0_0 c0_1 c0_2 c0_3 c0_4
  go_enter Tryz.func126, Tryz.ntmps126
  go_wp2_with fail
  refine (in_one _ _ A r _ _ hr.out (by simp [go_sem])).mono ?_
  rintro e w1 ⟨rfl, hB1⟩
  go_wp2_with fail
  go_ret
  exact ⟨rfl, (HB0.out.alloc (by simp) _).trans (hB1.mono (by simp; omega))⟩

set_option maxRecDepth 100000 in
set_option maxHeartbeats 2000000 in
theorem dbl3_any (N F A R S T : Int) (r : Bool) (w : World) (hN : 0 ≤ F ∧ F ≤ 36 ∧ 0 ≤ A ∧ A ≤ F ∧ 0 ≤ S ∧ S ≤ 36) (hr : Hid (right3 F A R S T = r)) :
    Calls Tryz.prog 127 #[.int .i64 N, .agg #[.int .i64 F, .int .i64 A, .int .i64 R, .int .i64 S, .int .i64 T]] w fun e w' => e = .returned (.bool r) ∧ Below w.heap.size w w' := by
  have hB0 : Below w.heap.size w (w.alloc (.cells #[.int .i64 F, .int .i64 A, .int .i64 R, .int .i64 S, .int .i64 T] 71)) := (Below.refl _ w).alloc (Nat.le_refl _) _
  have c0_0 : (w.alloc (.cells #[.int .i64 F, .int .i64 A, .int .i64 R, .int .i64 S, .int .i64 T] 71)).cell? ⟨w.heap.size, 0, none⟩ = some (.int .i64 F) := by simp [go_sem]
  have c0_1 : (w.alloc (.cells #[.int .i64 F, .int .i64 A, .int .i64 R, .int .i64 S, .int .i64 T] 71)).cell? ⟨w.heap.size, 1, none⟩ = some (.int .i64 A) := by simp [go_sem]
  have c0_2 : (w.alloc (.cells #[.int .i64 F, .int .i64 A, .int .i64 R, .int .i64 S, .int .i64 T] 71)).cell? ⟨w.heap.size, 2, none⟩ = some (.int .i64 R) := by simp [go_sem]
  have c0_3 : (w.alloc (.cells #[.int .i64 F, .int .i64 A, .int .i64 R, .int .i64 S, .int .i64 T] 71)).cell? ⟨w.heap.size, 3, none⟩ = some (.int .i64 S) := by simp [go_sem]
  have c0_4 : (w.alloc (.cells #[.int .i64 F, .int .i64 A, .int .i64 R, .int .i64 S, .int .i64 T] 71)).cell? ⟨w.heap.size, 4, none⟩ = some (.int .i64 T) := by simp [go_sem]
  cases h1 : inB (A + 1) (F + 1) [R]
  · have H1 := Lib.hid h1
    obtain rfl : r = false := by rw [← hr.out]; simp [right3, h1]
    have HB0 := Lib.hid hB0
    clear h1 hr hB0 c0_0 c0_1 c0_2 c0_3 c0_4
    go_enter Tryz.func127, Tryz.ntmps127
    go_wp2_with fail
    refine (in_one _ _ R false _ _ H1.out (by simp [go_sem])).mono ?_
    rintro e w1 ⟨rfl, hB1⟩
    go_wp2_with fail
    go_ret
    exact ⟨rfl, (HB0.out.alloc (by simp) _).trans (hB1.mono (by simp; omega))⟩
  · have H1 := Lib.hid h1
    have HR := Lib.hid (show inB A (R + S) [T] = r by rw [← hr.out]; simp [right3, h1])
    have hF : (A + 1) ≤ R ∧ R ≤ (F + 1) := by simpa [inB] using h1
    clear h1 hr
    go_enter Tryz.func127, Tryz.ntmps127
    go_wp2_with fail
    refine (in_one _ _ R true _ _ H1.out (by simp [go_sem])).mono ?_
    rintro e w1 ⟨rfl, hB1⟩
    have K_w1 : Free.Bel (w.alloc (.cells #[.int .i64 F, .int .i64 A, .int .i64 R, .int .i64 S, .int .i64 T] 71)) w1 := by
      refine Free.Bel.trans _ _ _ ?_ hB1
      repeat (first | exact Free.Bel.refl _ | refine Bel.allocT ?_ _ | refine Bel.drewT ?_)
    clear hB1
    have hq : w.heap.size + 1 = (w.alloc (.cells #[.int .i64 F, .int .i64 A, .int .i64 R, .int .i64 S, .int .i64 T] 71)).heap.size := by simp
    generalize (w.alloc (.cells #[.int .i64 F, .int .i64 A, .int .i64 R, .int .i64 S, .int .i64 T] 71)) = W0 at *
    generalize hbb : w.heap.size = bb at *
    have HBB := Lib.hid hbb
    clear hbb
    have HB0 := Lib.hid hB0
    have hq0 : bb + 1 ≤ W0.heap.size := by omega
    clear hB0 hq
    have FA : ∀ W, Free.Bel W0 W → W.cell? ⟨bb, 0, none⟩ = some (.int .i64 F) ∧ W.cell? ⟨bb, 1, none⟩ = some (.int .i64 A) ∧ W.cell? ⟨bb, 2, none⟩ = some (.int .i64 R) ∧ W.cell? ⟨bb, 3, none⟩ = some (.int .i64 S) ∧ W.cell? ⟨bb, 4, none⟩ = some (.int .i64 T) ∧ bb + 1 ≤ W.heap.size := fun W hW => ⟨keepsB hW c0_0, keepsB hW c0_1, keepsB hW c0_2, keepsB hW c0_3, keepsB hW c0_4, Nat.le_trans hq0 hW.size⟩
    clear c0_0 c0_1 c0_2 c0_3 c0_4
    go_wp2_with fail
    refine (in_one _ _ T r _ _ HR.out (by simp [go_sem])).mono ?_
    rintro e w2 ⟨rfl, hB2⟩
    have K_w2 : Free.Bel W0 w2 := by
      refine Free.Bel.trans _ _ _ ?_ hB2
      repeat (first | exact K_w1 | exact Free.Bel.refl _ | refine Bel.allocT ?_ _ | refine Bel.drewT ?_)
    go_wp2_with fail
    go_ret
    have hbb := HBB.out
    subst hbb
    exact ⟨rfl, HB0.out.trans (K_w2.mono (by omega))⟩
end Go.Proofs.YtigdpohdihopjaaGreatDoor

/- Double rules: Twice. -/
namespace Go.Proofs.YtigdpohdihopjaaGreatDoor
set_option linter.unusedSimpArgs false
set_option linter.unusedVariables false
open Go.RowKit Go.Proofs.YtigdpohdihopjaaGreatDoor.ML Go.Proofs.YtigdpohdihopjaaGreatDoor.Samp

abbrev dblF (n : Nat) : Value := .func (.func n) #[] #[]
/-- The table of what a double rule is asked. -/
def TabD (w : World) : Prop := w.cell? ⟨0, 0, none⟩ = some (dblF 125) ∧ w.cell? ⟨0, 1, none⟩ = some (dblF 126) ∧ w.cell? ⟨0, 2, none⟩ = some (dblF 127)
def rightsB (N F A R S T : Int) : Bool := right1 N F S && (right2 F A && right3 F A R S T)
def zz (e : Int) : Value := .tuple #[.agg #[.int .i64 0, .int .i64 0], .agg #[.int .i64 0, .int .i64 0], .int .i64 e]
/-- What is returned for a valid cargo. -/
def twiceR (N lo hi D F A R S T : Int) : Value :=
  if rightsB N F A R S T = false then zz 13 else if inB lo hi [D] = false then zz 2 else .tuple #[twiceV1 N D F A R S T, twiceV2 N D F A R S, .int .i64 0]

set_option maxRecDepth 100000 in
set_option maxHeartbeats 2000000 in
theorem twice_a (N lo hi F A R S T D : Int) (w : World) (hT : TabD w) (hc : cargoB N lo hi = false) :
    Calls Tryz.prog 28 #[.agg #[.int .i64 N, .int .i64 lo, .int .i64 hi], .agg #[.int .i64 F, .int .i64 A, .int .i64 R, .int .i64 S, .int .i64 T], .int .i64 D] w fun e w' => e = .returned (zz 10) ∧ Below w.heap.size w w' := by
  have hB0 : Below w.heap.size w ((((w.alloc (.cells #[.int .i64 N, .int .i64 lo, .int .i64 hi] 28)).alloc (.cells #[.int .i64 F, .int .i64 A, .int .i64 R, .int .i64 S, .int .i64 T] 71)).alloc (.cells #[.int .i64 0, .int .i64 0] 31)).alloc (.cells #[.int .i64 0, .int .i64 0] 31)) := ((((Below.refl _ w).alloc (Nat.le_refl _) _).alloc (by simp) _).alloc (by simp; omega) _).alloc (by simp; omega) _
  have c0_0 : ((((w.alloc (.cells #[.int .i64 N, .int .i64 lo, .int .i64 hi] 28)).alloc (.cells #[.int .i64 F, .int .i64 A, .int .i64 R, .int .i64 S, .int .i64 T] 71)).alloc (.cells #[.int .i64 0, .int .i64 0] 31)).alloc (.cells #[.int .i64 0, .int .i64 0] 31)).cell? ⟨w.heap.size, 0, none⟩ = some (.int .i64 N) := by simp [go_sem]
  have c0_1 : ((((w.alloc (.cells #[.int .i64 N, .int .i64 lo, .int .i64 hi] 28)).alloc (.cells #[.int .i64 F, .int .i64 A, .int .i64 R, .int .i64 S, .int .i64 T] 71)).alloc (.cells #[.int .i64 0, .int .i64 0] 31)).alloc (.cells #[.int .i64 0, .int .i64 0] 31)).cell? ⟨w.heap.size, 1, none⟩ = some (.int .i64 lo) := by simp [go_sem]
  have c0_2 : ((((w.alloc (.cells #[.int .i64 N, .int .i64 lo, .int .i64 hi] 28)).alloc (.cells #[.int .i64 F, .int .i64 A, .int .i64 R, .int .i64 S, .int .i64 T] 71)).alloc (.cells #[.int .i64 0, .int .i64 0] 31)).alloc (.cells #[.int .i64 0, .int .i64 0] 31)).cell? ⟨w.heap.size, 2, none⟩ = some (.int .i64 hi) := by simp [go_sem]
  have c1_0 : ((((w.alloc (.cells #[.int .i64 N, .int .i64 lo, .int .i64 hi] 28)).alloc (.cells #[.int .i64 F, .int .i64 A, .int .i64 R, .int .i64 S, .int .i64 T] 71)).alloc (.cells #[.int .i64 0, .int .i64 0] 31)).alloc (.cells #[.int .i64 0, .int .i64 0] 31)).cell? ⟨w.heap.size + 1, 0, none⟩ = some (.int .i64 F) := by simp [go_sem]
  have c1_1 : ((((w.alloc (.cells #[.int .i64 N, .int .i64 lo, .int .i64 hi] 28)).alloc (.cells #[.int .i64 F, .int .i64 A, .int .i64 R, .int .i64 S, .int .i64 T] 71)).alloc (.cells #[.int .i64 0, .int .i64 0] 31)).alloc (.cells #[.int .i64 0, .int .i64 0] 31)).cell? ⟨w.heap.size + 1, 1, none⟩ = some (.int .i64 A) := by simp [go_sem]
  have c1_2 : ((((w.alloc (.cells #[.int .i64 N, .int .i64 lo, .int .i64 hi] 28)).alloc (.cells #[.int .i64 F, .int .i64 A, .int .i64 R, .int .i64 S, .int .i64 T] 71)).alloc (.cells #[.int .i64 0, .int .i64 0] 31)).alloc (.cells #[.int .i64 0, .int .i64 0] 31)).cell? ⟨w.heap.size + 1, 2, none⟩ = some (.int .i64 R) := by simp [go_sem]
  have c1_3 : ((((w.alloc (.cells #[.int .i64 N, .int .i64 lo, .int .i64 hi] 28)).alloc (.cells #[.int .i64 F, .int .i64 A, .int .i64 R, .int .i64 S, .int .i64 T] 71)).alloc (.cells #[.int .i64 0, .int .i64 0] 31)).alloc (.cells #[.int .i64 0, .int .i64 0] 31)).cell? ⟨w.heap.size + 1, 3, none⟩ = some (.int .i64 S) := by simp [go_sem]
  have c1_4 : ((((w.alloc (.cells #[.int .i64 N, .int .i64 lo, .int .i64 hi] 28)).alloc (.cells #[.int .i64 F, .int .i64 A, .int .i64 R, .int .i64 S, .int .i64 T] 71)).alloc (.cells #[.int .i64 0, .int .i64 0] 31)).alloc (.cells #[.int .i64 0, .int .i64 0] 31)).cell? ⟨w.heap.size + 1, 4, none⟩ = some (.int .i64 T) := by simp [go_sem]
  have c2_0 : ((((w.alloc (.cells #[.int .i64 N, .int .i64 lo, .int .i64 hi] 28)).alloc (.cells #[.int .i64 F, .int .i64 A, .int .i64 R, .int .i64 S, .int .i64 T] 71)).alloc (.cells #[.int .i64 0, .int .i64 0] 31)).alloc (.cells #[.int .i64 0, .int .i64 0] 31)).cell? ⟨w.heap.size + 1 + 1, 0, none⟩ = some (.int .i64 0) := by simp [go_sem]
  have c2_1 : ((((w.alloc (.cells #[.int .i64 N, .int .i64 lo, .int .i64 hi] 28)).alloc (.cells #[.int .i64 F, .int .i64 A, .int .i64 R, .int .i64 S, .int .i64 T] 71)).alloc (.cells #[.int .i64 0, .int .i64 0] 31)).alloc (.cells #[.int .i64 0, .int .i64 0] 31)).cell? ⟨w.heap.size + 1 + 1, 1, none⟩ = some (.int .i64 0) := by simp [go_sem]
  have c3_0 : ((((w.alloc (.cells #[.int .i64 N, .int .i64 lo, .int .i64 hi] 28)).alloc (.cells #[.int .i64 F, .int .i64 A, .int .i64 R, .int .i64 S, .int .i64 T] 71)).alloc (.cells #[.int .i64 0, .int .i64 0] 31)).alloc (.cells #[.int .i64 0, .int .i64 0] 31)).cell? ⟨w.heap.size + 1 + 1 + 1, 0, none⟩ = some (.int .i64 0) := by simp [go_sem]
  have c3_1 : ((((w.alloc (.cells #[.int .i64 N, .int .i64 lo, .int .i64 hi] 28)).alloc (.cells #[.int .i64 F, .int .i64 A, .int .i64 R, .int .i64 S, .int .i64 T] 71)).alloc (.cells #[.int .i64 0, .int .i64 0] 31)).alloc (.cells #[.int .i64 0, .int .i64 0] 31)).cell? ⟨w.heap.size + 1 + 1 + 1, 1, none⟩ = some (.int .i64 0) := by simp [go_sem]
  have f2_0 : ((((w.alloc (.cells #[.int .i64 N, .int .i64 lo, .int .i64 hi] 28)).alloc (.cells #[.int .i64 F, .int .i64 A, .int .i64 R, .int .i64 S, .int .i64 T] 71)).alloc (.cells #[.int .i64 0, .int .i64 0] 31)).alloc (.cells #[.int .i64 0, .int .i64 0] 31)).frozen? ⟨w.heap.size + 1 + 1, 0, none⟩ = false := by simp [go_sem]
  have f2_1 : ((((w.alloc (.cells #[.int .i64 N, .int .i64 lo, .int .i64 hi] 28)).alloc (.cells #[.int .i64 F, .int .i64 A, .int .i64 R, .int .i64 S, .int .i64 T] 71)).alloc (.cells #[.int .i64 0, .int .i64 0] 31)).alloc (.cells #[.int .i64 0, .int .i64 0] 31)).frozen? ⟨w.heap.size + 1 + 1, 1, none⟩ = false := by simp [go_sem]
  have f3_0 : ((((w.alloc (.cells #[.int .i64 N, .int .i64 lo, .int .i64 hi] 28)).alloc (.cells #[.int .i64 F, .int .i64 A, .int .i64 R, .int .i64 S, .int .i64 T] 71)).alloc (.cells #[.int .i64 0, .int .i64 0] 31)).alloc (.cells #[.int .i64 0, .int .i64 0] 31)).frozen? ⟨w.heap.size + 1 + 1 + 1, 0, none⟩ = false := by simp [go_sem]
  have f3_1 : ((((w.alloc (.cells #[.int .i64 N, .int .i64 lo, .int .i64 hi] 28)).alloc (.cells #[.int .i64 F, .int .i64 A, .int .i64 R, .int .i64 S, .int .i64 T] 71)).alloc (.cells #[.int .i64 0, .int .i64 0] 31)).alloc (.cells #[.int .i64 0, .int .i64 0] 31)).frozen? ⟨w.heap.size + 1 + 1 + 1, 1, none⟩ = false := by simp [go_sem]
  have t0 := keepsB hB0 hT.1
  have t1 := keepsB hB0 hT.2.1
  have t2 := keepsB hB0 hT.2.2
  clear hT
  go_enter Tryz.func28, Tryz.ntmps28
  go_wp2_with fail
  refine (begun_bad N lo hi _ hc).mono ?_
  rintro e w1 ⟨rfl, hB1⟩
  have K_w1 : Free.Bel ((((w.alloc (.cells #[.int .i64 N, .int .i64 lo, .int .i64 hi] 28)).alloc (.cells #[.int .i64 F, .int .i64 A, .int .i64 R, .int .i64 S, .int .i64 T] 71)).alloc (.cells #[.int .i64 0, .int .i64 0] 31)).alloc (.cells #[.int .i64 0, .int .i64 0] 31)) w1 := hB1
  clear hB1
  have hq : w.heap.size + 4 = ((((w.alloc (.cells #[.int .i64 N, .int .i64 lo, .int .i64 hi] 28)).alloc (.cells #[.int .i64 F, .int .i64 A, .int .i64 R, .int .i64 S, .int .i64 T] 71)).alloc (.cells #[.int .i64 0, .int .i64 0] 31)).alloc (.cells #[.int .i64 0, .int .i64 0] 31)).heap.size := by simp
  generalize ((((w.alloc (.cells #[.int .i64 N, .int .i64 lo, .int .i64 hi] 28)).alloc (.cells #[.int .i64 F, .int .i64 A, .int .i64 R, .int .i64 S, .int .i64 T] 71)).alloc (.cells #[.int .i64 0, .int .i64 0] 31)).alloc (.cells #[.int .i64 0, .int .i64 0] 31)) = W0 at *
  generalize hbb : w.heap.size = bb at *
  have HBB := Lib.hid hbb
  clear hbb
  have HB0 := Lib.hid hB0
  have hq0 : bb + 4 ≤ W0.heap.size := by omega
  clear hB0 hq
  have FA : ∀ W, Free.Bel W0 W → W.cell? ⟨bb, 0, none⟩ = some (.int .i64 N) ∧ W.cell? ⟨bb, 1, none⟩ = some (.int .i64 lo) ∧ W.cell? ⟨bb, 2, none⟩ = some (.int .i64 hi) ∧ W.cell? ⟨bb + 1, 0, none⟩ = some (.int .i64 F) ∧ W.cell? ⟨bb + 1, 1, none⟩ = some (.int .i64 A) ∧ W.cell? ⟨bb + 1, 2, none⟩ = some (.int .i64 R) ∧ W.cell? ⟨bb + 1, 3, none⟩ = some (.int .i64 S) ∧ W.cell? ⟨bb + 1, 4, none⟩ = some (.int .i64 T) ∧ W.cell? ⟨bb + 1 + 1, 0, none⟩ = some (.int .i64 0) ∧ W.cell? ⟨bb + 1 + 1, 1, none⟩ = some (.int .i64 0) ∧ W.cell? ⟨bb + 1 + 1 + 1, 0, none⟩ = some (.int .i64 0) ∧ W.cell? ⟨bb + 1 + 1 + 1, 1, none⟩ = some (.int .i64 0) ∧ W.frozen? ⟨bb + 1 + 1, 0, none⟩ = false ∧ W.frozen? ⟨bb + 1 + 1, 1, none⟩ = false ∧ W.frozen? ⟨bb + 1 + 1 + 1, 0, none⟩ = false ∧ W.frozen? ⟨bb + 1 + 1 + 1, 1, none⟩ = false ∧ W.cell? ⟨0, 0, none⟩ = some (dblF 125) ∧ W.cell? ⟨0, 1, none⟩ = some (dblF 126) ∧ W.cell? ⟨0, 2, none⟩ = some (dblF 127) ∧ bb + 4 ≤ W.heap.size := fun W hW => ⟨keepsB hW c0_0, keepsB hW c0_1, keepsB hW c0_2, keepsB hW c1_0, keepsB hW c1_1, keepsB hW c1_2, keepsB hW c1_3, keepsB hW c1_4, keepsB hW c2_0, keepsB hW c2_1, keepsB hW c3_0, keepsB hW c3_1, (hW.frozen (p := ⟨bb + 1 + 1, 0, none⟩) (by simp; omega)).trans f2_0, (hW.frozen (p := ⟨bb + 1 + 1, 1, none⟩) (by simp; omega)).trans f2_1, (hW.frozen (p := ⟨bb + 1 + 1 + 1, 0, none⟩) (by simp; omega)).trans f3_0, (hW.frozen (p := ⟨bb + 1 + 1 + 1, 1, none⟩) (by simp; omega)).trans f3_1, keepsB hW t0, keepsB hW t1, keepsB hW t2, Nat.le_trans hq0 hW.size⟩
  clear c0_0 c0_1 c0_2 c1_0 c1_1 c1_2 c1_3 c1_4 c2_0 c2_1 c3_0 c3_1 f2_0 f2_1 f3_0 f3_1 t0 t1 t2
  have FZ : ∀ W, Free.Bel W0 W → W.cell? ⟨bb + 1 + 1, 0, none⟩ = some (.int .i64 0) ∧ W.cell? ⟨bb + 1 + 1, 1, none⟩ = some (.int .i64 0) ∧ W.cell? ⟨bb + 1 + 1 + 1, 0, none⟩ = some (.int .i64 0) ∧ W.cell? ⟨bb + 1 + 1 + 1, 1, none⟩ = some (.int .i64 0) := fun W hW => by have := FA W hW; simp [this]
  go_wp2_with fail
  have hF : ∀ W, Free.Bel w1.drew W → Free.Bel W0 W := fun W hW => Free.Bel.trans _ _ _ (Bel.drewT K_w1) hW
  refine Free2.wp_free (R := Free.Bel) (J := fun _ _ => True) (by kernel_rfl) (by kernel_rfl) (Free.Bel.refl) (Free.Bel.trans) trivial ?_
  refine Free2.Chain.ex ?_ 0 rfl [] [6] (by kernel_rfl) (by kernel_rfl) rfl (Free.Bel.refl) (fun X W v h => trivial) ?_ ?_
  rotate_left
  · (intro ev W hb hR hO hD; have hS := hF W hR; obtain ⟨hb1, hb2, hb3⟩ := hb; simp only [Free.AllDeps, Free.AllOuts, Free.At, List.getElem?_cons_succ, List.getElem?_cons_zero, Array.getD_eq_getD_getElem?, List.getElem?_toArray, Option.getD_some, and_true] at hO hD; go_simp; rfl)
  simp only [List.nil_append, List.cons_append]
  refine Free2.Chain.ex ?_ 1 rfl [] [7] (by kernel_rfl) (by kernel_rfl) rfl (Free.Bel.refl) (fun X W v h => trivial) ?_ ?_
  rotate_left
  · (intro ev W hb hR hO hD; have hS := hF W hR; obtain ⟨hb1, hb2, hb3⟩ := hb; simp only [Free.AllDeps, Free.AllOuts, Free.At, List.getElem?_cons_succ, List.getElem?_cons_zero, Array.getD_eq_getD_getElem?, List.getElem?_toArray, Option.getD_some, and_true] at hO hD; go_simp; rfl)
  simp only [List.nil_append, List.cons_append]
  refine Free2.Chain.ex ?_ 2 rfl [] [8] (by kernel_rfl) (by kernel_rfl) rfl (Free.Bel.refl) (fun X W v h => trivial) ?_ ?_
  rotate_left
  · (intro ev W hb hR hO hD; have hS := hF W hR; obtain ⟨hb1, hb2, hb3⟩ := hb; simp only [Free.AllDeps, Free.AllOuts, Free.At, List.getElem?_cons_succ, List.getElem?_cons_zero, Array.getD_eq_getD_getElem?, List.getElem?_toArray, Option.getD_some, and_true] at hO hD; go_simp; rfl)
  simp only [List.nil_append, List.cons_append]
  refine Free2.Chain.pr (fun _ _ => True) 3 rfl [(0, 28), (0, 28)] [6] (by kernel_rfl) (by kernel_rfl) rfl (fun _ _ _ _ h => h) ?_ ?_
  · (intro ev W X hb hR hO hD hj hx hax; have hS := hF W hR; obtain ⟨hb1, hb2, hb3⟩ := hb; simp only [Free.AllDeps, Free.AllOuts, Free.At, List.getElem?_cons_succ, List.getElem?_cons_zero, Array.getD_eq_getD_getElem?, List.getElem?_toArray, Option.getD_some, and_true] at hO hD; simp only [Free2.AllX, and_true] at hax; go_simp; rw [noop2 (FZ W hS).1 (FZ W hS).2.1]; exact Free.Bel.refl _)
  simp only [List.nil_append, List.cons_append]
  refine Free2.Chain.pr (fun _ _ => True) 4 rfl [(1, 29), (0, 28), (1, 29)] [7] (by kernel_rfl) (by kernel_rfl) rfl (fun _ _ _ _ h => h) ?_ ?_
  · (intro ev W X hb hR hO hD hj hx hax; have hS := hF W hR; obtain ⟨hb1, hb2, hb3⟩ := hb; simp only [Free.AllDeps, Free.AllOuts, Free.At, List.getElem?_cons_succ, List.getElem?_cons_zero, Array.getD_eq_getD_getElem?, List.getElem?_toArray, Option.getD_some, and_true] at hO hD; simp only [Free2.AllX, and_true] at hax; go_simp; rw [noop2 (FZ W hS).2.2.1 (FZ W hS).2.2.2]; exact Free.Bel.refl _)
  simp only [List.nil_append, List.cons_append]
  refine Free2.Chain.ex ?_ 5 rfl [(2, 30), (0, 28), (1, 29), (2, 30)] [] (by kernel_rfl) (by kernel_rfl) rfl (Free.Bel.refl) (fun X W v h => trivial) ?_ ?_
  rotate_left
  · (intro ev W hb hR hO hD; have hS := hF W hR; obtain ⟨hb1, hb2, hb3⟩ := hb; simp only [Free.AllDeps, Free.AllOuts, Free.At, List.getElem?_cons_succ, List.getElem?_cons_zero, Array.getD_eq_getD_getElem?, List.getElem?_toArray, Option.getD_some, and_true] at hO hD; go_simp; rfl)
  simp only [List.nil_append, List.cons_append]
  intro xs w' hR hV hX
  clear hX
  simp only [Free.AllV, Free.At, List.length_cons, List.length_nil, Nat.reduceAdd, List.getElem?_cons_succ, List.getElem?_cons_zero, true_and, and_true] at hV
  simp only [Free.putsFrom, Act.put, hV, List.setIfInBounds_toArray, List.set_cons_succ, List.set_cons_zero]
  have K_e := hF w' hR
  have hz := FZ w' K_e
  go_wp2_with fail
  have hbb := HBB.out
  subst hbb
  exact bodyPost_ret (v := zz 10) (by simp [results, Tryz.results28, go_sem, zz, hz]) rfl ⟨rfl, HB0.out.trans (K_e.mono (by omega))⟩

set_option maxRecDepth 100000 in
set_option maxHeartbeats 6000000 in
theorem twice_b (N lo hi F A R S T D : Int) (w : World) (hT : TabD w) (hc : cargoB N lo hi = true) (v : Value) (hv : Hid (twiceR N lo hi D F A R S T = v)) :
    Calls Tryz.prog 28 #[.agg #[.int .i64 N, .int .i64 lo, .int .i64 hi], .agg #[.int .i64 F, .int .i64 A, .int .i64 R, .int .i64 S, .int .i64 T], .int .i64 D] w fun e w' => e = .returned v ∧ Below w.heap.size w w' := by
  have hN := (cargoB_iff N lo hi).1 hc
  have hB0 : Below w.heap.size w ((((w.alloc (.cells #[.int .i64 N, .int .i64 lo, .int .i64 hi] 28)).alloc (.cells #[.int .i64 F, .int .i64 A, .int .i64 R, .int .i64 S, .int .i64 T] 71)).alloc (.cells #[.int .i64 0, .int .i64 0] 31)).alloc (.cells #[.int .i64 0, .int .i64 0] 31)) := ((((Below.refl _ w).alloc (Nat.le_refl _) _).alloc (by simp) _).alloc (by simp; omega) _).alloc (by simp; omega) _
  have c0_0 : ((((w.alloc (.cells #[.int .i64 N, .int .i64 lo, .int .i64 hi] 28)).alloc (.cells #[.int .i64 F, .int .i64 A, .int .i64 R, .int .i64 S, .int .i64 T] 71)).alloc (.cells #[.int .i64 0, .int .i64 0] 31)).alloc (.cells #[.int .i64 0, .int .i64 0] 31)).cell? ⟨w.heap.size, 0, none⟩ = some (.int .i64 N) := by simp [go_sem]
  have c0_1 : ((((w.alloc (.cells #[.int .i64 N, .int .i64 lo, .int .i64 hi] 28)).alloc (.cells #[.int .i64 F, .int .i64 A, .int .i64 R, .int .i64 S, .int .i64 T] 71)).alloc (.cells #[.int .i64 0, .int .i64 0] 31)).alloc (.cells #[.int .i64 0, .int .i64 0] 31)).cell? ⟨w.heap.size, 1, none⟩ = some (.int .i64 lo) := by simp [go_sem]
  have c0_2 : ((((w.alloc (.cells #[.int .i64 N, .int .i64 lo, .int .i64 hi] 28)).alloc (.cells #[.int .i64 F, .int .i64 A, .int .i64 R, .int .i64 S, .int .i64 T] 71)).alloc (.cells #[.int .i64 0, .int .i64 0] 31)).alloc (.cells #[.int .i64 0, .int .i64 0] 31)).cell? ⟨w.heap.size, 2, none⟩ = some (.int .i64 hi) := by simp [go_sem]
  have c1_0 : ((((w.alloc (.cells #[.int .i64 N, .int .i64 lo, .int .i64 hi] 28)).alloc (.cells #[.int .i64 F, .int .i64 A, .int .i64 R, .int .i64 S, .int .i64 T] 71)).alloc (.cells #[.int .i64 0, .int .i64 0] 31)).alloc (.cells #[.int .i64 0, .int .i64 0] 31)).cell? ⟨w.heap.size + 1, 0, none⟩ = some (.int .i64 F) := by simp [go_sem]
  have c1_1 : ((((w.alloc (.cells #[.int .i64 N, .int .i64 lo, .int .i64 hi] 28)).alloc (.cells #[.int .i64 F, .int .i64 A, .int .i64 R, .int .i64 S, .int .i64 T] 71)).alloc (.cells #[.int .i64 0, .int .i64 0] 31)).alloc (.cells #[.int .i64 0, .int .i64 0] 31)).cell? ⟨w.heap.size + 1, 1, none⟩ = some (.int .i64 A) := by simp [go_sem]
  have c1_2 : ((((w.alloc (.cells #[.int .i64 N, .int .i64 lo, .int .i64 hi] 28)).alloc (.cells #[.int .i64 F, .int .i64 A, .int .i64 R, .int .i64 S, .int .i64 T] 71)).alloc (.cells #[.int .i64 0, .int .i64 0] 31)).alloc (.cells #[.int .i64 0, .int .i64 0] 31)).cell? ⟨w.heap.size + 1, 2, none⟩ = some (.int .i64 R) := by simp [go_sem]
  have c1_3 : ((((w.alloc (.cells #[.int .i64 N, .int .i64 lo, .int .i64 hi] 28)).alloc (.cells #[.int .i64 F, .int .i64 A, .int .i64 R, .int .i64 S, .int .i64 T] 71)).alloc (.cells #[.int .i64 0, .int .i64 0] 31)).alloc (.cells #[.int .i64 0, .int .i64 0] 31)).cell? ⟨w.heap.size + 1, 3, none⟩ = some (.int .i64 S) := by simp [go_sem]
  have c1_4 : ((((w.alloc (.cells #[.int .i64 N, .int .i64 lo, .int .i64 hi] 28)).alloc (.cells #[.int .i64 F, .int .i64 A, .int .i64 R, .int .i64 S, .int .i64 T] 71)).alloc (.cells #[.int .i64 0, .int .i64 0] 31)).alloc (.cells #[.int .i64 0, .int .i64 0] 31)).cell? ⟨w.heap.size + 1, 4, none⟩ = some (.int .i64 T) := by simp [go_sem]
  have c2_0 : ((((w.alloc (.cells #[.int .i64 N, .int .i64 lo, .int .i64 hi] 28)).alloc (.cells #[.int .i64 F, .int .i64 A, .int .i64 R, .int .i64 S, .int .i64 T] 71)).alloc (.cells #[.int .i64 0, .int .i64 0] 31)).alloc (.cells #[.int .i64 0, .int .i64 0] 31)).cell? ⟨w.heap.size + 1 + 1, 0, none⟩ = some (.int .i64 0) := by simp [go_sem]
  have c2_1 : ((((w.alloc (.cells #[.int .i64 N, .int .i64 lo, .int .i64 hi] 28)).alloc (.cells #[.int .i64 F, .int .i64 A, .int .i64 R, .int .i64 S, .int .i64 T] 71)).alloc (.cells #[.int .i64 0, .int .i64 0] 31)).alloc (.cells #[.int .i64 0, .int .i64 0] 31)).cell? ⟨w.heap.size + 1 + 1, 1, none⟩ = some (.int .i64 0) := by simp [go_sem]
  have c3_0 : ((((w.alloc (.cells #[.int .i64 N, .int .i64 lo, .int .i64 hi] 28)).alloc (.cells #[.int .i64 F, .int .i64 A, .int .i64 R, .int .i64 S, .int .i64 T] 71)).alloc (.cells #[.int .i64 0, .int .i64 0] 31)).alloc (.cells #[.int .i64 0, .int .i64 0] 31)).cell? ⟨w.heap.size + 1 + 1 + 1, 0, none⟩ = some (.int .i64 0) := by simp [go_sem]
  have c3_1 : ((((w.alloc (.cells #[.int .i64 N, .int .i64 lo, .int .i64 hi] 28)).alloc (.cells #[.int .i64 F, .int .i64 A, .int .i64 R, .int .i64 S, .int .i64 T] 71)).alloc (.cells #[.int .i64 0, .int .i64 0] 31)).alloc (.cells #[.int .i64 0, .int .i64 0] 31)).cell? ⟨w.heap.size + 1 + 1 + 1, 1, none⟩ = some (.int .i64 0) := by simp [go_sem]
  have f2_0 : ((((w.alloc (.cells #[.int .i64 N, .int .i64 lo, .int .i64 hi] 28)).alloc (.cells #[.int .i64 F, .int .i64 A, .int .i64 R, .int .i64 S, .int .i64 T] 71)).alloc (.cells #[.int .i64 0, .int .i64 0] 31)).alloc (.cells #[.int .i64 0, .int .i64 0] 31)).frozen? ⟨w.heap.size + 1 + 1, 0, none⟩ = false := by simp [go_sem]
  have f2_1 : ((((w.alloc (.cells #[.int .i64 N, .int .i64 lo, .int .i64 hi] 28)).alloc (.cells #[.int .i64 F, .int .i64 A, .int .i64 R, .int .i64 S, .int .i64 T] 71)).alloc (.cells #[.int .i64 0, .int .i64 0] 31)).alloc (.cells #[.int .i64 0, .int .i64 0] 31)).frozen? ⟨w.heap.size + 1 + 1, 1, none⟩ = false := by simp [go_sem]
  have f3_0 : ((((w.alloc (.cells #[.int .i64 N, .int .i64 lo, .int .i64 hi] 28)).alloc (.cells #[.int .i64 F, .int .i64 A, .int .i64 R, .int .i64 S, .int .i64 T] 71)).alloc (.cells #[.int .i64 0, .int .i64 0] 31)).alloc (.cells #[.int .i64 0, .int .i64 0] 31)).frozen? ⟨w.heap.size + 1 + 1 + 1, 0, none⟩ = false := by simp [go_sem]
  have f3_1 : ((((w.alloc (.cells #[.int .i64 N, .int .i64 lo, .int .i64 hi] 28)).alloc (.cells #[.int .i64 F, .int .i64 A, .int .i64 R, .int .i64 S, .int .i64 T] 71)).alloc (.cells #[.int .i64 0, .int .i64 0] 31)).alloc (.cells #[.int .i64 0, .int .i64 0] 31)).frozen? ⟨w.heap.size + 1 + 1 + 1, 1, none⟩ = false := by simp [go_sem]
  have t0 := keepsB hB0 hT.1
  have t1 := keepsB hB0 hT.2.1
  have t2 := keepsB hB0 hT.2.2
  clear hT
  go_enter Tryz.func28, Tryz.ntmps28
  go_wp2_with fail
  refine (begun_ok N lo hi _ hc).mono ?_
  rintro e w1 ⟨hb, mb, kb, cb, rfl, hH, hmb, hhb, hB1⟩
  have K_w1 : Free.Bel ((((w.alloc (.cells #[.int .i64 N, .int .i64 lo, .int .i64 hi] 28)).alloc (.cells #[.int .i64 F, .int .i64 A, .int .i64 R, .int .i64 S, .int .i64 T] 71)).alloc (.cells #[.int .i64 0, .int .i64 0] 31)).alloc (.cells #[.int .i64 0, .int .i64 0] 31)) w1 := hB1
  have HHB := Lib.hid hhb
  clear hB1 hhb
  have hq : w.heap.size + 4 = ((((w.alloc (.cells #[.int .i64 N, .int .i64 lo, .int .i64 hi] 28)).alloc (.cells #[.int .i64 F, .int .i64 A, .int .i64 R, .int .i64 S, .int .i64 T] 71)).alloc (.cells #[.int .i64 0, .int .i64 0] 31)).alloc (.cells #[.int .i64 0, .int .i64 0] 31)).heap.size := by simp
  generalize ((((w.alloc (.cells #[.int .i64 N, .int .i64 lo, .int .i64 hi] 28)).alloc (.cells #[.int .i64 F, .int .i64 A, .int .i64 R, .int .i64 S, .int .i64 T] 71)).alloc (.cells #[.int .i64 0, .int .i64 0] 31)).alloc (.cells #[.int .i64 0, .int .i64 0] 31)) = W0 at *
  generalize hbb : w.heap.size = bb at *
  have HBB := Lib.hid hbb
  clear hbb
  have HB0 := Lib.hid hB0
  have hq0 : bb + 4 ≤ W0.heap.size := by omega
  clear hB0 hq
  have FA : ∀ W, Free.Bel W0 W → W.cell? ⟨bb, 0, none⟩ = some (.int .i64 N) ∧ W.cell? ⟨bb, 1, none⟩ = some (.int .i64 lo) ∧ W.cell? ⟨bb, 2, none⟩ = some (.int .i64 hi) ∧ W.cell? ⟨bb + 1, 0, none⟩ = some (.int .i64 F) ∧ W.cell? ⟨bb + 1, 1, none⟩ = some (.int .i64 A) ∧ W.cell? ⟨bb + 1, 2, none⟩ = some (.int .i64 R) ∧ W.cell? ⟨bb + 1, 3, none⟩ = some (.int .i64 S) ∧ W.cell? ⟨bb + 1, 4, none⟩ = some (.int .i64 T) ∧ W.cell? ⟨bb + 1 + 1, 0, none⟩ = some (.int .i64 0) ∧ W.cell? ⟨bb + 1 + 1, 1, none⟩ = some (.int .i64 0) ∧ W.cell? ⟨bb + 1 + 1 + 1, 0, none⟩ = some (.int .i64 0) ∧ W.cell? ⟨bb + 1 + 1 + 1, 1, none⟩ = some (.int .i64 0) ∧ W.frozen? ⟨bb + 1 + 1, 0, none⟩ = false ∧ W.frozen? ⟨bb + 1 + 1, 1, none⟩ = false ∧ W.frozen? ⟨bb + 1 + 1 + 1, 0, none⟩ = false ∧ W.frozen? ⟨bb + 1 + 1 + 1, 1, none⟩ = false ∧ W.cell? ⟨0, 0, none⟩ = some (dblF 125) ∧ W.cell? ⟨0, 1, none⟩ = some (dblF 126) ∧ W.cell? ⟨0, 2, none⟩ = some (dblF 127) ∧ bb + 4 ≤ W.heap.size := fun W hW => ⟨keepsB hW c0_0, keepsB hW c0_1, keepsB hW c0_2, keepsB hW c1_0, keepsB hW c1_1, keepsB hW c1_2, keepsB hW c1_3, keepsB hW c1_4, keepsB hW c2_0, keepsB hW c2_1, keepsB hW c3_0, keepsB hW c3_1, (hW.frozen (p := ⟨bb + 1 + 1, 0, none⟩) (by simp; omega)).trans f2_0, (hW.frozen (p := ⟨bb + 1 + 1, 1, none⟩) (by simp; omega)).trans f2_1, (hW.frozen (p := ⟨bb + 1 + 1 + 1, 0, none⟩) (by simp; omega)).trans f3_0, (hW.frozen (p := ⟨bb + 1 + 1 + 1, 1, none⟩) (by simp; omega)).trans f3_1, keepsB hW t0, keepsB hW t1, keepsB hW t2, Nat.le_trans hq0 hW.size⟩
  clear c0_0 c0_1 c0_2 c1_0 c1_1 c1_2 c1_3 c1_4 c2_0 c2_1 c3_0 c3_1 f2_0 f2_1 f3_0 f3_1 t0 t1 t2
  obtain ⟨a0_0, a0_1, a0_2, a1_0, a1_1, a1_2, a1_3, a1_4, a2_0, a2_1, a3_0, a3_1, b2_0, b2_1, b3_0, b3_1, u0, u1, u2, aq⟩ := FA w1 K_w1
  have hm0 : W0.heap.size ≤ mb := hmb
  have HH1 := Lib.hid hH
  have HHo : ∀ W, Kept mb w1 W → Hold hb N lo hi mb kb cb W := fun W hW => HH1.out.kept hW
  have HC : ∀ W, Kept mb w1 W → W.cell? ⟨hb, 0, none⟩ = some (.int .i64 N) ∧ W.cell? ⟨hb, 3, none⟩ = some (setsV kb cb) ∧ mb < W.heap.size ∧ hb < W.heap.size := fun W hW => ⟨(HHo W hW).bags, (HHo W hW).sets, (by obtain ⟨l, hl, _⟩ := (HHo W hW).ctr.memo; exact hl.lt), lt_of_cell (HHo W hW).bags⟩
  have FB : ∀ W, Kept mb w1 W → W.cell? ⟨bb, 0, none⟩ = some (.int .i64 N) ∧ W.cell? ⟨bb, 1, none⟩ = some (.int .i64 lo) ∧ W.cell? ⟨bb, 2, none⟩ = some (.int .i64 hi) ∧ W.cell? ⟨bb + 1, 0, none⟩ = some (.int .i64 F) ∧ W.cell? ⟨bb + 1, 1, none⟩ = some (.int .i64 A) ∧ W.cell? ⟨bb + 1, 2, none⟩ = some (.int .i64 R) ∧ W.cell? ⟨bb + 1, 3, none⟩ = some (.int .i64 S) ∧ W.cell? ⟨bb + 1, 4, none⟩ = some (.int .i64 T) ∧ W.cell? ⟨bb + 1 + 1, 0, none⟩ = some (.int .i64 0) ∧ W.cell? ⟨bb + 1 + 1, 1, none⟩ = some (.int .i64 0) ∧ W.cell? ⟨bb + 1 + 1 + 1, 0, none⟩ = some (.int .i64 0) ∧ W.cell? ⟨bb + 1 + 1 + 1, 1, none⟩ = some (.int .i64 0) ∧ W.frozen? ⟨bb + 1 + 1, 0, none⟩ = false ∧ W.frozen? ⟨bb + 1 + 1, 1, none⟩ = false ∧ W.frozen? ⟨bb + 1 + 1 + 1, 0, none⟩ = false ∧ W.frozen? ⟨bb + 1 + 1 + 1, 1, none⟩ = false ∧ W.cell? ⟨0, 0, none⟩ = some (dblF 125) ∧ W.cell? ⟨0, 1, none⟩ = some (dblF 126) ∧ W.cell? ⟨0, 2, none⟩ = some (dblF 127) ∧ bb + 4 ≤ W.heap.size := fun W hW => ⟨hW.cell a0_0 (by show _ ≠ mb; simp; omega), hW.cell a0_1 (by show _ ≠ mb; simp; omega), hW.cell a0_2 (by show _ ≠ mb; simp; omega), hW.cell a1_0 (by show _ ≠ mb; simp; omega), hW.cell a1_1 (by show _ ≠ mb; simp; omega), hW.cell a1_2 (by show _ ≠ mb; simp; omega), hW.cell a1_3 (by show _ ≠ mb; simp; omega), hW.cell a1_4 (by show _ ≠ mb; simp; omega), hW.cell a2_0 (by show _ ≠ mb; simp; omega), hW.cell a2_1 (by show _ ≠ mb; simp; omega), hW.cell a3_0 (by show _ ≠ mb; simp; omega), hW.cell a3_1 (by show _ ≠ mb; simp; omega), (World.frozen?_of_block (w := w1) (a := ⟨bb + 1 + 1, 0, none⟩) (hW.block _ (by simp; omega) (by simp; omega))).trans b2_0, (World.frozen?_of_block (w := w1) (a := ⟨bb + 1 + 1, 1, none⟩) (hW.block _ (by simp; omega) (by simp; omega))).trans b2_1, (World.frozen?_of_block (w := w1) (a := ⟨bb + 1 + 1 + 1, 0, none⟩) (hW.block _ (by simp; omega) (by simp; omega))).trans b3_0, (World.frozen?_of_block (w := w1) (a := ⟨bb + 1 + 1 + 1, 1, none⟩) (hW.block _ (by simp; omega) (by simp; omega))).trans b3_1, hW.cell u0 (by show _ ≠ mb; simp; omega), hW.cell u1 (by show _ ≠ mb; simp; omega), hW.cell u2 (by show _ ≠ mb; simp; omega), Nat.le_trans aq hW.size⟩
  have FZ : ∀ W, Kept mb w1 W → W.cell? ⟨bb + 1 + 1, 0, none⟩ = some (.int .i64 0) ∧ W.cell? ⟨bb + 1 + 1, 1, none⟩ = some (.int .i64 0) ∧ W.cell? ⟨bb + 1 + 1 + 1, 0, none⟩ = some (.int .i64 0) ∧ W.cell? ⟨bb + 1 + 1 + 1, 1, none⟩ = some (.int .i64 0) := fun W hW => by have := FB W hW; simp [this]
  have HBE := Lib.hid (fun (W : World) (hW : Kept mb w1 W) => HB0.out.trans ((hW.below K_w1 hm0).mono (by omega)))
  have HK : Kept mb w1 w1 := Kept.refl _ _
  have HM := Lib.hid hm0
  clear a0_0 a0_1 a0_2 a1_0 a1_1 a1_2 a1_3 a1_4 a2_0 a2_1 a3_0 a3_1 b2_0 b2_1 b3_0 b3_1 u0 u1 u2 aq FA hH hmb K_w1
  go_wp2_with fail
  go_loopw [32] (fun i wr => ∃ k : Nat, k ≤ 3 ∧ i = .int .i64 k ∧ Hid ((0 < k → right1 N F S = true) ∧ (1 < k → right2 F A = true) ∧ (2 < k → right3 F A R S T = true)) ∧ Kept mb w1 wr) (fun i _ => 3 - (intOf i).toNat)
  case atStart => exact ⟨0, by omega, rfl, ⟨fun h => by omega, fun h => by omega, fun h => by omega⟩, HK⟩
  case round =>
    obtain ⟨k, hk, rfl, hr, HKr⟩ := hrel
    have HB1 := Lib.hid HK
    clear HK
    have HK := HKr
    clear HKr
    by_cases hlt : k < 3
    · obtain rfl | rfl | rfl : k = 0 ∨ k = 1 ∨ k = 2 := by omega
      · have hpre : 1 ≤ N ∧ N ≤ 36 := by omega
        obtain ⟨q, hq⟩ : ∃ q, right1 N F S = q := ⟨_, rfl⟩
        have HQ : Hid (right1 N F S = q) := hq
        clear hq
        have hix : ∀ W : World, (Instr.index 114 (.agg #[dblF 125, dblF 126, dblF 127]) (.int .i64 0)).run Tryz.prog W = .ok (.agg #[dblF 125]) W := fun _ => by kernel_rfl
        go_wp2_with fail
        refine with_world ?_
        intro W6 hW6
        have n0 : W6.cell? ⟨wr.heap.size, 0, none⟩ = some (dblF 125) := by rw [hW6]; simp [go_sem]
        have n1 : wr.heap.size < W6.heap.size := by rw [hW6]; simp
        have K6 : Kept mb w1 W6 := by
          have hm1 := HC wr HK
          have hs1 := HK.size
          rw [hW6]
          repeat (first | exact HK | refine Kept.alloc ?_ _ | refine Kept.setNew ?_ (by omega) (by omega))
        have hne6 : wr.heap.size ≠ mb := by have := HC wr HK; omega
        clear hW6
        have hF : ∀ W, Kept mb W6.drew W → Kept mb w1 W ∧ W.cell? ⟨wr.heap.size, 0, none⟩ = some (dblF 125) := fun W hW => ⟨(K6.drew).trans hW, hW.cell n0 hne6⟩
        clear HK
        refine Free.wp_free (R := Kept mb) (by kernel_rfl) (by kernel_rfl) (Kept.refl mb) (fun _ _ _ => Kept.trans) ?_
        refine Free.Chain.ex ?_ [] [11] (by kernel_rfl) (by kernel_rfl) rfl (Kept.refl mb) ?_ ?_
        rotate_left
        · (intro ev W hb hR hO hD; have hS := hF W hR; obtain ⟨hb1, hb2, hb3⟩ := hb; simp only [Free.AllDeps, Free.AllOuts, Free.At, List.getElem?_cons_succ, List.getElem?_cons_zero, Array.getD_eq_getD_getElem?, List.getElem?_toArray, Option.getD_some, and_true] at hO hD; obtain ⟨hS, hS2⟩ := hS; go_simp; rfl)
        simp only [List.nil_append, List.cons_append]
        refine Free.Chain.ex ?_ [(0, 35)] [] (by kernel_rfl) (by kernel_rfl) rfl (Kept.refl mb) ?_ ?_
        rotate_left
        · (intro ev W hb hR hO hD; have hS := hF W hR; obtain ⟨hb1, hb2, hb3⟩ := hb; simp only [Free.AllDeps, Free.AllOuts, Free.At, List.getElem?_cons_succ, List.getElem?_cons_zero, Array.getD_eq_getD_getElem?, List.getElem?_toArray, Option.getD_some, and_true] at hO hD; obtain ⟨hS, hS2⟩ := hS; go_simp; rfl)
        simp only [List.nil_append, List.cons_append]
        refine Free.Chain.ex ?_ [] [9] (by kernel_rfl) (by kernel_rfl) rfl (Kept.refl mb) ?_ ?_
        rotate_left
        · (intro ev W hb hR hO hD; have hS := hF W hR; obtain ⟨hb1, hb2, hb3⟩ := hb; simp only [Free.AllDeps, Free.AllOuts, Free.At, List.getElem?_cons_succ, List.getElem?_cons_zero, Array.getD_eq_getD_getElem?, List.getElem?_toArray, Option.getD_some, and_true] at hO hD; obtain ⟨hS, hS2⟩ := hS; go_simp; rfl)
        simp only [List.nil_append, List.cons_append]
        refine Free.Chain.ex ?_ [(2, 37)] [] (by kernel_rfl) (by kernel_rfl) rfl (Kept.refl mb) ?_ ?_
        rotate_left
        · (intro ev W hb hR hO hD; have hS := hF W hR; obtain ⟨hb1, hb2, hb3⟩ := hb; simp only [Free.AllDeps, Free.AllOuts, Free.At, List.getElem?_cons_succ, List.getElem?_cons_zero, Array.getD_eq_getD_getElem?, List.getElem?_toArray, Option.getD_some, and_true] at hO hD; obtain ⟨hS, hS2⟩ := hS; go_simp; rfl)
        simp only [List.nil_append, List.cons_append]
        refine Free.Chain.ex ?_ [(3, 38)] [] (by kernel_rfl) (by kernel_rfl) rfl (Kept.refl mb) ?_ ?_
        rotate_left
        · (intro ev W hb hR hO hD; have hS := hF W hR; obtain ⟨hb1, hb2, hb3⟩ := hb; simp only [Free.AllDeps, Free.AllOuts, Free.At, List.getElem?_cons_succ, List.getElem?_cons_zero, Array.getD_eq_getD_getElem?, List.getElem?_toArray, Option.getD_some, and_true] at hO hD; obtain ⟨hS, hS2⟩ := hS; go_simp; rfl)
        simp only [List.nil_append, List.cons_append]
        refine Free.Chain.ex ?_ [(4, 39)] [] (by kernel_rfl) (by kernel_rfl) rfl (Kept.refl mb) ?_ ?_
        rotate_left
        · (intro ev W hb hR hO hD; have hS := hF W hR; obtain ⟨hb1, hb2, hb3⟩ := hb; simp only [Free.AllDeps, Free.AllOuts, Free.At, List.getElem?_cons_succ, List.getElem?_cons_zero, Array.getD_eq_getD_getElem?, List.getElem?_toArray, Option.getD_some, and_true] at hO hD; obtain ⟨hS, hS2⟩ := hS; go_simp; rfl)
        simp only [List.nil_append, List.cons_append]
        refine Free.Chain.ex ?_ [(5, 40)] [] (by kernel_rfl) (by kernel_rfl) rfl (Kept.refl mb) ?_ ?_
        rotate_left
        · (intro ev W hb hR hO hD; have hS := hF W hR; obtain ⟨hb1, hb2, hb3⟩ := hb; simp only [Free.AllDeps, Free.AllOuts, Free.At, List.getElem?_cons_succ, List.getElem?_cons_zero, Array.getD_eq_getD_getElem?, List.getElem?_toArray, Option.getD_some, and_true] at hO hD; obtain ⟨hS, hS2⟩ := hS; go_simp; rfl)
        simp only [List.nil_append, List.cons_append]
        refine Free.Chain.ex ?_ [] [4] (by kernel_rfl) (by kernel_rfl) rfl (Kept.refl mb) ?_ ?_
        rotate_left
        · (intro ev W hb hR hO hD; have hS := hF W hR; obtain ⟨hb1, hb2, hb3⟩ := hb; simp only [Free.AllDeps, Free.AllOuts, Free.At, List.getElem?_cons_succ, List.getElem?_cons_zero, Array.getD_eq_getD_getElem?, List.getElem?_toArray, Option.getD_some, and_true] at hO hD; obtain ⟨hS, hS2⟩ := hS; go_simp; rfl)
        simp only [List.nil_append, List.cons_append]
        refine Free.Chain.pr (fun v _ => v = .bool q) [(1, 36), (6, 41), (7, 42)] [] (by kernel_rfl) (by kernel_rfl) rfl (fun _ _ _ _ h => h) ?_ ?_
        · (intro ev W hb hR hO hD; have hS := hF W hR; obtain ⟨hb1, hb2, hb3⟩ := hb; simp only [Free.AllDeps, Free.AllOuts, Free.At, List.getElem?_cons_succ, List.getElem?_cons_zero, Array.getD_eq_getD_getElem?, List.getElem?_toArray, Option.getD_some, and_true] at hO hD; obtain ⟨hS, hS2⟩ := hS; go_simp; refine (dbl1_any N F A R S T q _ hpre HQ).mono ?_; rintro e W1 ⟨rfl, hB1⟩; exact ⟨_, rfl, Kept.of_below hB1, rfl⟩)
        simp only [List.nil_append, List.cons_append]
        refine Free.Chain.ex ?_ [(8, 43)] [] (by kernel_rfl) (by kernel_rfl) rfl (Kept.refl mb) ?_ ?_
        rotate_left
        · (intro ev W hb hR hO hD; have hS := hF W hR; obtain ⟨hb1, hb2, hb3⟩ := hb; simp only [Free.AllDeps, Free.AllOuts, Free.At, List.getElem?_cons_succ, List.getElem?_cons_zero, Array.getD_eq_getD_getElem?, List.getElem?_toArray, Option.getD_some, and_true] at hO hD; obtain ⟨hS, hS2⟩ := hS; go_simp; rfl)
        simp only [List.nil_append, List.cons_append]
        intro xs w' hR hV
        simp only [Free.AllV, Free.At, List.length_cons, List.length_nil, Nat.reduceAdd, List.getElem?_cons_succ, List.getElem?_cons_zero, true_and] at hV
        simp only [Free.putsFrom, Act.put, hV, List.setIfInBounds_toArray, List.set_cons_succ, List.set_cons_zero]
        have HK := (hF w' hR).1
        clear hR hV hF K6 n0 n1 hne6
        cases q
        · go_wp2_with fail
          have hF : ∀ W, Kept mb w'.drew W → Kept mb w1 W := fun W hW => (HK.drew).trans hW
          refine Free2.wp_free (R := Kept mb) (J := fun _ _ => True) (by kernel_rfl) (by kernel_rfl) (Kept.refl mb) (fun _ _ _ => Kept.trans) trivial ?_
          refine Free2.Chain.ex ?_ 0 rfl [] [6] (by kernel_rfl) (by kernel_rfl) rfl (Kept.refl mb) (fun X W v h => trivial) ?_ ?_
          rotate_left
          · (intro ev W hb hR hO hD; have hS := hF W hR; obtain ⟨hb1, hb2, hb3⟩ := hb; simp only [Free.AllDeps, Free.AllOuts, Free.At, List.getElem?_cons_succ, List.getElem?_cons_zero, Array.getD_eq_getD_getElem?, List.getElem?_toArray, Option.getD_some, and_true] at hO hD; go_simp; rfl)
          simp only [List.nil_append, List.cons_append]
          refine Free2.Chain.ex ?_ 1 rfl [] [7] (by kernel_rfl) (by kernel_rfl) rfl (Kept.refl mb) (fun X W v h => trivial) ?_ ?_
          rotate_left
          · (intro ev W hb hR hO hD; have hS := hF W hR; obtain ⟨hb1, hb2, hb3⟩ := hb; simp only [Free.AllDeps, Free.AllOuts, Free.At, List.getElem?_cons_succ, List.getElem?_cons_zero, Array.getD_eq_getD_getElem?, List.getElem?_toArray, Option.getD_some, and_true] at hO hD; go_simp; rfl)
          simp only [List.nil_append, List.cons_append]
          refine Free2.Chain.pr (fun _ _ => True) 2 rfl [(0, 45), (0, 45)] [6] (by kernel_rfl) (by kernel_rfl) rfl (fun _ _ _ _ h => h) ?_ ?_
          · (intro ev W X hb hR hO hD hj hx hax; have hS := hF W hR; obtain ⟨hb1, hb2, hb3⟩ := hb; simp only [Free.AllDeps, Free.AllOuts, Free.At, List.getElem?_cons_succ, List.getElem?_cons_zero, Array.getD_eq_getD_getElem?, List.getElem?_toArray, Option.getD_some, and_true] at hO hD; simp only [Free2.AllX, and_true] at hax; go_simp; rw [noop2 (FZ W hS).1 (FZ W hS).2.1]; exact Kept.refl mb _)
          simp only [List.nil_append, List.cons_append]
          refine Free2.Chain.pr (fun _ _ => True) 3 rfl [(1, 46), (0, 45), (1, 46)] [7] (by kernel_rfl) (by kernel_rfl) rfl (fun _ _ _ _ h => h) ?_ ?_
          · (intro ev W X hb hR hO hD hj hx hax; have hS := hF W hR; obtain ⟨hb1, hb2, hb3⟩ := hb; simp only [Free.AllDeps, Free.AllOuts, Free.At, List.getElem?_cons_succ, List.getElem?_cons_zero, Array.getD_eq_getD_getElem?, List.getElem?_toArray, Option.getD_some, and_true] at hO hD; simp only [Free2.AllX, and_true] at hax; go_simp; rw [noop2 (FZ W hS).2.2.1 (FZ W hS).2.2.2]; exact Kept.refl mb _)
          simp only [List.nil_append, List.cons_append]
          refine Free2.Chain.ex ?_ 4 rfl [(0, 45), (1, 46)] [] (by kernel_rfl) (by kernel_rfl) rfl (Kept.refl mb) (fun X W v h => trivial) ?_ ?_
          rotate_left
          · (intro ev W hb hR hO hD; have hS := hF W hR; obtain ⟨hb1, hb2, hb3⟩ := hb; simp only [Free.AllDeps, Free.AllOuts, Free.At, List.getElem?_cons_succ, List.getElem?_cons_zero, Array.getD_eq_getD_getElem?, List.getElem?_toArray, Option.getD_some, and_true] at hO hD; go_simp; rfl)
          simp only [List.nil_append, List.cons_append]
          intro xs w9 hR hV hX
          clear hX
          simp only [Free.AllV, Free.At, List.length_cons, List.length_nil, Nat.reduceAdd, List.getElem?_cons_succ, List.getElem?_cons_zero, true_and, and_true] at hV
          simp only [Free.putsFrom, Act.put, hV, List.setIfInBounds_toArray, List.set_cons_succ, List.set_cons_zero]
          have HK9 := hF w9 hR
          have hz := FZ w9 HK9
          go_wp2_with fail
          have hbb := HBB.out
          subst hbb
          obtain rfl : zz 13 = v := by rw [← hv.out]; simp [twiceR, rightsB, HQ.out]
          exact bodyPost_ret (v := zz 13) (by simp [results, Tryz.results28, go_sem, zz, hz]) rfl ⟨rfl, HBE.out w9 HK9⟩
        · go_wp2_with fail
          go_roundw
          case rel => exact ⟨1, by omega, by go_num, ⟨fun _ => HQ.out, fun h => by omega, fun h => by omega⟩, HK⟩
          case measure => simp [intOf]
      · have hpre : True := trivial
        obtain ⟨q, hq⟩ : ∃ q, right2 F A = q := ⟨_, rfl⟩
        have HQ : Hid (right2 F A = q) := hq
        clear hq
        have hix : ∀ W : World, (Instr.index 114 (.agg #[dblF 125, dblF 126, dblF 127]) (.int .i64 1)).run Tryz.prog W = .ok (.agg #[dblF 126]) W := fun _ => by kernel_rfl
        go_wp2_with fail
        refine with_world ?_
        intro W6 hW6
        have n0 : W6.cell? ⟨wr.heap.size, 0, none⟩ = some (dblF 126) := by rw [hW6]; simp [go_sem]
        have n1 : wr.heap.size < W6.heap.size := by rw [hW6]; simp
        have K6 : Kept mb w1 W6 := by
          have hm1 := HC wr HK
          have hs1 := HK.size
          rw [hW6]
          repeat (first | exact HK | refine Kept.alloc ?_ _ | refine Kept.setNew ?_ (by omega) (by omega))
        have hne6 : wr.heap.size ≠ mb := by have := HC wr HK; omega
        clear hW6
        have hF : ∀ W, Kept mb W6.drew W → Kept mb w1 W ∧ W.cell? ⟨wr.heap.size, 0, none⟩ = some (dblF 126) := fun W hW => ⟨(K6.drew).trans hW, hW.cell n0 hne6⟩
        clear HK
        refine Free.wp_free (R := Kept mb) (by kernel_rfl) (by kernel_rfl) (Kept.refl mb) (fun _ _ _ => Kept.trans) ?_
        refine Free.Chain.ex ?_ [] [11] (by kernel_rfl) (by kernel_rfl) rfl (Kept.refl mb) ?_ ?_
        rotate_left
        · (intro ev W hb hR hO hD; have hS := hF W hR; obtain ⟨hb1, hb2, hb3⟩ := hb; simp only [Free.AllDeps, Free.AllOuts, Free.At, List.getElem?_cons_succ, List.getElem?_cons_zero, Array.getD_eq_getD_getElem?, List.getElem?_toArray, Option.getD_some, and_true] at hO hD; obtain ⟨hS, hS2⟩ := hS; go_simp; rfl)
        simp only [List.nil_append, List.cons_append]
        refine Free.Chain.ex ?_ [(0, 35)] [] (by kernel_rfl) (by kernel_rfl) rfl (Kept.refl mb) ?_ ?_
        rotate_left
        · (intro ev W hb hR hO hD; have hS := hF W hR; obtain ⟨hb1, hb2, hb3⟩ := hb; simp only [Free.AllDeps, Free.AllOuts, Free.At, List.getElem?_cons_succ, List.getElem?_cons_zero, Array.getD_eq_getD_getElem?, List.getElem?_toArray, Option.getD_some, and_true] at hO hD; obtain ⟨hS, hS2⟩ := hS; go_simp; rfl)
        simp only [List.nil_append, List.cons_append]
        refine Free.Chain.ex ?_ [] [9] (by kernel_rfl) (by kernel_rfl) rfl (Kept.refl mb) ?_ ?_
        rotate_left
        · (intro ev W hb hR hO hD; have hS := hF W hR; obtain ⟨hb1, hb2, hb3⟩ := hb; simp only [Free.AllDeps, Free.AllOuts, Free.At, List.getElem?_cons_succ, List.getElem?_cons_zero, Array.getD_eq_getD_getElem?, List.getElem?_toArray, Option.getD_some, and_true] at hO hD; obtain ⟨hS, hS2⟩ := hS; go_simp; rfl)
        simp only [List.nil_append, List.cons_append]
        refine Free.Chain.ex ?_ [(2, 37)] [] (by kernel_rfl) (by kernel_rfl) rfl (Kept.refl mb) ?_ ?_
        rotate_left
        · (intro ev W hb hR hO hD; have hS := hF W hR; obtain ⟨hb1, hb2, hb3⟩ := hb; simp only [Free.AllDeps, Free.AllOuts, Free.At, List.getElem?_cons_succ, List.getElem?_cons_zero, Array.getD_eq_getD_getElem?, List.getElem?_toArray, Option.getD_some, and_true] at hO hD; obtain ⟨hS, hS2⟩ := hS; go_simp; rfl)
        simp only [List.nil_append, List.cons_append]
        refine Free.Chain.ex ?_ [(3, 38)] [] (by kernel_rfl) (by kernel_rfl) rfl (Kept.refl mb) ?_ ?_
        rotate_left
        · (intro ev W hb hR hO hD; have hS := hF W hR; obtain ⟨hb1, hb2, hb3⟩ := hb; simp only [Free.AllDeps, Free.AllOuts, Free.At, List.getElem?_cons_succ, List.getElem?_cons_zero, Array.getD_eq_getD_getElem?, List.getElem?_toArray, Option.getD_some, and_true] at hO hD; obtain ⟨hS, hS2⟩ := hS; go_simp; rfl)
        simp only [List.nil_append, List.cons_append]
        refine Free.Chain.ex ?_ [(4, 39)] [] (by kernel_rfl) (by kernel_rfl) rfl (Kept.refl mb) ?_ ?_
        rotate_left
        · (intro ev W hb hR hO hD; have hS := hF W hR; obtain ⟨hb1, hb2, hb3⟩ := hb; simp only [Free.AllDeps, Free.AllOuts, Free.At, List.getElem?_cons_succ, List.getElem?_cons_zero, Array.getD_eq_getD_getElem?, List.getElem?_toArray, Option.getD_some, and_true] at hO hD; obtain ⟨hS, hS2⟩ := hS; go_simp; rfl)
        simp only [List.nil_append, List.cons_append]
        refine Free.Chain.ex ?_ [(5, 40)] [] (by kernel_rfl) (by kernel_rfl) rfl (Kept.refl mb) ?_ ?_
        rotate_left
        · (intro ev W hb hR hO hD; have hS := hF W hR; obtain ⟨hb1, hb2, hb3⟩ := hb; simp only [Free.AllDeps, Free.AllOuts, Free.At, List.getElem?_cons_succ, List.getElem?_cons_zero, Array.getD_eq_getD_getElem?, List.getElem?_toArray, Option.getD_some, and_true] at hO hD; obtain ⟨hS, hS2⟩ := hS; go_simp; rfl)
        simp only [List.nil_append, List.cons_append]
        refine Free.Chain.ex ?_ [] [4] (by kernel_rfl) (by kernel_rfl) rfl (Kept.refl mb) ?_ ?_
        rotate_left
        · (intro ev W hb hR hO hD; have hS := hF W hR; obtain ⟨hb1, hb2, hb3⟩ := hb; simp only [Free.AllDeps, Free.AllOuts, Free.At, List.getElem?_cons_succ, List.getElem?_cons_zero, Array.getD_eq_getD_getElem?, List.getElem?_toArray, Option.getD_some, and_true] at hO hD; obtain ⟨hS, hS2⟩ := hS; go_simp; rfl)
        simp only [List.nil_append, List.cons_append]
        refine Free.Chain.pr (fun v _ => v = .bool q) [(1, 36), (6, 41), (7, 42)] [] (by kernel_rfl) (by kernel_rfl) rfl (fun _ _ _ _ h => h) ?_ ?_
        · (intro ev W hb hR hO hD; have hS := hF W hR; obtain ⟨hb1, hb2, hb3⟩ := hb; simp only [Free.AllDeps, Free.AllOuts, Free.At, List.getElem?_cons_succ, List.getElem?_cons_zero, Array.getD_eq_getD_getElem?, List.getElem?_toArray, Option.getD_some, and_true] at hO hD; obtain ⟨hS, hS2⟩ := hS; go_simp; refine (dbl2_any N F A R S T q _ HQ).mono ?_; rintro e W1 ⟨rfl, hB1⟩; exact ⟨_, rfl, Kept.of_below hB1, rfl⟩)
        simp only [List.nil_append, List.cons_append]
        refine Free.Chain.ex ?_ [(8, 43)] [] (by kernel_rfl) (by kernel_rfl) rfl (Kept.refl mb) ?_ ?_
        rotate_left
        · (intro ev W hb hR hO hD; have hS := hF W hR; obtain ⟨hb1, hb2, hb3⟩ := hb; simp only [Free.AllDeps, Free.AllOuts, Free.At, List.getElem?_cons_succ, List.getElem?_cons_zero, Array.getD_eq_getD_getElem?, List.getElem?_toArray, Option.getD_some, and_true] at hO hD; obtain ⟨hS, hS2⟩ := hS; go_simp; rfl)
        simp only [List.nil_append, List.cons_append]
        intro xs w' hR hV
        simp only [Free.AllV, Free.At, List.length_cons, List.length_nil, Nat.reduceAdd, List.getElem?_cons_succ, List.getElem?_cons_zero, true_and] at hV
        simp only [Free.putsFrom, Act.put, hV, List.setIfInBounds_toArray, List.set_cons_succ, List.set_cons_zero]
        have HK := (hF w' hR).1
        clear hR hV hF K6 n0 n1 hne6
        cases q
        · go_wp2_with fail
          have hF : ∀ W, Kept mb w'.drew W → Kept mb w1 W := fun W hW => (HK.drew).trans hW
          refine Free2.wp_free (R := Kept mb) (J := fun _ _ => True) (by kernel_rfl) (by kernel_rfl) (Kept.refl mb) (fun _ _ _ => Kept.trans) trivial ?_
          refine Free2.Chain.ex ?_ 0 rfl [] [6] (by kernel_rfl) (by kernel_rfl) rfl (Kept.refl mb) (fun X W v h => trivial) ?_ ?_
          rotate_left
          · (intro ev W hb hR hO hD; have hS := hF W hR; obtain ⟨hb1, hb2, hb3⟩ := hb; simp only [Free.AllDeps, Free.AllOuts, Free.At, List.getElem?_cons_succ, List.getElem?_cons_zero, Array.getD_eq_getD_getElem?, List.getElem?_toArray, Option.getD_some, and_true] at hO hD; go_simp; rfl)
          simp only [List.nil_append, List.cons_append]
          refine Free2.Chain.ex ?_ 1 rfl [] [7] (by kernel_rfl) (by kernel_rfl) rfl (Kept.refl mb) (fun X W v h => trivial) ?_ ?_
          rotate_left
          · (intro ev W hb hR hO hD; have hS := hF W hR; obtain ⟨hb1, hb2, hb3⟩ := hb; simp only [Free.AllDeps, Free.AllOuts, Free.At, List.getElem?_cons_succ, List.getElem?_cons_zero, Array.getD_eq_getD_getElem?, List.getElem?_toArray, Option.getD_some, and_true] at hO hD; go_simp; rfl)
          simp only [List.nil_append, List.cons_append]
          refine Free2.Chain.pr (fun _ _ => True) 2 rfl [(0, 45), (0, 45)] [6] (by kernel_rfl) (by kernel_rfl) rfl (fun _ _ _ _ h => h) ?_ ?_
          · (intro ev W X hb hR hO hD hj hx hax; have hS := hF W hR; obtain ⟨hb1, hb2, hb3⟩ := hb; simp only [Free.AllDeps, Free.AllOuts, Free.At, List.getElem?_cons_succ, List.getElem?_cons_zero, Array.getD_eq_getD_getElem?, List.getElem?_toArray, Option.getD_some, and_true] at hO hD; simp only [Free2.AllX, and_true] at hax; go_simp; rw [noop2 (FZ W hS).1 (FZ W hS).2.1]; exact Kept.refl mb _)
          simp only [List.nil_append, List.cons_append]
          refine Free2.Chain.pr (fun _ _ => True) 3 rfl [(1, 46), (0, 45), (1, 46)] [7] (by kernel_rfl) (by kernel_rfl) rfl (fun _ _ _ _ h => h) ?_ ?_
          · (intro ev W X hb hR hO hD hj hx hax; have hS := hF W hR; obtain ⟨hb1, hb2, hb3⟩ := hb; simp only [Free.AllDeps, Free.AllOuts, Free.At, List.getElem?_cons_succ, List.getElem?_cons_zero, Array.getD_eq_getD_getElem?, List.getElem?_toArray, Option.getD_some, and_true] at hO hD; simp only [Free2.AllX, and_true] at hax; go_simp; rw [noop2 (FZ W hS).2.2.1 (FZ W hS).2.2.2]; exact Kept.refl mb _)
          simp only [List.nil_append, List.cons_append]
          refine Free2.Chain.ex ?_ 4 rfl [(0, 45), (1, 46)] [] (by kernel_rfl) (by kernel_rfl) rfl (Kept.refl mb) (fun X W v h => trivial) ?_ ?_
          rotate_left
          · (intro ev W hb hR hO hD; have hS := hF W hR; obtain ⟨hb1, hb2, hb3⟩ := hb; simp only [Free.AllDeps, Free.AllOuts, Free.At, List.getElem?_cons_succ, List.getElem?_cons_zero, Array.getD_eq_getD_getElem?, List.getElem?_toArray, Option.getD_some, and_true] at hO hD; go_simp; rfl)
          simp only [List.nil_append, List.cons_append]
          intro xs w9 hR hV hX
          clear hX
          simp only [Free.AllV, Free.At, List.length_cons, List.length_nil, Nat.reduceAdd, List.getElem?_cons_succ, List.getElem?_cons_zero, true_and, and_true] at hV
          simp only [Free.putsFrom, Act.put, hV, List.setIfInBounds_toArray, List.set_cons_succ, List.set_cons_zero]
          have HK9 := hF w9 hR
          have hz := FZ w9 HK9
          go_wp2_with fail
          have hbb := HBB.out
          subst hbb
          obtain rfl : zz 13 = v := by rw [← hv.out]; simp [twiceR, rightsB, hr.out.1 (by omega), HQ.out]
          exact bodyPost_ret (v := zz 13) (by simp [results, Tryz.results28, go_sem, zz, hz]) rfl ⟨rfl, HBE.out w9 HK9⟩
        · go_wp2_with fail
          go_roundw
          case rel => exact ⟨2, by omega, by go_num, ⟨fun _ => hr.out.1 (by omega), fun _ => HQ.out, fun h => by omega⟩, HK⟩
          case measure => simp [intOf]
      · have hpre : 0 ≤ F ∧ F ≤ 36 ∧ 0 ≤ A ∧ A ≤ F ∧ 0 ≤ S ∧ S ≤ 36 := by have h1 := hr.out.1 (by omega); have h2 := hr.out.2.1 (by omega); simp [right1, right2, inB] at h1 h2; omega
        obtain ⟨q, hq⟩ : ∃ q, right3 F A R S T = q := ⟨_, rfl⟩
        have HQ : Hid (right3 F A R S T = q) := hq
        clear hq
        have hix : ∀ W : World, (Instr.index 114 (.agg #[dblF 125, dblF 126, dblF 127]) (.int .i64 2)).run Tryz.prog W = .ok (.agg #[dblF 127]) W := fun _ => by kernel_rfl
        go_wp2_with fail
        refine with_world ?_
        intro W6 hW6
        have n0 : W6.cell? ⟨wr.heap.size, 0, none⟩ = some (dblF 127) := by rw [hW6]; simp [go_sem]
        have n1 : wr.heap.size < W6.heap.size := by rw [hW6]; simp
        have K6 : Kept mb w1 W6 := by
          have hm1 := HC wr HK
          have hs1 := HK.size
          rw [hW6]
          repeat (first | exact HK | refine Kept.alloc ?_ _ | refine Kept.setNew ?_ (by omega) (by omega))
        have hne6 : wr.heap.size ≠ mb := by have := HC wr HK; omega
        clear hW6
        have hF : ∀ W, Kept mb W6.drew W → Kept mb w1 W ∧ W.cell? ⟨wr.heap.size, 0, none⟩ = some (dblF 127) := fun W hW => ⟨(K6.drew).trans hW, hW.cell n0 hne6⟩
        clear HK
        refine Free.wp_free (R := Kept mb) (by kernel_rfl) (by kernel_rfl) (Kept.refl mb) (fun _ _ _ => Kept.trans) ?_
        refine Free.Chain.ex ?_ [] [11] (by kernel_rfl) (by kernel_rfl) rfl (Kept.refl mb) ?_ ?_
        rotate_left
        · (intro ev W hb hR hO hD; have hS := hF W hR; obtain ⟨hb1, hb2, hb3⟩ := hb; simp only [Free.AllDeps, Free.AllOuts, Free.At, List.getElem?_cons_succ, List.getElem?_cons_zero, Array.getD_eq_getD_getElem?, List.getElem?_toArray, Option.getD_some, and_true] at hO hD; obtain ⟨hS, hS2⟩ := hS; go_simp; rfl)
        simp only [List.nil_append, List.cons_append]
        refine Free.Chain.ex ?_ [(0, 35)] [] (by kernel_rfl) (by kernel_rfl) rfl (Kept.refl mb) ?_ ?_
        rotate_left
        · (intro ev W hb hR hO hD; have hS := hF W hR; obtain ⟨hb1, hb2, hb3⟩ := hb; simp only [Free.AllDeps, Free.AllOuts, Free.At, List.getElem?_cons_succ, List.getElem?_cons_zero, Array.getD_eq_getD_getElem?, List.getElem?_toArray, Option.getD_some, and_true] at hO hD; obtain ⟨hS, hS2⟩ := hS; go_simp; rfl)
        simp only [List.nil_append, List.cons_append]
        refine Free.Chain.ex ?_ [] [9] (by kernel_rfl) (by kernel_rfl) rfl (Kept.refl mb) ?_ ?_
        rotate_left
        · (intro ev W hb hR hO hD; have hS := hF W hR; obtain ⟨hb1, hb2, hb3⟩ := hb; simp only [Free.AllDeps, Free.AllOuts, Free.At, List.getElem?_cons_succ, List.getElem?_cons_zero, Array.getD_eq_getD_getElem?, List.getElem?_toArray, Option.getD_some, and_true] at hO hD; obtain ⟨hS, hS2⟩ := hS; go_simp; rfl)
        simp only [List.nil_append, List.cons_append]
        refine Free.Chain.ex ?_ [(2, 37)] [] (by kernel_rfl) (by kernel_rfl) rfl (Kept.refl mb) ?_ ?_
        rotate_left
        · (intro ev W hb hR hO hD; have hS := hF W hR; obtain ⟨hb1, hb2, hb3⟩ := hb; simp only [Free.AllDeps, Free.AllOuts, Free.At, List.getElem?_cons_succ, List.getElem?_cons_zero, Array.getD_eq_getD_getElem?, List.getElem?_toArray, Option.getD_some, and_true] at hO hD; obtain ⟨hS, hS2⟩ := hS; go_simp; rfl)
        simp only [List.nil_append, List.cons_append]
        refine Free.Chain.ex ?_ [(3, 38)] [] (by kernel_rfl) (by kernel_rfl) rfl (Kept.refl mb) ?_ ?_
        rotate_left
        · (intro ev W hb hR hO hD; have hS := hF W hR; obtain ⟨hb1, hb2, hb3⟩ := hb; simp only [Free.AllDeps, Free.AllOuts, Free.At, List.getElem?_cons_succ, List.getElem?_cons_zero, Array.getD_eq_getD_getElem?, List.getElem?_toArray, Option.getD_some, and_true] at hO hD; obtain ⟨hS, hS2⟩ := hS; go_simp; rfl)
        simp only [List.nil_append, List.cons_append]
        refine Free.Chain.ex ?_ [(4, 39)] [] (by kernel_rfl) (by kernel_rfl) rfl (Kept.refl mb) ?_ ?_
        rotate_left
        · (intro ev W hb hR hO hD; have hS := hF W hR; obtain ⟨hb1, hb2, hb3⟩ := hb; simp only [Free.AllDeps, Free.AllOuts, Free.At, List.getElem?_cons_succ, List.getElem?_cons_zero, Array.getD_eq_getD_getElem?, List.getElem?_toArray, Option.getD_some, and_true] at hO hD; obtain ⟨hS, hS2⟩ := hS; go_simp; rfl)
        simp only [List.nil_append, List.cons_append]
        refine Free.Chain.ex ?_ [(5, 40)] [] (by kernel_rfl) (by kernel_rfl) rfl (Kept.refl mb) ?_ ?_
        rotate_left
        · (intro ev W hb hR hO hD; have hS := hF W hR; obtain ⟨hb1, hb2, hb3⟩ := hb; simp only [Free.AllDeps, Free.AllOuts, Free.At, List.getElem?_cons_succ, List.getElem?_cons_zero, Array.getD_eq_getD_getElem?, List.getElem?_toArray, Option.getD_some, and_true] at hO hD; obtain ⟨hS, hS2⟩ := hS; go_simp; rfl)
        simp only [List.nil_append, List.cons_append]
        refine Free.Chain.ex ?_ [] [4] (by kernel_rfl) (by kernel_rfl) rfl (Kept.refl mb) ?_ ?_
        rotate_left
        · (intro ev W hb hR hO hD; have hS := hF W hR; obtain ⟨hb1, hb2, hb3⟩ := hb; simp only [Free.AllDeps, Free.AllOuts, Free.At, List.getElem?_cons_succ, List.getElem?_cons_zero, Array.getD_eq_getD_getElem?, List.getElem?_toArray, Option.getD_some, and_true] at hO hD; obtain ⟨hS, hS2⟩ := hS; go_simp; rfl)
        simp only [List.nil_append, List.cons_append]
        refine Free.Chain.pr (fun v _ => v = .bool q) [(1, 36), (6, 41), (7, 42)] [] (by kernel_rfl) (by kernel_rfl) rfl (fun _ _ _ _ h => h) ?_ ?_
        · (intro ev W hb hR hO hD; have hS := hF W hR; obtain ⟨hb1, hb2, hb3⟩ := hb; simp only [Free.AllDeps, Free.AllOuts, Free.At, List.getElem?_cons_succ, List.getElem?_cons_zero, Array.getD_eq_getD_getElem?, List.getElem?_toArray, Option.getD_some, and_true] at hO hD; obtain ⟨hS, hS2⟩ := hS; go_simp; refine (dbl3_any N F A R S T q _ hpre HQ).mono ?_; rintro e W1 ⟨rfl, hB1⟩; exact ⟨_, rfl, Kept.of_below hB1, rfl⟩)
        simp only [List.nil_append, List.cons_append]
        refine Free.Chain.ex ?_ [(8, 43)] [] (by kernel_rfl) (by kernel_rfl) rfl (Kept.refl mb) ?_ ?_
        rotate_left
        · (intro ev W hb hR hO hD; have hS := hF W hR; obtain ⟨hb1, hb2, hb3⟩ := hb; simp only [Free.AllDeps, Free.AllOuts, Free.At, List.getElem?_cons_succ, List.getElem?_cons_zero, Array.getD_eq_getD_getElem?, List.getElem?_toArray, Option.getD_some, and_true] at hO hD; obtain ⟨hS, hS2⟩ := hS; go_simp; rfl)
        simp only [List.nil_append, List.cons_append]
        intro xs w' hR hV
        simp only [Free.AllV, Free.At, List.length_cons, List.length_nil, Nat.reduceAdd, List.getElem?_cons_succ, List.getElem?_cons_zero, true_and] at hV
        simp only [Free.putsFrom, Act.put, hV, List.setIfInBounds_toArray, List.set_cons_succ, List.set_cons_zero]
        have HK := (hF w' hR).1
        clear hR hV hF K6 n0 n1 hne6
        cases q
        · go_wp2_with fail
          have hF : ∀ W, Kept mb w'.drew W → Kept mb w1 W := fun W hW => (HK.drew).trans hW
          refine Free2.wp_free (R := Kept mb) (J := fun _ _ => True) (by kernel_rfl) (by kernel_rfl) (Kept.refl mb) (fun _ _ _ => Kept.trans) trivial ?_
          refine Free2.Chain.ex ?_ 0 rfl [] [6] (by kernel_rfl) (by kernel_rfl) rfl (Kept.refl mb) (fun X W v h => trivial) ?_ ?_
          rotate_left
          · (intro ev W hb hR hO hD; have hS := hF W hR; obtain ⟨hb1, hb2, hb3⟩ := hb; simp only [Free.AllDeps, Free.AllOuts, Free.At, List.getElem?_cons_succ, List.getElem?_cons_zero, Array.getD_eq_getD_getElem?, List.getElem?_toArray, Option.getD_some, and_true] at hO hD; go_simp; rfl)
          simp only [List.nil_append, List.cons_append]
          refine Free2.Chain.ex ?_ 1 rfl [] [7] (by kernel_rfl) (by kernel_rfl) rfl (Kept.refl mb) (fun X W v h => trivial) ?_ ?_
          rotate_left
          · (intro ev W hb hR hO hD; have hS := hF W hR; obtain ⟨hb1, hb2, hb3⟩ := hb; simp only [Free.AllDeps, Free.AllOuts, Free.At, List.getElem?_cons_succ, List.getElem?_cons_zero, Array.getD_eq_getD_getElem?, List.getElem?_toArray, Option.getD_some, and_true] at hO hD; go_simp; rfl)
          simp only [List.nil_append, List.cons_append]
          refine Free2.Chain.pr (fun _ _ => True) 2 rfl [(0, 45), (0, 45)] [6] (by kernel_rfl) (by kernel_rfl) rfl (fun _ _ _ _ h => h) ?_ ?_
          · (intro ev W X hb hR hO hD hj hx hax; have hS := hF W hR; obtain ⟨hb1, hb2, hb3⟩ := hb; simp only [Free.AllDeps, Free.AllOuts, Free.At, List.getElem?_cons_succ, List.getElem?_cons_zero, Array.getD_eq_getD_getElem?, List.getElem?_toArray, Option.getD_some, and_true] at hO hD; simp only [Free2.AllX, and_true] at hax; go_simp; rw [noop2 (FZ W hS).1 (FZ W hS).2.1]; exact Kept.refl mb _)
          simp only [List.nil_append, List.cons_append]
          refine Free2.Chain.pr (fun _ _ => True) 3 rfl [(1, 46), (0, 45), (1, 46)] [7] (by kernel_rfl) (by kernel_rfl) rfl (fun _ _ _ _ h => h) ?_ ?_
          · (intro ev W X hb hR hO hD hj hx hax; have hS := hF W hR; obtain ⟨hb1, hb2, hb3⟩ := hb; simp only [Free.AllDeps, Free.AllOuts, Free.At, List.getElem?_cons_succ, List.getElem?_cons_zero, Array.getD_eq_getD_getElem?, List.getElem?_toArray, Option.getD_some, and_true] at hO hD; simp only [Free2.AllX, and_true] at hax; go_simp; rw [noop2 (FZ W hS).2.2.1 (FZ W hS).2.2.2]; exact Kept.refl mb _)
          simp only [List.nil_append, List.cons_append]
          refine Free2.Chain.ex ?_ 4 rfl [(0, 45), (1, 46)] [] (by kernel_rfl) (by kernel_rfl) rfl (Kept.refl mb) (fun X W v h => trivial) ?_ ?_
          rotate_left
          · (intro ev W hb hR hO hD; have hS := hF W hR; obtain ⟨hb1, hb2, hb3⟩ := hb; simp only [Free.AllDeps, Free.AllOuts, Free.At, List.getElem?_cons_succ, List.getElem?_cons_zero, Array.getD_eq_getD_getElem?, List.getElem?_toArray, Option.getD_some, and_true] at hO hD; go_simp; rfl)
          simp only [List.nil_append, List.cons_append]
          intro xs w9 hR hV hX
          clear hX
          simp only [Free.AllV, Free.At, List.length_cons, List.length_nil, Nat.reduceAdd, List.getElem?_cons_succ, List.getElem?_cons_zero, true_and, and_true] at hV
          simp only [Free.putsFrom, Act.put, hV, List.setIfInBounds_toArray, List.set_cons_succ, List.set_cons_zero]
          have HK9 := hF w9 hR
          have hz := FZ w9 HK9
          go_wp2_with fail
          have hbb := HBB.out
          subst hbb
          obtain rfl : zz 13 = v := by rw [← hv.out]; simp [twiceR, rightsB, hr.out.1 (by omega), hr.out.2.1 (by omega), HQ.out]
          exact bodyPost_ret (v := zz 13) (by simp [results, Tryz.results28, go_sem, zz, hz]) rfl ⟨rfl, HBE.out w9 HK9⟩
        · go_wp2_with fail
          go_roundw
          case rel => exact ⟨3, by omega, by go_num, ⟨fun _ => hr.out.1 (by omega), fun _ => hr.out.2.1 (by omega), fun _ => HQ.out⟩, HK⟩
          case measure => simp [intOf]
    · obtain rfl : k = 3 := by omega
      have hR : right1 N F S = true ∧ right2 F A = true ∧ right3 F A R S T = true := ⟨hr.out.1 (by omega), hr.out.2.1 (by omega), hr.out.2.2 (by omega)⟩
      have HRR := Lib.hid hR
      have hb0 : 0 ≤ F ∧ F ≤ N ∧ 0 ≤ S ∧ S ≤ N - F := by have h := hR.1; simp [right1, inB] at h; omega
      have hb1 : 0 ≤ A ∧ A ≤ F := by have h := hR.2.1; simp [right2, inB] at h; omega
      have hb2 : A + 1 ≤ R ∧ R ≤ F + 1 ∧ A ≤ T ∧ T ≤ R + S := by have h := hR.2.2; simp [right3, inB] at h; omega
      clear hR hlt hk
      cases hmay : inB lo hi [D]
      · have HM2 := Lib.hid hmay
        clear hmay
        go_wp2_with fail
        refine (may_any hb lo hi [D] _ 2 _ (by simp [maxLen]) (HHo _ (by repeat (first | exact HK | refine Kept.alloc ?_ _ | refine Kept.drew ?_))).lo (HHo _ (by repeat (first | exact HK | refine Kept.alloc ?_ _ | refine Kept.drew ?_))).hi (SlI.one _ _ _) (by rw [HM2.out]; rfl)).mono ?_
        rintro e w3 ⟨rfl, hB3⟩
        have K_w3 : Kept mb w1 w3 := by
          refine Kept.trans ?_ (.of_below hB3)
          repeat (first | exact HK | exact Kept.refl _ _ | refine Kept.alloc ?_ _ | refine Kept.drew ?_)
        go_wp2_with fail
        have hF : ∀ W, Kept mb w3.drew W → Kept mb w1 W := fun W hW => (K_w3.drew).trans hW
        refine Free2.wp_free (R := Kept mb) (J := fun _ _ => True) (by kernel_rfl) (by kernel_rfl) (Kept.refl mb) (fun _ _ _ => Kept.trans) trivial ?_
        refine Free2.Chain.ex ?_ 0 rfl [] [6] (by kernel_rfl) (by kernel_rfl) rfl (Kept.refl mb) (fun X W v h => trivial) ?_ ?_
        rotate_left
        · (intro ev W hb hR hO hD; have hS := hF W hR; obtain ⟨hb1, hb2, hb3⟩ := hb; simp only [Free.AllDeps, Free.AllOuts, Free.At, List.getElem?_cons_succ, List.getElem?_cons_zero, Array.getD_eq_getD_getElem?, List.getElem?_toArray, Option.getD_some, and_true] at hO hD; go_simp; rfl)
        simp only [List.nil_append, List.cons_append]
        refine Free2.Chain.ex ?_ 1 rfl [] [7] (by kernel_rfl) (by kernel_rfl) rfl (Kept.refl mb) (fun X W v h => trivial) ?_ ?_
        rotate_left
        · (intro ev W hb hR hO hD; have hS := hF W hR; obtain ⟨hb1, hb2, hb3⟩ := hb; simp only [Free.AllDeps, Free.AllOuts, Free.At, List.getElem?_cons_succ, List.getElem?_cons_zero, Array.getD_eq_getD_getElem?, List.getElem?_toArray, Option.getD_some, and_true] at hO hD; go_simp; rfl)
        simp only [List.nil_append, List.cons_append]
        refine Free2.Chain.ex ?_ 2 rfl [] [12] (by kernel_rfl) (by kernel_rfl) rfl (Kept.refl mb) (fun X W v h => trivial) ?_ ?_
        rotate_left
        · (intro ev W hb hR hO hD; have hS := hF W hR; obtain ⟨hb1, hb2, hb3⟩ := hb; simp only [Free.AllDeps, Free.AllOuts, Free.At, List.getElem?_cons_succ, List.getElem?_cons_zero, Array.getD_eq_getD_getElem?, List.getElem?_toArray, Option.getD_some, and_true] at hO hD; go_simp; rfl)
        simp only [List.nil_append, List.cons_append]
        refine Free2.Chain.pr (fun _ _ => True) 3 rfl [(0, 54), (0, 54)] [6] (by kernel_rfl) (by kernel_rfl) rfl (fun _ _ _ _ h => h) ?_ ?_
        · (intro ev W X hb hR hO hD hj hx hax; have hS := hF W hR; obtain ⟨hb1, hb2, hb3⟩ := hb; simp only [Free.AllDeps, Free.AllOuts, Free.At, List.getElem?_cons_succ, List.getElem?_cons_zero, Array.getD_eq_getD_getElem?, List.getElem?_toArray, Option.getD_some, and_true] at hO hD; simp only [Free2.AllX, and_true] at hax; go_simp; rw [noop2 (FZ W hS).1 (FZ W hS).2.1]; exact Kept.refl mb _)
        simp only [List.nil_append, List.cons_append]
        refine Free2.Chain.pr (fun _ _ => True) 4 rfl [(1, 55), (0, 54), (1, 55)] [7] (by kernel_rfl) (by kernel_rfl) rfl (fun _ _ _ _ h => h) ?_ ?_
        · (intro ev W X hb hR hO hD hj hx hax; have hS := hF W hR; obtain ⟨hb1, hb2, hb3⟩ := hb; simp only [Free.AllDeps, Free.AllOuts, Free.At, List.getElem?_cons_succ, List.getElem?_cons_zero, Array.getD_eq_getD_getElem?, List.getElem?_toArray, Option.getD_some, and_true] at hO hD; simp only [Free2.AllX, and_true] at hax; go_simp; rw [noop2 (FZ W hS).2.2.1 (FZ W hS).2.2.2]; exact Kept.refl mb _)
        simp only [List.nil_append, List.cons_append]
        refine Free2.Chain.ex ?_ 5 rfl [(2, 56), (0, 54), (1, 55), (2, 56)] [] (by kernel_rfl) (by kernel_rfl) rfl (Kept.refl mb) (fun X W v h => trivial) ?_ ?_
        rotate_left
        · (intro ev W hb hR hO hD; have hS := hF W hR; obtain ⟨hb1, hb2, hb3⟩ := hb; simp only [Free.AllDeps, Free.AllOuts, Free.At, List.getElem?_cons_succ, List.getElem?_cons_zero, Array.getD_eq_getD_getElem?, List.getElem?_toArray, Option.getD_some, and_true] at hO hD; go_simp; rfl)
        simp only [List.nil_append, List.cons_append]
        intro xs w9 hR hV hX
        clear hX
        simp only [Free.AllV, Free.At, List.length_cons, List.length_nil, Nat.reduceAdd, List.getElem?_cons_succ, List.getElem?_cons_zero, true_and, and_true] at hV
        simp only [Free.putsFrom, Act.put, hV, List.setIfInBounds_toArray, List.set_cons_succ, List.set_cons_zero]
        have HK9 := hF w9 hR
        have hz := FZ w9 HK9
        go_wp2_with fail
        have hbb := HBB.out
        subst hbb
        obtain rfl : zz 2 = v := by rw [← hv.out]; simp [twiceR, rightsB, HRR.out.1, HRR.out.2.1, HRR.out.2.2, HM2.out]
        exact bodyPost_ret (v := zz 2) (by simp [results, Tryz.results28, go_sem, zz, hz]) rfl ⟨rfl, HBE.out w9 HK9⟩
      · have HM2 := Lib.hid hmay
        have hD : lo ≤ D ∧ D ≤ hi := by simpa [inB] using hmay
        clear hmay
        go_wp2_with fail
        refine (may_any hb lo hi [D] _ 0 _ (by simp [maxLen]) (HHo _ (by repeat (first | exact HK | refine Kept.alloc ?_ _ | refine Kept.drew ?_))).lo (HHo _ (by repeat (first | exact HK | refine Kept.alloc ?_ _ | refine Kept.drew ?_))).hi (SlI.one _ _ _) (by rw [HM2.out]; rfl)).mono ?_
        rintro e w3 ⟨rfl, hB3⟩
        have K_w3 : Kept mb w1 w3 := by
          refine Kept.trans ?_ (.of_below hB3)
          repeat (first | exact HK | exact Kept.refl _ _ | refine Kept.alloc ?_ _ | refine Kept.drew ?_)
        clear hB3
        have hwr1 : IntKind.i64.wrap (N - F) = N - F := IntWalk.i64_in _ (by omega)
        go_wp2_with fail
        have hF : ∀ W, Kept mb w3.drew W → Kept mb w1 W := fun W hW => (K_w3.drew).trans hW
        refine Free.wp_free (R := Kept mb) (by kernel_rfl) (by kernel_rfl) (Kept.refl mb) (fun _ _ _ => Kept.trans) ?_
        refine Free.Chain.ex ?_ [] [9] (by kernel_rfl) (by kernel_rfl) rfl (Kept.refl mb) ?_ ?_
        rotate_left
        · (intro ev W hb hR hO hD; have hS := hF W hR; obtain ⟨hb1, hb2, hb3⟩ := hb; simp only [Free.AllDeps, Free.AllOuts, Free.At, List.getElem?_cons_succ, List.getElem?_cons_zero, Array.getD_eq_getD_getElem?, List.getElem?_toArray, Option.getD_some, and_true] at hO hD; go_simp; rfl)
        simp only [List.nil_append, List.cons_append]
        refine Free.Chain.ex ?_ [(0, 57)] [] (by kernel_rfl) (by kernel_rfl) rfl (Kept.refl mb) ?_ ?_
        rotate_left
        · (intro ev W hb hR hO hD; have hS := hF W hR; obtain ⟨hb1, hb2, hb3⟩ := hb; simp only [Free.AllDeps, Free.AllOuts, Free.At, List.getElem?_cons_succ, List.getElem?_cons_zero, Array.getD_eq_getD_getElem?, List.getElem?_toArray, Option.getD_some, and_true] at hO hD; go_simp; rfl)
        simp only [List.nil_append, List.cons_append]
        refine Free.Chain.ex ?_ [(1, 58)] [] (by kernel_rfl) (by kernel_rfl) rfl (Kept.refl mb) ?_ ?_
        rotate_left
        · (intro ev W hb hR hO hD; have hS := hF W hR; obtain ⟨hb1, hb2, hb3⟩ := hb; simp only [Free.AllDeps, Free.AllOuts, Free.At, List.getElem?_cons_succ, List.getElem?_cons_zero, Array.getD_eq_getD_getElem?, List.getElem?_toArray, Option.getD_some, and_true] at hO hD; go_simp; rfl)
        simp only [List.nil_append, List.cons_append]
        refine Free.Chain.ex ?_ [(2, 59)] [] (by kernel_rfl) (by kernel_rfl) rfl (Kept.refl mb) ?_ ?_
        rotate_left
        · (intro ev W hb hR hO hD; have hS := hF W hR; obtain ⟨hb1, hb2, hb3⟩ := hb; simp only [Free.AllDeps, Free.AllOuts, Free.At, List.getElem?_cons_succ, List.getElem?_cons_zero, Array.getD_eq_getD_getElem?, List.getElem?_toArray, Option.getD_some, and_true] at hO hD; go_simp; rfl)
        simp only [List.nil_append, List.cons_append]
        refine Free.Chain.ex ?_ [] [9] (by kernel_rfl) (by kernel_rfl) rfl (Kept.refl mb) ?_ ?_
        rotate_left
        · (intro ev W hb hR hO hD; have hS := hF W hR; obtain ⟨hb1, hb2, hb3⟩ := hb; simp only [Free.AllDeps, Free.AllOuts, Free.At, List.getElem?_cons_succ, List.getElem?_cons_zero, Array.getD_eq_getD_getElem?, List.getElem?_toArray, Option.getD_some, and_true] at hO hD; go_simp; rfl)
        simp only [List.nil_append, List.cons_append]
        refine Free.Chain.ex ?_ [(4, 61)] [] (by kernel_rfl) (by kernel_rfl) rfl (Kept.refl mb) ?_ ?_
        rotate_left
        · (intro ev W hb hR hO hD; have hS := hF W hR; obtain ⟨hb1, hb2, hb3⟩ := hb; simp only [Free.AllDeps, Free.AllOuts, Free.At, List.getElem?_cons_succ, List.getElem?_cons_zero, Array.getD_eq_getD_getElem?, List.getElem?_toArray, Option.getD_some, and_true] at hO hD; go_simp; rfl)
        simp only [List.nil_append, List.cons_append]
        refine Free.Chain.ex ?_ [(5, 62)] [] (by kernel_rfl) (by kernel_rfl) rfl (Kept.refl mb) ?_ ?_
        rotate_left
        · (intro ev W hb hR hO hD; have hS := hF W hR; obtain ⟨hb1, hb2, hb3⟩ := hb; simp only [Free.AllDeps, Free.AllOuts, Free.At, List.getElem?_cons_succ, List.getElem?_cons_zero, Array.getD_eq_getD_getElem?, List.getElem?_toArray, Option.getD_some, and_true] at hO hD; go_simp; rfl)
        simp only [List.nil_append, List.cons_append]
        refine Free.Chain.ex ?_ [(6, 63)] [] (by kernel_rfl) (by kernel_rfl) rfl (Kept.refl mb) ?_ ?_
        rotate_left
        · (intro ev W hb hR hO hD; have hS := hF W hR; obtain ⟨hb1, hb2, hb3⟩ := hb; simp only [Free.AllDeps, Free.AllOuts, Free.At, List.getElem?_cons_succ, List.getElem?_cons_zero, Array.getD_eq_getD_getElem?, List.getElem?_toArray, Option.getD_some, and_true] at hO hD; go_simp; rfl)
        simp only [List.nil_append, List.cons_append]
        refine Free.Chain.ex ?_ [(7, 64)] [] (by kernel_rfl) (by kernel_rfl) rfl (Kept.refl mb) ?_ ?_
        rotate_left
        · (intro ev W hb hR hO hD; have hS := hF W hR; obtain ⟨hb1, hb2, hb3⟩ := hb; simp only [Free.AllDeps, Free.AllOuts, Free.At, List.getElem?_cons_succ, List.getElem?_cons_zero, Array.getD_eq_getD_getElem?, List.getElem?_toArray, Option.getD_some, and_true] at hO hD; go_simp; rfl)
        simp only [List.nil_append, List.cons_append]
        refine Free.Chain.ex ?_ [] [4] (by kernel_rfl) (by kernel_rfl) rfl (Kept.refl mb) ?_ ?_
        rotate_left
        · (intro ev W hb hR hO hD; have hS := hF W hR; obtain ⟨hb1, hb2, hb3⟩ := hb; simp only [Free.AllDeps, Free.AllOuts, Free.At, List.getElem?_cons_succ, List.getElem?_cons_zero, Array.getD_eq_getD_getElem?, List.getElem?_toArray, Option.getD_some, and_true] at hO hD; go_simp; rfl)
        simp only [List.nil_append, List.cons_append]
        refine Free.Chain.ex ?_ [(9, 66)] [] (by kernel_rfl) (by kernel_rfl) rfl (Kept.refl mb) ?_ ?_
        rotate_left
        · (intro ev W hb hR hO hD; have hS := hF W hR; obtain ⟨hb1, hb2, hb3⟩ := hb; simp only [Free.AllDeps, Free.AllOuts, Free.At, List.getElem?_cons_succ, List.getElem?_cons_zero, Array.getD_eq_getD_getElem?, List.getElem?_toArray, Option.getD_some, and_true] at hO hD; go_simp; rfl)
        simp only [List.nil_append, List.cons_append]
        refine Free.Chain.ex ?_ [(8, 65), (10, 67)] [] (by kernel_rfl) (by kernel_rfl) rfl (Kept.refl mb) ?_ ?_
        rotate_left
        · (intro ev W hb hR hO hD; have hS := hF W hR; obtain ⟨hb1, hb2, hb3⟩ := hb; simp only [Free.AllDeps, Free.AllOuts, Free.At, List.getElem?_cons_succ, List.getElem?_cons_zero, Array.getD_eq_getD_getElem?, List.getElem?_toArray, Option.getD_some, and_true] at hO hD; go_simp; rfl)
        simp only [List.nil_append, List.cons_append]
        refine Free.Chain.ex ?_ [] [4] (by kernel_rfl) (by kernel_rfl) rfl (Kept.refl mb) ?_ ?_
        rotate_left
        · (intro ev W hb hR hO hD; have hS := hF W hR; obtain ⟨hb1, hb2, hb3⟩ := hb; simp only [Free.AllDeps, Free.AllOuts, Free.At, List.getElem?_cons_succ, List.getElem?_cons_zero, Array.getD_eq_getD_getElem?, List.getElem?_toArray, Option.getD_some, and_true] at hO hD; go_simp; rfl)
        simp only [List.nil_append, List.cons_append]
        refine Free.Chain.ex ?_ [(12, 69)] [] (by kernel_rfl) (by kernel_rfl) rfl (Kept.refl mb) ?_ ?_
        rotate_left
        · (intro ev W hb hR hO hD; have hS := hF W hR; obtain ⟨hb1, hb2, hb3⟩ := hb; simp only [Free.AllDeps, Free.AllOuts, Free.At, List.getElem?_cons_succ, List.getElem?_cons_zero, Array.getD_eq_getD_getElem?, List.getElem?_toArray, Option.getD_some, and_true] at hO hD; go_simp; rfl)
        simp only [List.nil_append, List.cons_append]
        refine Free.Chain.pr (fun v _ => v = .int .i64 (chI (N - F) S)) [(3, 60), (11, 68), (13, 70)] [] (by kernel_rfl) (by kernel_rfl) rfl (fun _ _ _ _ h => h) ?_ ?_
        · (intro ev W hb hR hO hD; have hS := hF W hR; obtain ⟨hb1, hb2, hb3⟩ := hb; simp only [Free.AllDeps, Free.AllOuts, Free.At, List.getElem?_cons_succ, List.getElem?_cons_zero, Array.getD_eq_getD_getElem?, List.getElem?_toArray, Option.getD_some, and_true] at hO hD; go_simp; refine yields_enter ?_; with_reducible refine (count_call (N - F) S mb kb cb _ (by omega) (HHo _ hS).ctr).mono ?_; rintro e W1 ⟨rfl, hB1⟩; exact ⟨_, rfl, hB1, rfl⟩)
        simp only [List.nil_append, List.cons_append]
        refine Free.Chain.ex ?_ [(14, 71), (14, 71), (0, 57), (1, 58), (2, 59), (3, 60), (4, 61), (5, 62), (6, 63), (7, 64), (8, 65), (9, 66), (10, 67), (11, 68), (12, 69), (13, 70), (14, 71)] [] (by kernel_rfl) (by kernel_rfl) rfl (Kept.refl mb) ?_ ?_
        rotate_left
        · (intro ev W hb hR hO hD; have hS := hF W hR; obtain ⟨hb1, hb2, hb3⟩ := hb; simp only [Free.AllDeps, Free.AllOuts, Free.At, List.getElem?_cons_succ, List.getElem?_cons_zero, Array.getD_eq_getD_getElem?, List.getElem?_toArray, Option.getD_some, and_true] at hO hD; go_simp; rfl)
        simp only [List.nil_append, List.cons_append]
        intro xs w4 hR hV
        simp only [Free.AllV, Free.At, List.length_cons, List.length_nil, Nat.reduceAdd, List.getElem?_cons_succ, List.getElem?_cons_zero, true_and] at hV
        simp only [Free.putsFrom, Act.put, hV, List.setIfInBounds_toArray, List.set_cons_succ, List.set_cons_zero]
        have HK4 := hF w4 hR
        clear hR hV hF K_w3 HK
        have hCb := chI_pow (N - F) S (by omega)
        have hC36 := chI_bound (N - F) S (by omega)
        generalize hCe : chI (N - F) S = C at *
        have HCE := Lib.hid hCe
        clear hCe hCb
        have h0N : 0 ≤ D ∧ D ≤ N := by omega
        go_wp2_with fail
        go_loopw [14, 15, 74] (fun s g i wr => ∃ k : Nat, (k : Int) ≤ R ∧ i = .int .i64 k ∧ s = .int .i64 (accI N D F A S T k) ∧ g = .int .i64 (againI N D F A k) ∧ Kept mb w1 wr) (fun _ _ i _ => (R - intOf i).toNat)
        case atStart => exact ⟨0, by omega, rfl, rfl, rfl, HK4⟩
        case round =>
          obtain ⟨k, hk, rfl, rfl, rfl, HK⟩ := hrel
          clear HK4
          have ba := accI_bound N D F A S T (by omega) h0N.1 h0N.2 hb0.1 hb0.2.1 hb0.2.2.1 k
          have bg := againI_bound N D F A (by omega) h0N.1 h0N.2 hb0.1 k
          have bh := againI_bound N D F A (by omega) h0N.1 h0N.2 hb0.1 (k + 1)
          by_cases hlt : (k : Int) < R
          · have bn := accI_bound N D F A S T (by omega) h0N.1 h0N.2 hb0.1 hb0.2.1 hb0.2.2.1 (k + 1)
            have bw := waysI_bound N D F k (by omega) h0N.1 h0N.2
            have HST := Lib.hid (show accI N D F A S T (k + 1) = accI N D F A S T k + waysI N D F k * restI N D F A S T k ∧ againI N D F A (k + 1) = againI N D F A k + (if (k : Int) ≤ A then 0 else waysI N D F k) from ⟨rfl, rfl⟩)
            have HWN := Lib.hid (ways_ne N D F k h0N.1 h0N.2)
            have HIN := Lib.hid (inner_bound N D F A S T (by omega) h0N.1 h0N.2 hb0.1 hb0.2.1 hb0.2.2.1 k)
            go_wp2_with fail
            refine (ways_any hb N lo hi D F k mb kb cb _ (HHo _ HK) (by omega) (by omega) (by omega) (by omega) (by omega)).mono ?_
            rintro e w5 ⟨rfl, hK5⟩
            have K_w5 : Kept mb w1 w5 := by
              refine Kept.trans ?_ hK5
              repeat (first | exact HK | exact Kept.refl _ _ | refine Kept.alloc ?_ _ | refine Kept.drew ?_)
            clear hK5 HK
            rw [HST.out.1] at bn
            rw [HST.out.2] at bh
            generalize hge : waysI N D F k = g at *
            have HGE := Lib.hid hge
            clear hge
            generalize hae : accI N D F A S T k = a at *
            generalize hge : againI N D F A k = g2 at *
            have HAE := Lib.hid (And.intro hae hge)
            clear hae hge
            by_cases hg0 : g = 0
            · subst hg0
              go_wp2_with fail
              go_roundw
              case rel => exact ⟨k + 1, by omega, by go_num, by rw [HST.out.1]; simp, by rw [HST.out.2]; simp, K_w5⟩
              case measure => simp [intOf]; omega
            · have hg1 := HWN.out hg0
              have hg00 : (g == 0) = false := by simpa using hg0
              by_cases hkA : (k : Int) ≤ A
              · have hrest : Hid (restI N D F A S T k = C) := by show _ = _; rw [restI, if_pos hkA, HCE.out]
                rw [hrest.out] at bn
                have bm : 0 ≤ g * C ∧ g * C ≤ 5000000000000000000 := ⟨Int.mul_nonneg bw.1 hC36.1, by omega⟩
                go_wp2_with fail
                go_roundw
                case rel => exact ⟨k + 1, by omega, by go_num, by rw [HST.out.1, hrest.out], by rw [HST.out.2, if_pos hkA]; simp, K_w5⟩
                case measure => simp [intOf]; omega
              · rw [if_neg hkA] at bh
                have HST2 := Lib.hid (show restI N D F A S T k = fewI (N - F) (D - k) S (min S (T - k) + 1).toNat by rw [restI, if_neg hkA])
                go_wp2_with fail
                have hF : ∀ W, KeptB w5.heap.size mb w5.drew W → Kept mb w1 W ∧ w5.heap.size ≤ W.heap.size := fun W hW => ⟨(K_w5.drew).trans (hW.kept (Nat.le_refl _)), hW.size⟩
                refine Free2.wp_free (R := KeptB w5.heap.size mb) (J := LB mb w5.heap.size 14 15 (.cells #[.int .i64 0, .int .i64 0, .int .i64 0, Value.nilFunc] 86) (.cells #[.int .i64 (N - F), .int .i64 0, .int .i64 0, setsV kb cb] 86)) (by kernel_rfl) (by kernel_rfl) (KeptB.refl _ _) (fun _ _ _ => KeptB.trans) LB.start ?_
                refine Free2.Chain.ex ?_ 0 rfl [] [9] (by kernel_rfl) (by kernel_rfl) rfl (KeptB.refl _ _) (fun X W v h => LB.skip h 0 v (show (0 : Nat) ≠ 14 by decide) (show (0 : Nat) ≠ 15 by decide)) ?_ ?_
                rotate_left
                · (intro ev W hb hR hO hD; have hS := hF W hR; obtain ⟨hb1, hb2, hb3⟩ := hb; simp only [Free.AllDeps, Free.AllOuts, Free.At, List.getElem?_cons_succ, List.getElem?_cons_zero, Array.getD_eq_getD_getElem?, List.getElem?_toArray, Option.getD_some, and_true] at hO hD; obtain ⟨hS, hS2⟩ := hS; go_simp; rfl)
                simp only [List.nil_append, List.cons_append]
                refine Free2.Chain.ex ?_ 1 rfl [(0, 87)] [] (by kernel_rfl) (by kernel_rfl) rfl (KeptB.refl _ _) (fun X W v h => LB.skip h 1 v (show (1 : Nat) ≠ 14 by decide) (show (1 : Nat) ≠ 15 by decide)) ?_ ?_
                rotate_left
                · (intro ev W hb hR hO hD; have hS := hF W hR; obtain ⟨hb1, hb2, hb3⟩ := hb; simp only [Free.AllDeps, Free.AllOuts, Free.At, List.getElem?_cons_succ, List.getElem?_cons_zero, Array.getD_eq_getD_getElem?, List.getElem?_toArray, Option.getD_some, and_true] at hO hD; obtain ⟨hS, hS2⟩ := hS; go_simp; rfl)
                simp only [List.nil_append, List.cons_append]
                refine Free2.Chain.ex ?_ 2 rfl [(1, 88)] [] (by kernel_rfl) (by kernel_rfl) rfl (KeptB.refl _ _) (fun X W v h => LB.skip h 2 v (show (2 : Nat) ≠ 14 by decide) (show (2 : Nat) ≠ 15 by decide)) ?_ ?_
                rotate_left
                · (intro ev W hb hR hO hD; have hS := hF W hR; obtain ⟨hb1, hb2, hb3⟩ := hb; simp only [Free.AllDeps, Free.AllOuts, Free.At, List.getElem?_cons_succ, List.getElem?_cons_zero, Array.getD_eq_getD_getElem?, List.getElem?_toArray, Option.getD_some, and_true] at hO hD; obtain ⟨hS, hS2⟩ := hS; go_simp; rfl)
                simp only [List.nil_append, List.cons_append]
                refine Free2.Chain.ex ?_ 3 rfl [(2, 89)] [] (by kernel_rfl) (by kernel_rfl) rfl (KeptB.refl _ _) (fun X W v h => LB.skip h 3 v (show (3 : Nat) ≠ 14 by decide) (show (3 : Nat) ≠ 15 by decide)) ?_ ?_
                rotate_left
                · (intro ev W hb hR hO hD; have hS := hF W hR; obtain ⟨hb1, hb2, hb3⟩ := hb; simp only [Free.AllDeps, Free.AllOuts, Free.At, List.getElem?_cons_succ, List.getElem?_cons_zero, Array.getD_eq_getD_getElem?, List.getElem?_toArray, Option.getD_some, and_true] at hO hD; obtain ⟨hS, hS2⟩ := hS; go_simp; rfl)
                simp only [List.nil_append, List.cons_append]
                refine Free2.Chain.ex ?_ 4 rfl [(3, 90)] [] (by kernel_rfl) (by kernel_rfl) rfl (KeptB.refl _ _) (fun X W v h => LB.skip h 4 v (show (4 : Nat) ≠ 14 by decide) (show (4 : Nat) ≠ 15 by decide)) ?_ ?_
                rotate_left
                · (intro ev W hb hR hO hD; have hS := hF W hR; obtain ⟨hb1, hb2, hb3⟩ := hb; simp only [Free.AllDeps, Free.AllOuts, Free.At, List.getElem?_cons_succ, List.getElem?_cons_zero, Array.getD_eq_getD_getElem?, List.getElem?_toArray, Option.getD_some, and_true] at hO hD; obtain ⟨hS, hS2⟩ := hS; go_simp; rfl)
                simp only [List.nil_append, List.cons_append]
                refine Free2.Chain.ex ?_ 5 rfl [] [4] (by kernel_rfl) (by kernel_rfl) rfl (KeptB.refl _ _) (fun X W v h => LB.skip h 5 v (show (5 : Nat) ≠ 14 by decide) (show (5 : Nat) ≠ 15 by decide)) ?_ ?_
                rotate_left
                · (intro ev W hb hR hO hD; have hS := hF W hR; obtain ⟨hb1, hb2, hb3⟩ := hb; simp only [Free.AllDeps, Free.AllOuts, Free.At, List.getElem?_cons_succ, List.getElem?_cons_zero, Array.getD_eq_getD_getElem?, List.getElem?_toArray, Option.getD_some, and_true] at hO hD; obtain ⟨hS, hS2⟩ := hS; go_simp; rfl)
                simp only [List.nil_append, List.cons_append]
                refine Free2.Chain.ex ?_ 6 rfl [(5, 92)] [] (by kernel_rfl) (by kernel_rfl) rfl (KeptB.refl _ _) (fun X W v h => LB.skip h 6 v (show (6 : Nat) ≠ 14 by decide) (show (6 : Nat) ≠ 15 by decide)) ?_ ?_
                rotate_left
                · (intro ev W hb hR hO hD; have hS := hF W hR; obtain ⟨hb1, hb2, hb3⟩ := hb; simp only [Free.AllDeps, Free.AllOuts, Free.At, List.getElem?_cons_succ, List.getElem?_cons_zero, Array.getD_eq_getD_getElem?, List.getElem?_toArray, Option.getD_some, and_true] at hO hD; obtain ⟨hS, hS2⟩ := hS; go_simp; rfl)
                simp only [List.nil_append, List.cons_append]
                refine Free2.Chain.ex ?_ 7 rfl [(4, 91), (6, 93)] [] (by kernel_rfl) (by kernel_rfl) rfl (KeptB.refl _ _) (fun X W v h => LB.skip h 7 v (show (7 : Nat) ≠ 14 by decide) (show (7 : Nat) ≠ 15 by decide)) ?_ ?_
                rotate_left
                · (intro ev W hb hR hO hD; have hS := hF W hR; obtain ⟨hb1, hb2, hb3⟩ := hb; simp only [Free.AllDeps, Free.AllOuts, Free.At, List.getElem?_cons_succ, List.getElem?_cons_zero, Array.getD_eq_getD_getElem?, List.getElem?_toArray, Option.getD_some, and_true] at hO hD; obtain ⟨hS, hS2⟩ := hS; go_simp; rfl)
                simp only [List.nil_append, List.cons_append]
                refine Free2.Chain.ex ?_ 8 rfl [(7, 94)] [] (by kernel_rfl) (by kernel_rfl) rfl (KeptB.refl _ _) (fun X W v h => LB.skip h 8 v (show (8 : Nat) ≠ 14 by decide) (show (8 : Nat) ≠ 15 by decide)) ?_ ?_
                rotate_left
                · (intro ev W hb hR hO hD; have hS := hF W hR; obtain ⟨hb1, hb2, hb3⟩ := hb; simp only [Free.AllDeps, Free.AllOuts, Free.At, List.getElem?_cons_succ, List.getElem?_cons_zero, Array.getD_eq_getD_getElem?, List.getElem?_toArray, Option.getD_some, and_true] at hO hD; obtain ⟨hS, hS2⟩ := hS; go_simp; rfl)
                simp only [List.nil_append, List.cons_append]
                refine Free2.Chain.ex ?_ 9 rfl [] [9] (by kernel_rfl) (by kernel_rfl) rfl (KeptB.refl _ _) (fun X W v h => LB.skip h 9 v (show (9 : Nat) ≠ 14 by decide) (show (9 : Nat) ≠ 15 by decide)) ?_ ?_
                rotate_left
                · (intro ev W hb hR hO hD; have hS := hF W hR; obtain ⟨hb1, hb2, hb3⟩ := hb; simp only [Free.AllDeps, Free.AllOuts, Free.At, List.getElem?_cons_succ, List.getElem?_cons_zero, Array.getD_eq_getD_getElem?, List.getElem?_toArray, Option.getD_some, and_true] at hO hD; obtain ⟨hS, hS2⟩ := hS; go_simp; rfl)
                simp only [List.nil_append, List.cons_append]
                refine Free2.Chain.ex ?_ 10 rfl [(9, 96)] [] (by kernel_rfl) (by kernel_rfl) rfl (KeptB.refl _ _) (fun X W v h => LB.skip h 10 v (show (10 : Nat) ≠ 14 by decide) (show (10 : Nat) ≠ 15 by decide)) ?_ ?_
                rotate_left
                · (intro ev W hb hR hO hD; have hS := hF W hR; obtain ⟨hb1, hb2, hb3⟩ := hb; simp only [Free.AllDeps, Free.AllOuts, Free.At, List.getElem?_cons_succ, List.getElem?_cons_zero, Array.getD_eq_getD_getElem?, List.getElem?_toArray, Option.getD_some, and_true] at hO hD; obtain ⟨hS, hS2⟩ := hS; go_simp; rfl)
                simp only [List.nil_append, List.cons_append]
                refine Free2.Chain.ex ?_ 11 rfl [(10, 97)] [] (by kernel_rfl) (by kernel_rfl) rfl (KeptB.refl _ _) (fun X W v h => LB.skip h 11 v (show (11 : Nat) ≠ 14 by decide) (show (11 : Nat) ≠ 15 by decide)) ?_ ?_
                rotate_left
                · (intro ev W hb hR hO hD; have hS := hF W hR; obtain ⟨hb1, hb2, hb3⟩ := hb; simp only [Free.AllDeps, Free.AllOuts, Free.At, List.getElem?_cons_succ, List.getElem?_cons_zero, Array.getD_eq_getD_getElem?, List.getElem?_toArray, Option.getD_some, and_true] at hO hD; obtain ⟨hS, hS2⟩ := hS; go_simp; rfl)
                simp only [List.nil_append, List.cons_append]
                refine Free2.Chain.ex ?_ 12 rfl [(11, 98)] [] (by kernel_rfl) (by kernel_rfl) rfl (KeptB.refl _ _) (fun X W v h => LB.skip h 12 v (show (12 : Nat) ≠ 14 by decide) (show (12 : Nat) ≠ 15 by decide)) ?_ ?_
                rotate_left
                · (intro ev W hb hR hO hD; have hS := hF W hR; obtain ⟨hb1, hb2, hb3⟩ := hb; simp only [Free.AllDeps, Free.AllOuts, Free.At, List.getElem?_cons_succ, List.getElem?_cons_zero, Array.getD_eq_getD_getElem?, List.getElem?_toArray, Option.getD_some, and_true] at hO hD; obtain ⟨hS, hS2⟩ := hS; go_simp; rfl)
                simp only [List.nil_append, List.cons_append]
                refine Free2.Chain.ex ?_ 13 rfl [(8, 95), (12, 99)] [] (by kernel_rfl) (by kernel_rfl) rfl (KeptB.refl _ _) (fun X W v h => LB.skip h 13 v (show (13 : Nat) ≠ 14 by decide) (show (13 : Nat) ≠ 15 by decide)) ?_ ?_
                rotate_left
                · (intro ev W hb hR hO hD; have hS := hF W hR; obtain ⟨hb1, hb2, hb3⟩ := hb; simp only [Free.AllDeps, Free.AllOuts, Free.At, List.getElem?_cons_succ, List.getElem?_cons_zero, Array.getD_eq_getD_getElem?, List.getElem?_toArray, Option.getD_some, and_true] at hO hD; obtain ⟨hS, hS2⟩ := hS; go_simp; rfl)
                simp only [List.nil_append, List.cons_append]
                refine Free2.Chain.pr (fun v _ => ∃ b, v = ptr b) 14 rfl [] [] (by kernel_rfl) (by kernel_rfl) rfl (fun _ _ _ _ h => h) ?_ ?_
                · (intro ev W X hb hR hO hD hj hx hax; have hS := hF W hR; obtain ⟨hb1, hb2, hb3⟩ := hb; simp only [Free.AllDeps, Free.AllOuts, Free.At, List.getElem?_cons_succ, List.getElem?_cons_zero, Array.getD_eq_getD_getElem?, List.getElem?_toArray, Option.getD_some, and_true] at hO hD; simp only [Free2.AllX, and_true] at hax; obtain ⟨hS, hS2⟩ := hS; have hc := HC W hS; go_simp; exact ⟨KeptB.of_kept ((Kept.refl _ _).alloc _) hS2, ⟨_, rfl⟩, hj.new (by decide) hx hS2 (by omega)⟩)
                simp only [List.nil_append, List.cons_append]
                refine Free2.Chain.pr (fun _ _ => True) 15 rfl [(14, 18), (13, 100), (0, 87), (1, 88), (2, 89), (3, 90), (4, 91), (5, 92), (6, 93), (7, 94), (8, 95), (9, 96), (10, 97), (11, 98), (12, 99), (13, 100), (14, 18)] [] (by kernel_rfl) (by kernel_rfl) rfl (fun _ _ _ _ h => h) ?_ ?_
                · (intro ev W X hb hR hO hD hj hx hax; have hS := hF W hR; obtain ⟨hb1, hb2, hb3⟩ := hb; simp only [Free.AllDeps, Free.AllOuts, Free.At, List.getElem?_cons_succ, List.getElem?_cons_zero, Array.getD_eq_getD_getElem?, List.getElem?_toArray, Option.getD_some, and_true] at hO hD; simp only [Free2.AllX, and_true] at hax; obtain ⟨hS, hS2⟩ := hS; obtain ⟨b, hb9, hs0, hbm, hbl⟩ := hj.at_ hax.1 hx; have hX := hax.1; rw [hb9] at hX; have q0 := cell_of_heap (o := 0) hbl rfl; have q1 := cell_of_heap (o := 1) hbl rfl; have q2 := cell_of_heap (o := 2) hbl rfl; have q3 := cell_of_heap (o := 3) hbl rfl; have p0 := frozen_of_heap (o := 0) hbl; have p1 := frozen_of_heap (o := 1) hbl; have p2 := frozen_of_heap (o := 2) hbl; have p3 := frozen_of_heap (o := 3) hbl; go_simp; exact ⟨(((KeptB.setNew hs0 hbm).trans (KeptB.setNew hs0 hbm)).trans (KeptB.setNew hs0 hbm)).trans (KeptB.setNew hs0 hbm), hj.stored (by decide) hX hs0 hbm (heap_setCell_same _ (heap_setCell_same _ (heap_setCell_same _ (heap_setCell_same _ hbl)))) _⟩)
                simp only [List.nil_append, List.cons_append]
                intro xs w6 hR hV hX
                obtain ⟨X, hj, hxx⟩ := hX
                obtain ⟨rb, hrb, hrs, hrm, hrh⟩ := hj.done (hxx 14 (show (14 : Nat) < 16 by decide)) (hxx 15 (show (15 : Nat) < 16 by decide))
                have hrb2 : xs 14 = .pointer (some ⟨rb, 0, none⟩) := hrb
                simp only [Free.AllV, Free.At, List.length_cons, List.length_nil, Nat.reduceAdd, List.getElem?_cons_succ, List.getElem?_cons_zero, true_and, and_true] at hV
                simp only [Free.putsFrom, Act.put, hV, hrb2, List.setIfInBounds_toArray, List.set_cons_succ, List.set_cons_zero]
                have K_w6 : Kept mb w1 w6 := (hF w6 hR).1
                have HR6 := Lib.hid (show Hold rb (N - F) 0 0 mb kb cb w6 from ⟨(HHo w6 K_w6).ctr, cell_of_heap hrh rfl, cell_of_heap hrh rfl, cell_of_heap hrh rfl, cell_of_heap hrh rfl⟩)
                have HRR6 := Lib.hid (fun (W : World) (hW : Kept mb w6 W) => HR6.out.kept hW)
                clear hR hV hj hxx hrh hF hrb hrb2 K_w5
                by_cases hmin : S ≤ T - k
                · have HMm := Lib.hid (show min S (T - k) = S by omega)
                  go_wp2_with fail
                  go_loopw [14, 109] (fun s i wr => ∃ m : Nat, m ≤ (S + 1).toNat ∧ i = .int .i64 m ∧ s = .int .i64 (a + g * fewI (N - F) (D - k) S m) ∧ Kept mb w6 wr) (fun _ i _ => (S + 1 - intOf i).toNat)
                  case atStart => exact ⟨0, Nat.zero_le _, rfl, by simp [fewI, midI], Kept.refl _ _⟩
                  case round =>
                    obtain ⟨m, hm, rfl, rfl, HK6⟩ := hrel
                    have HK : Kept mb w1 wr := K_w6.trans HK6
                    have c1 := HIN.out hg0 m
                    have c2 := HIN.out hg0 (m + 1)
                    have hfs := Lib.hid (fewI_succ (N - F) (D - k) S m)
                    by_cases hlt2 : (m : Int) < S + 1
                    · have cw := waysI_bound (N - F) (D - k) S m (by omega) (by omega) (by omega)
                      rw [hfs.out, Int.mul_add, ← Int.add_assoc] at c2
                      go_wp2_with fail
                      refine (ways_any rb (N - F) 0 0 (D - k) S m mb kb cb _ (HRR6.out _ HK6) (by omega) (by omega) (by omega) (by omega) (by omega)).mono ?_
                      rintro e w7 ⟨rfl, hK7⟩
                      have HK7 := HK6.trans hK7
                      clear hK7
                      generalize waysI (N - F) (D - k) S m = w2 at *
                      generalize hse : a + g * fewI (N - F) (D - k) S m = s at *
                      have HSE := Lib.hid hse
                      clear hse
                      have cm : 0 ≤ g * w2 ∧ g * w2 ≤ 5000000000000000000 := ⟨Int.mul_nonneg bw.1 cw.1, by omega⟩
                      go_wp2_with fail
                      go_roundw
                      case rel => exact ⟨m + 1, by omega, by go_num, by rw [hfs.out, Int.mul_add, ← Int.add_assoc, HSE.out], HK7⟩
                      case measure => simp [intOf]; omega
                    · have hme := Lib.hid (show m = (S + 1).toNat by omega)
                      have hrest := Lib.hid (show restI N D F A S T k = fewI (N - F) (D - k) S m by rw [HST2.out, HMm.out, hme.out])
                      generalize hse : a + g * fewI (N - F) (D - k) S m = s at *
                      have HSE := Lib.hid hse
                      clear hse
                      go_wp2_with fail
                      go_roundw
                      case rel => exact ⟨k + 1, by omega, by go_num, by rw [HST.out.1, hrest.out, HSE.out], by rw [HST.out.2, if_neg (by omega)], HK⟩
                      case measure => simp [intOf]; omega
                · have HMm := Lib.hid (show min S (T - k) = (T - k) by omega)
                  go_wp2_with fail
                  go_loopw [14, 109] (fun s i wr => ∃ m : Nat, m ≤ ((T - k) + 1).toNat ∧ i = .int .i64 m ∧ s = .int .i64 (a + g * fewI (N - F) (D - k) S m) ∧ Kept mb w6 wr) (fun _ i _ => ((T - k) + 1 - intOf i).toNat)
                  case atStart => exact ⟨0, Nat.zero_le _, rfl, by simp [fewI, midI], Kept.refl _ _⟩
                  case round =>
                    obtain ⟨m, hm, rfl, rfl, HK6⟩ := hrel
                    have HK : Kept mb w1 wr := K_w6.trans HK6
                    have c1 := HIN.out hg0 m
                    have c2 := HIN.out hg0 (m + 1)
                    have hfs := Lib.hid (fewI_succ (N - F) (D - k) S m)
                    by_cases hlt2 : (m : Int) < (T - k) + 1
                    · have cw := waysI_bound (N - F) (D - k) S m (by omega) (by omega) (by omega)
                      rw [hfs.out, Int.mul_add, ← Int.add_assoc] at c2
                      go_wp2_with fail
                      refine (ways_any rb (N - F) 0 0 (D - k) S m mb kb cb _ (HRR6.out _ HK6) (by omega) (by omega) (by omega) (by omega) (by omega)).mono ?_
                      rintro e w7 ⟨rfl, hK7⟩
                      have HK7 := HK6.trans hK7
                      clear hK7
                      generalize waysI (N - F) (D - k) S m = w2 at *
                      generalize hse : a + g * fewI (N - F) (D - k) S m = s at *
                      have HSE := Lib.hid hse
                      clear hse
                      have cm : 0 ≤ g * w2 ∧ g * w2 ≤ 5000000000000000000 := ⟨Int.mul_nonneg bw.1 cw.1, by omega⟩
                      go_wp2_with fail
                      go_roundw
                      case rel => exact ⟨m + 1, by omega, by go_num, by rw [hfs.out, Int.mul_add, ← Int.add_assoc, HSE.out], HK7⟩
                      case measure => simp [intOf]; omega
                    · have hme := Lib.hid (show m = ((T - k) + 1).toNat by omega)
                      have hrest := Lib.hid (show restI N D F A S T k = fewI (N - F) (D - k) S m by rw [HST2.out, HMm.out, hme.out])
                      generalize hse : a + g * fewI (N - F) (D - k) S m = s at *
                      have HSE := Lib.hid hse
                      clear hse
                      go_wp2_with fail
                      go_roundw
                      case rel => exact ⟨k + 1, by omega, by go_num, by rw [HST.out.1, hrest.out, HSE.out], by rw [HST.out.2, if_neg (by omega)], HK⟩
                      case measure => simp [intOf]; omega
          · have hke := Lib.hid (show k = R.toNat by omega)
            have hOb := chI_pos N F (by omega) (by omega) hb0.1 hb0.2.1
            have hCb := chI_pos (N - F) S (by omega) (by omega) hb0.2.2.1 hb0.2.2.2
            have hOC := chI_three N F S (by omega) hb0.1 hb0.2.1
            rw [HCE.out] at hOC hCb
            generalize hae : accI N D F A S T k = a at *
            generalize hge : againI N D F A k = g2 at *
            have HAE := Lib.hid (And.intro hae hge)
            clear hae hge
            go_wp2_with fail
            have hF : ∀ W, Kept mb wr.drew W → Kept mb w1 W := fun W hW => (HK.drew).trans hW
            refine Free.wp_free (R := Kept mb) (by kernel_rfl) (by kernel_rfl) (Kept.refl mb) (fun _ _ _ => Kept.trans) ?_
            refine Free.Chain.ex ?_ [] [9] (by kernel_rfl) (by kernel_rfl) rfl (Kept.refl mb) ?_ ?_
            rotate_left
            · (intro ev W hb hR hO hD; have hS := hF W hR; obtain ⟨hb1, hb2, hb3⟩ := hb; simp only [Free.AllDeps, Free.AllOuts, Free.At, List.getElem?_cons_succ, List.getElem?_cons_zero, Array.getD_eq_getD_getElem?, List.getElem?_toArray, Option.getD_some, and_true] at hO hD; go_simp; rfl)
            simp only [List.nil_append, List.cons_append]
            refine Free.Chain.ex ?_ [(0, 139)] [] (by kernel_rfl) (by kernel_rfl) rfl (Kept.refl mb) ?_ ?_
            rotate_left
            · (intro ev W hb hR hO hD; have hS := hF W hR; obtain ⟨hb1, hb2, hb3⟩ := hb; simp only [Free.AllDeps, Free.AllOuts, Free.At, List.getElem?_cons_succ, List.getElem?_cons_zero, Array.getD_eq_getD_getElem?, List.getElem?_toArray, Option.getD_some, and_true] at hO hD; go_simp; rfl)
            simp only [List.nil_append, List.cons_append]
            refine Free.Chain.ex ?_ [(1, 140)] [] (by kernel_rfl) (by kernel_rfl) rfl (Kept.refl mb) ?_ ?_
            rotate_left
            · (intro ev W hb hR hO hD; have hS := hF W hR; obtain ⟨hb1, hb2, hb3⟩ := hb; simp only [Free.AllDeps, Free.AllOuts, Free.At, List.getElem?_cons_succ, List.getElem?_cons_zero, Array.getD_eq_getD_getElem?, List.getElem?_toArray, Option.getD_some, and_true] at hO hD; go_simp; rfl)
            simp only [List.nil_append, List.cons_append]
            refine Free.Chain.ex ?_ [(2, 141)] [] (by kernel_rfl) (by kernel_rfl) rfl (Kept.refl mb) ?_ ?_
            rotate_left
            · (intro ev W hb hR hO hD; have hS := hF W hR; obtain ⟨hb1, hb2, hb3⟩ := hb; simp only [Free.AllDeps, Free.AllOuts, Free.At, List.getElem?_cons_succ, List.getElem?_cons_zero, Array.getD_eq_getD_getElem?, List.getElem?_toArray, Option.getD_some, and_true] at hO hD; go_simp; rfl)
            simp only [List.nil_append, List.cons_append]
            refine Free.Chain.ex ?_ [] [9] (by kernel_rfl) (by kernel_rfl) rfl (Kept.refl mb) ?_ ?_
            rotate_left
            · (intro ev W hb hR hO hD; have hS := hF W hR; obtain ⟨hb1, hb2, hb3⟩ := hb; simp only [Free.AllDeps, Free.AllOuts, Free.At, List.getElem?_cons_succ, List.getElem?_cons_zero, Array.getD_eq_getD_getElem?, List.getElem?_toArray, Option.getD_some, and_true] at hO hD; go_simp; rfl)
            simp only [List.nil_append, List.cons_append]
            refine Free.Chain.ex ?_ [(4, 143)] [] (by kernel_rfl) (by kernel_rfl) rfl (Kept.refl mb) ?_ ?_
            rotate_left
            · (intro ev W hb hR hO hD; have hS := hF W hR; obtain ⟨hb1, hb2, hb3⟩ := hb; simp only [Free.AllDeps, Free.AllOuts, Free.At, List.getElem?_cons_succ, List.getElem?_cons_zero, Array.getD_eq_getD_getElem?, List.getElem?_toArray, Option.getD_some, and_true] at hO hD; go_simp; rfl)
            simp only [List.nil_append, List.cons_append]
            refine Free.Chain.ex ?_ [(5, 144)] [] (by kernel_rfl) (by kernel_rfl) rfl (Kept.refl mb) ?_ ?_
            rotate_left
            · (intro ev W hb hR hO hD; have hS := hF W hR; obtain ⟨hb1, hb2, hb3⟩ := hb; simp only [Free.AllDeps, Free.AllOuts, Free.At, List.getElem?_cons_succ, List.getElem?_cons_zero, Array.getD_eq_getD_getElem?, List.getElem?_toArray, Option.getD_some, and_true] at hO hD; go_simp; rfl)
            simp only [List.nil_append, List.cons_append]
            refine Free.Chain.ex ?_ [(6, 145)] [] (by kernel_rfl) (by kernel_rfl) rfl (Kept.refl mb) ?_ ?_
            rotate_left
            · (intro ev W hb hR hO hD; have hS := hF W hR; obtain ⟨hb1, hb2, hb3⟩ := hb; simp only [Free.AllDeps, Free.AllOuts, Free.At, List.getElem?_cons_succ, List.getElem?_cons_zero, Array.getD_eq_getD_getElem?, List.getElem?_toArray, Option.getD_some, and_true] at hO hD; go_simp; rfl)
            simp only [List.nil_append, List.cons_append]
            refine Free.Chain.ex ?_ [(7, 146)] [] (by kernel_rfl) (by kernel_rfl) rfl (Kept.refl mb) ?_ ?_
            rotate_left
            · (intro ev W hb hR hO hD; have hS := hF W hR; obtain ⟨hb1, hb2, hb3⟩ := hb; simp only [Free.AllDeps, Free.AllOuts, Free.At, List.getElem?_cons_succ, List.getElem?_cons_zero, Array.getD_eq_getD_getElem?, List.getElem?_toArray, Option.getD_some, and_true] at hO hD; go_simp; rfl)
            simp only [List.nil_append, List.cons_append]
            refine Free.Chain.ex ?_ [] [4] (by kernel_rfl) (by kernel_rfl) rfl (Kept.refl mb) ?_ ?_
            rotate_left
            · (intro ev W hb hR hO hD; have hS := hF W hR; obtain ⟨hb1, hb2, hb3⟩ := hb; simp only [Free.AllDeps, Free.AllOuts, Free.At, List.getElem?_cons_succ, List.getElem?_cons_zero, Array.getD_eq_getD_getElem?, List.getElem?_toArray, Option.getD_some, and_true] at hO hD; go_simp; rfl)
            simp only [List.nil_append, List.cons_append]
            refine Free.Chain.ex ?_ [(9, 148)] [] (by kernel_rfl) (by kernel_rfl) rfl (Kept.refl mb) ?_ ?_
            rotate_left
            · (intro ev W hb hR hO hD; have hS := hF W hR; obtain ⟨hb1, hb2, hb3⟩ := hb; simp only [Free.AllDeps, Free.AllOuts, Free.At, List.getElem?_cons_succ, List.getElem?_cons_zero, Array.getD_eq_getD_getElem?, List.getElem?_toArray, Option.getD_some, and_true] at hO hD; go_simp; rfl)
            simp only [List.nil_append, List.cons_append]
            refine Free.Chain.pr (fun v _ => v = .int .i64 (chI N F)) [(3, 142), (8, 147), (10, 149)] [] (by kernel_rfl) (by kernel_rfl) rfl (fun _ _ _ _ h => h) ?_ ?_
            · (intro ev W hb hR hO hD; have hS := hF W hR; obtain ⟨hb1, hb2, hb3⟩ := hb; simp only [Free.AllDeps, Free.AllOuts, Free.At, List.getElem?_cons_succ, List.getElem?_cons_zero, Array.getD_eq_getD_getElem?, List.getElem?_toArray, Option.getD_some, and_true] at hO hD; go_simp; refine yields_enter ?_; with_reducible refine (count_call N F mb kb cb _ (by omega) (HHo _ hS).ctr).mono ?_; rintro e W1 ⟨rfl, hB1⟩; exact ⟨_, rfl, hB1, rfl⟩)
            simp only [List.nil_append, List.cons_append]
            refine Free.Chain.ex ?_ [(11, 150), (11, 150), (0, 139), (1, 140), (2, 141), (3, 142), (4, 143), (5, 144), (6, 145), (7, 146), (8, 147), (9, 148), (10, 149), (11, 150)] [] (by kernel_rfl) (by kernel_rfl) rfl (Kept.refl mb) ?_ ?_
            rotate_left
            · (intro ev W hb hR hO hD; have hS := hF W hR; obtain ⟨hb1, hb2, hb3⟩ := hb; simp only [Free.AllDeps, Free.AllOuts, Free.At, List.getElem?_cons_succ, List.getElem?_cons_zero, Array.getD_eq_getD_getElem?, List.getElem?_toArray, Option.getD_some, and_true] at hO hD; go_simp; rfl)
            simp only [List.nil_append, List.cons_append]
            intro xs w6 hR hV
            simp only [Free.AllV, Free.At, List.length_cons, List.length_nil, Nat.reduceAdd, List.getElem?_cons_succ, List.getElem?_cons_zero, true_and] at hV
            simp only [Free.putsFrom, Act.put, hV, List.setIfInBounds_toArray, List.set_cons_succ, List.set_cons_zero]
            have HK6 := hF w6 hR
            clear hR hV hF HK
            generalize hOe : chI N F = O at *
            have HOE := Lib.hid hOe
            clear hOe
            have hO1 : 0 ≤ O * C ∧ 1 ≤ O * C := by have h1 := Int.mul_le_mul hOb.1 hCb.1 (by omega) (by omega); omega
            have hF1 : 0 ≤ F * O ∧ F * O ≤ 3000000000000 := ⟨Int.mul_nonneg hb0.1 (by omega), by have h1 := Int.mul_le_mul (show F ≤ 36 by omega) hOb.2 (by omega) (by omega); omega⟩
            have hS1 : 0 ≤ S * g2 ∧ S * g2 ≤ 3000000000000 := ⟨Int.mul_nonneg hb0.2.2.1 bg.1, by have h1 := Int.mul_le_mul (show S ≤ 36 by omega) bg.2 bg.1 (by omega); omega⟩
            obtain ⟨p1, q1, hp1⟩ : ∃ p q : Int, partV a.toNat (O * C).toNat = .agg #[.int .i64 p, .int .i64 q] := ⟨_, _, rfl⟩
            obtain ⟨p2, q2, hp2⟩ : ∃ p q : Int, partV (F * O + S * g2).toNat O.toNat = .agg #[.int .i64 p, .int .i64 q] := ⟨_, _, rfl⟩
            have k1 := Lib.hid (fun W => part_int a (O * C) ba.1 (by omega) (by omega) (by omega) _ hp1 W)
            have k2 := Lib.hid (fun W => part_int (F * O + S * g2) O (by omega) (by omega) (by omega) (by omega) _ hp2 W)
            have HP := Lib.hid (And.intro hp1 hp2)
            clear hp1 hp2
            have hwr2 : IntKind.i64.wrap (O * C) = O * C := IntWalk.i64_in _ (by omega)
            have hwr3 : IntKind.i64.wrap (F * O) = F * O := IntWalk.i64_in _ (by omega)
            have hwr4 : IntKind.i64.wrap (S * g2) = S * g2 := IntWalk.i64_in _ (by omega)
            have hwr5 : IntKind.i64.wrap (F * O + S * g2) = F * O + S * g2 := IntWalk.i64_in _ (by omega)
            go_wp2_with fail
            have FB6 := Lib.hid (FB w6 HK6)
            have hbs : bb + 4 ≤ w6.heap.size ∧ bb + 4 ≤ mb := by have h1 := FB6.out; have h2 := HM.out; omega
            have TT : Two (bb + 1 + 1) (.int .i64 0) (.int .i64 0) w6 ∧ Two (bb + 1 + 1 + 1) (.int .i64 0) (.int .i64 0) w6 := by
              have h1 := FB6.out
              exact ⟨⟨by simp [h1], by simp [h1], by simp [h1], by simp [h1]⟩, ⟨by simp [h1], by simp [h1], by simp [h1], by simp [h1]⟩⟩
            have hF : ∀ W, KeptX mb [bb + 1 + 1, bb + 1 + 1 + 1] w6.drew W → W.cell? ⟨bb + 1, 0, none⟩ = some (.int .i64 F) ∧ W.cell? ⟨bb + 1, 3, none⟩ = some (.int .i64 S) := fun W hW => by
              have h1 := FB6.out
              have c0 : w6.cell? ⟨bb + 1, 0, none⟩ = some (.int .i64 F) := by simp [h1]
              have c3 : w6.cell? ⟨bb + 1, 3, none⟩ = some (.int .i64 S) := by simp [h1]
              exact ⟨hW.cell (w := w6.drew) c0 (by show _ ≠ mb; simp; omega) (by simp), hW.cell (w := w6.drew) c3 (by show _ ≠ mb; simp; omega) (by simp)⟩
            refine Free2.wp_free (R := KeptX mb [bb + 1 + 1, bb + 1 + 1 + 1]) (J := F2 mb 16 (bb + 1 + 1) 17 (bb + 1 + 1 + 1) (.int .i64 0) (.int .i64 0) (.int .i64 p1) (.int .i64 q1) (.int .i64 0) (.int .i64 0) (.int .i64 p2) (.int .i64 q2)) (by kernel_rfl) (by kernel_rfl) (KeptX.refl _ _) (fun _ _ _ => KeptX.trans) (F2.start ⟨TT.1.c0, TT.1.c1, TT.1.f0, TT.1.f1⟩ ⟨TT.2.c0, TT.2.c1, TT.2.f0, TT.2.f1⟩ (by omega)) ?_
            refine Free2.Chain.ex ?_ 0 rfl [] [14] (by kernel_rfl) (by kernel_rfl) rfl (KeptX.refl _ _) (fun X W v h => F2.skip h 0 v (show (0 : Nat) ≠ 16 by decide) (show (0 : Nat) ≠ 17 by decide)) ?_ ?_
            rotate_left
            · (intro ev W hb hR hO hD; have hS := hF W hR; obtain ⟨hb1, hb2, hb3⟩ := hb; simp only [Free.AllDeps, Free.AllOuts, Free.At, List.getElem?_cons_succ, List.getElem?_cons_zero, Array.getD_eq_getD_getElem?, List.getElem?_toArray, Option.getD_some, and_true] at hO hD; go_simp; rfl)
            simp only [List.nil_append, List.cons_append]
            refine Free2.Chain.ex ?_ 1 rfl [] [20] (by kernel_rfl) (by kernel_rfl) rfl (KeptX.refl _ _) (fun X W v h => F2.skip h 1 v (show (1 : Nat) ≠ 16 by decide) (show (1 : Nat) ≠ 17 by decide)) ?_ ?_
            rotate_left
            · (intro ev W hb hR hO hD; have hS := hF W hR; obtain ⟨hb1, hb2, hb3⟩ := hb; simp only [Free.AllDeps, Free.AllOuts, Free.At, List.getElem?_cons_succ, List.getElem?_cons_zero, Array.getD_eq_getD_getElem?, List.getElem?_toArray, Option.getD_some, and_true] at hO hD; go_simp; rfl)
            simp only [List.nil_append, List.cons_append]
            refine Free2.Chain.ex ?_ 2 rfl [] [13] (by kernel_rfl) (by kernel_rfl) rfl (KeptX.refl _ _) (fun X W v h => F2.skip h 2 v (show (2 : Nat) ≠ 16 by decide) (show (2 : Nat) ≠ 17 by decide)) ?_ ?_
            rotate_left
            · (intro ev W hb hR hO hD; have hS := hF W hR; obtain ⟨hb1, hb2, hb3⟩ := hb; simp only [Free.AllDeps, Free.AllOuts, Free.At, List.getElem?_cons_succ, List.getElem?_cons_zero, Array.getD_eq_getD_getElem?, List.getElem?_toArray, Option.getD_some, and_true] at hO hD; go_simp; rfl)
            simp only [List.nil_append, List.cons_append]
            refine Free2.Chain.ex ?_ 3 rfl [(1, 152), (2, 153)] [] (by kernel_rfl) (by kernel_rfl) rfl (KeptX.refl _ _) (fun X W v h => F2.skip h 3 v (show (3 : Nat) ≠ 16 by decide) (show (3 : Nat) ≠ 17 by decide)) ?_ ?_
            rotate_left
            · (intro ev W hb hR hO hD; have hS := hF W hR; obtain ⟨hb1, hb2, hb3⟩ := hb; simp only [Free.AllDeps, Free.AllOuts, Free.At, List.getElem?_cons_succ, List.getElem?_cons_zero, Array.getD_eq_getD_getElem?, List.getElem?_toArray, Option.getD_some, and_true] at hO hD; go_simp; rfl)
            simp only [List.nil_append, List.cons_append]
            refine Free2.Chain.pr (fun v _ => v = .agg #[.int .i64 p1, .int .i64 q1]) 4 rfl [(0, 151), (3, 154)] [] (by kernel_rfl) (by kernel_rfl) rfl (fun _ _ _ _ h => h) ?_ ?_
            · (intro ev W X hb hR hO hD hj hx hax; have hS := hF W hR; obtain ⟨hb1, hb2, hb3⟩ := hb; simp only [Free.AllDeps, Free.AllOuts, Free.At, List.getElem?_cons_succ, List.getElem?_cons_zero, Array.getD_eq_getD_getElem?, List.getElem?_toArray, Option.getD_some, and_true] at hO hD; simp only [Free2.AllX, and_true] at hax; go_simp; refine yields_enter ?_; with_reducible refine (k1.out _).mono ?_; rintro e W1 ⟨rfl, hB1⟩; exact ⟨_, rfl, KeptX.of_kept (.of_below hB1), rfl, (hj.kept (.of_below hB1)).skip 4 _ (by decide) (by decide)⟩)
            simp only [List.nil_append, List.cons_append]
            refine Free2.Chain.ex ?_ 5 rfl [] [4] (by kernel_rfl) (by kernel_rfl) rfl (KeptX.refl _ _) (fun X W v h => F2.skip h 5 v (show (5 : Nat) ≠ 16 by decide) (show (5 : Nat) ≠ 17 by decide)) ?_ ?_
            rotate_left
            · (intro ev W hb hR hO hD; have hS := hF W hR; obtain ⟨hb1, hb2, hb3⟩ := hb; simp only [Free.AllDeps, Free.AllOuts, Free.At, List.getElem?_cons_succ, List.getElem?_cons_zero, Array.getD_eq_getD_getElem?, List.getElem?_toArray, Option.getD_some, and_true] at hO hD; go_simp; rfl)
            simp only [List.nil_append, List.cons_append]
            refine Free2.Chain.ex ?_ 6 rfl [(5, 156)] [] (by kernel_rfl) (by kernel_rfl) rfl (KeptX.refl _ _) (fun X W v h => F2.skip h 6 v (show (6 : Nat) ≠ 16 by decide) (show (6 : Nat) ≠ 17 by decide)) ?_ ?_
            rotate_left
            · (intro ev W hb hR hO hD; have hS := hF W hR; obtain ⟨hb1, hb2, hb3⟩ := hb; simp only [Free.AllDeps, Free.AllOuts, Free.At, List.getElem?_cons_succ, List.getElem?_cons_zero, Array.getD_eq_getD_getElem?, List.getElem?_toArray, Option.getD_some, and_true] at hO hD; go_simp; rfl)
            simp only [List.nil_append, List.cons_append]
            refine Free2.Chain.ex ?_ 7 rfl [] [20] (by kernel_rfl) (by kernel_rfl) rfl (KeptX.refl _ _) (fun X W v h => F2.skip h 7 v (show (7 : Nat) ≠ 16 by decide) (show (7 : Nat) ≠ 17 by decide)) ?_ ?_
            rotate_left
            · (intro ev W hb hR hO hD; have hS := hF W hR; obtain ⟨hb1, hb2, hb3⟩ := hb; simp only [Free.AllDeps, Free.AllOuts, Free.At, List.getElem?_cons_succ, List.getElem?_cons_zero, Array.getD_eq_getD_getElem?, List.getElem?_toArray, Option.getD_some, and_true] at hO hD; go_simp; rfl)
            simp only [List.nil_append, List.cons_append]
            refine Free2.Chain.ex ?_ 8 rfl [(6, 157), (7, 158)] [] (by kernel_rfl) (by kernel_rfl) rfl (KeptX.refl _ _) (fun X W v h => F2.skip h 8 v (show (8 : Nat) ≠ 16 by decide) (show (8 : Nat) ≠ 17 by decide)) ?_ ?_
            rotate_left
            · (intro ev W hb hR hO hD; have hS := hF W hR; obtain ⟨hb1, hb2, hb3⟩ := hb; simp only [Free.AllDeps, Free.AllOuts, Free.At, List.getElem?_cons_succ, List.getElem?_cons_zero, Array.getD_eq_getD_getElem?, List.getElem?_toArray, Option.getD_some, and_true] at hO hD; go_simp; rfl)
            simp only [List.nil_append, List.cons_append]
            refine Free2.Chain.ex ?_ 9 rfl [] [4] (by kernel_rfl) (by kernel_rfl) rfl (KeptX.refl _ _) (fun X W v h => F2.skip h 9 v (show (9 : Nat) ≠ 16 by decide) (show (9 : Nat) ≠ 17 by decide)) ?_ ?_
            rotate_left
            · (intro ev W hb hR hO hD; have hS := hF W hR; obtain ⟨hb1, hb2, hb3⟩ := hb; simp only [Free.AllDeps, Free.AllOuts, Free.At, List.getElem?_cons_succ, List.getElem?_cons_zero, Array.getD_eq_getD_getElem?, List.getElem?_toArray, Option.getD_some, and_true] at hO hD; go_simp; rfl)
            simp only [List.nil_append, List.cons_append]
            refine Free2.Chain.ex ?_ 10 rfl [(9, 160)] [] (by kernel_rfl) (by kernel_rfl) rfl (KeptX.refl _ _) (fun X W v h => F2.skip h 10 v (show (10 : Nat) ≠ 16 by decide) (show (10 : Nat) ≠ 17 by decide)) ?_ ?_
            rotate_left
            · (intro ev W hb hR hO hD; have hS := hF W hR; obtain ⟨hb1, hb2, hb3⟩ := hb; simp only [Free.AllDeps, Free.AllOuts, Free.At, List.getElem?_cons_succ, List.getElem?_cons_zero, Array.getD_eq_getD_getElem?, List.getElem?_toArray, Option.getD_some, and_true] at hO hD; go_simp; rfl)
            simp only [List.nil_append, List.cons_append]
            refine Free2.Chain.ex ?_ 11 rfl [] [15] (by kernel_rfl) (by kernel_rfl) rfl (KeptX.refl _ _) (fun X W v h => F2.skip h 11 v (show (11 : Nat) ≠ 16 by decide) (show (11 : Nat) ≠ 17 by decide)) ?_ ?_
            rotate_left
            · (intro ev W hb hR hO hD; have hS := hF W hR; obtain ⟨hb1, hb2, hb3⟩ := hb; simp only [Free.AllDeps, Free.AllOuts, Free.At, List.getElem?_cons_succ, List.getElem?_cons_zero, Array.getD_eq_getD_getElem?, List.getElem?_toArray, Option.getD_some, and_true] at hO hD; go_simp; rfl)
            simp only [List.nil_append, List.cons_append]
            refine Free2.Chain.ex ?_ 12 rfl [(10, 161), (11, 162)] [] (by kernel_rfl) (by kernel_rfl) rfl (KeptX.refl _ _) (fun X W v h => F2.skip h 12 v (show (12 : Nat) ≠ 16 by decide) (show (12 : Nat) ≠ 17 by decide)) ?_ ?_
            rotate_left
            · (intro ev W hb hR hO hD; have hS := hF W hR; obtain ⟨hb1, hb2, hb3⟩ := hb; simp only [Free.AllDeps, Free.AllOuts, Free.At, List.getElem?_cons_succ, List.getElem?_cons_zero, Array.getD_eq_getD_getElem?, List.getElem?_toArray, Option.getD_some, and_true] at hO hD; go_simp; rfl)
            simp only [List.nil_append, List.cons_append]
            refine Free2.Chain.ex ?_ 13 rfl [(8, 159), (12, 163)] [] (by kernel_rfl) (by kernel_rfl) rfl (KeptX.refl _ _) (fun X W v h => F2.skip h 13 v (show (13 : Nat) ≠ 16 by decide) (show (13 : Nat) ≠ 17 by decide)) ?_ ?_
            rotate_left
            · (intro ev W hb hR hO hD; have hS := hF W hR; obtain ⟨hb1, hb2, hb3⟩ := hb; simp only [Free.AllDeps, Free.AllOuts, Free.At, List.getElem?_cons_succ, List.getElem?_cons_zero, Array.getD_eq_getD_getElem?, List.getElem?_toArray, Option.getD_some, and_true] at hO hD; go_simp; rfl)
            simp only [List.nil_append, List.cons_append]
            refine Free2.Chain.ex ?_ 14 rfl [] [20] (by kernel_rfl) (by kernel_rfl) rfl (KeptX.refl _ _) (fun X W v h => F2.skip h 14 v (show (14 : Nat) ≠ 16 by decide) (show (14 : Nat) ≠ 17 by decide)) ?_ ?_
            rotate_left
            · (intro ev W hb hR hO hD; have hS := hF W hR; obtain ⟨hb1, hb2, hb3⟩ := hb; simp only [Free.AllDeps, Free.AllOuts, Free.At, List.getElem?_cons_succ, List.getElem?_cons_zero, Array.getD_eq_getD_getElem?, List.getElem?_toArray, Option.getD_some, and_true] at hO hD; go_simp; rfl)
            simp only [List.nil_append, List.cons_append]
            refine Free2.Chain.pr (fun v _ => v = .agg #[.int .i64 p2, .int .i64 q2]) 15 rfl [(13, 164), (14, 165), (4, 155)] [] (by kernel_rfl) (by kernel_rfl) rfl (fun _ _ _ _ h => h) ?_ ?_
            · (intro ev W X hb hR hO hD hj hx hax; have hS := hF W hR; obtain ⟨hb1, hb2, hb3⟩ := hb; simp only [Free.AllDeps, Free.AllOuts, Free.At, List.getElem?_cons_succ, List.getElem?_cons_zero, Array.getD_eq_getD_getElem?, List.getElem?_toArray, Option.getD_some, and_true] at hO hD; simp only [Free2.AllX, and_true] at hax; go_simp; refine yields_enter ?_; with_reducible refine (k2.out _).mono ?_; rintro e W1 ⟨rfl, hB1⟩; exact ⟨_, rfl, KeptX.of_kept (.of_below hB1), rfl, (hj.kept (.of_below hB1)).skip 15 _ (by decide) (by decide)⟩)
            simp only [List.nil_append, List.cons_append]
            refine Free2.Chain.pr (fun _ _ => True) 16 rfl [(4, 155), (15, 166), (0, 151), (1, 152), (2, 153), (3, 154), (4, 155)] [6] (by kernel_rfl) (by kernel_rfl) rfl (fun _ _ _ _ h => h) ?_ ?_
            · (intro ev W X hb hR hO hD hj hx hax; have hS := hF W hR; obtain ⟨hb1, hb2, hb3⟩ := hb; simp only [Free.AllDeps, Free.AllOuts, Free.At, List.getElem?_cons_succ, List.getElem?_cons_zero, Array.getD_eq_getD_getElem?, List.getElem?_toArray, Option.getD_some, and_true] at hO hD; simp only [Free2.AllX, and_true] at hax; obtain ⟨ht, hkx, hjj⟩ := hj.at1 (rs := [bb + 1 + 1, bb + 1 + 1 + 1]) (by decide) (by simp) hx; have t0 := ht.c0; have t1 := ht.c1; have t2 := ht.f0; have t3 := ht.f1; go_simp; exact ⟨hkx, hjj _⟩)
            simp only [List.nil_append, List.cons_append]
            refine Free2.Chain.pr (fun _ _ => True) 17 rfl [(15, 166), (0, 151), (1, 152), (2, 153), (3, 154), (4, 155), (5, 156), (6, 157), (7, 158), (8, 159), (9, 160), (10, 161), (11, 162), (12, 163), (13, 164), (14, 165), (15, 166)] [7] (by kernel_rfl) (by kernel_rfl) rfl (fun _ _ _ _ h => h) ?_ ?_
            · (intro ev W X hb hR hO hD hj hx hax; have hS := hF W hR; obtain ⟨hb1, hb2, hb3⟩ := hb; simp only [Free.AllDeps, Free.AllOuts, Free.At, List.getElem?_cons_succ, List.getElem?_cons_zero, Array.getD_eq_getD_getElem?, List.getElem?_toArray, Option.getD_some, and_true] at hO hD; simp only [Free2.AllX, and_true] at hax; obtain ⟨ht, hkx, hjj⟩ := hj.at2 (rs := [bb + 1 + 1, bb + 1 + 1 + 1]) (by decide) (by simp) hx; have t0 := ht.c0; have t1 := ht.c1; have t2 := ht.f0; have t3 := ht.f1; go_simp; exact ⟨hkx, hjj _⟩)
            simp only [List.nil_append, List.cons_append]
            refine Free2.Chain.ex ?_ 18 rfl [(0, 151), (1, 152), (2, 153), (3, 154), (4, 155), (5, 156), (6, 157), (7, 158), (8, 159), (9, 160), (10, 161), (11, 162), (12, 163), (13, 164), (14, 165), (15, 166)] [] (by kernel_rfl) (by kernel_rfl) rfl (KeptX.refl _ _) (fun X W v h => F2.skip h 18 v (show (18 : Nat) ≠ 16 by decide) (show (18 : Nat) ≠ 17 by decide)) ?_ ?_
            rotate_left
            · (intro ev W hb hR hO hD; have hS := hF W hR; obtain ⟨hb1, hb2, hb3⟩ := hb; simp only [Free.AllDeps, Free.AllOuts, Free.At, List.getElem?_cons_succ, List.getElem?_cons_zero, Array.getD_eq_getD_getElem?, List.getElem?_toArray, Option.getD_some, and_true] at hO hD; go_simp; rfl)
            simp only [List.nil_append, List.cons_append]
            intro xs w9 hR hV hX
            obtain ⟨X, hj, hxx⟩ := hX
            have e16 := hxx 16 (show (16 : Nat) < 19 by decide)
            have e17 := hxx 17 (show (17 : Nat) < 19 by decide)
            have TA := hj.a.new (by rw [e16]; simp)
            have TB := hj.b.new (by rw [e17]; simp)
            simp only [Free.AllV, Free.At, List.length_cons, List.length_nil, Nat.reduceAdd, List.getElem?_cons_succ, List.getElem?_cons_zero, true_and, and_true] at hV
            simp only [Free.putsFrom, Act.put, hV, List.setIfInBounds_toArray, List.set_cons_succ, List.set_cons_zero]
            have HKE := Lib.hid (KeptX.below (HBE.out w6 HK6) (KeptX.trans (show KeptX mb [bb + 1 + 1, bb + 1 + 1 + 1] w6 w6.drew from (KeptX.refl _ _ _).drew) hR) (by omega) (by intro r hr; simp at hr; omega) (by omega))
            have z1 := TA.c0
            have z2 := TA.c1
            have z3 := TB.c0
            have z4 := TB.c1
            clear hR hV hj hxx e16 e17 hF TT
            go_wp2_with fail
            have hbb := HBB.out
            subst hbb
            have hvv : Value.tuple #[.agg #[.int .i64 p1, .int .i64 q1], .agg #[.int .i64 p2, .int .i64 q2], .int .i64 0] = v := by
              rw [← hv.out, twiceR, if_neg (by simp [rightsB, HRR.out.1, HRR.out.2.1, HRR.out.2.2]), if_neg (by simp [HM2.out]), twiceV1, twiceV2, ← hke.out, HAE.out.1, HAE.out.2, HOE.out, HCE.out, HP.out.1, HP.out.2]
            refine bodyPost_ret (v := .tuple #[.agg #[.int .i64 p1, .int .i64 q1], .agg #[.int .i64 p2, .int .i64 q2], .int .i64 0]) (by simp [results, Tryz.results28, go_sem, z1, z2, z3, z4]) rfl ⟨by rw [hvv], HKE.out⟩
end Go.Proofs.YtigdpohdihopjaaGreatDoor

/- Double rules: what Twice returns. -/
namespace Go.Proofs.YtigdpohdihopjaaGreatDoor
set_option linter.unusedSimpArgs false
set_option linter.unusedVariables false
open Go.RowKit Go.Proofs.YtigdpohdihopjaaGreatDoor.ML Go.Proofs.YtigdpohdihopjaaGreatDoor.Samp

/-- What is returned for any cargo. -/
def twiceAll (N lo hi D F A R S T : Int) : Value := if cargoB N lo hi = false then zz 10 else twiceR N lo hi D F A R S T
theorem twice_any (N lo hi F A R S T D : Int) (w : World) (hT : TabD w) :
    Calls Tryz.prog 28 #[.agg #[.int .i64 N, .int .i64 lo, .int .i64 hi], .agg #[.int .i64 F, .int .i64 A, .int .i64 R, .int .i64 S, .int .i64 T], .int .i64 D] w fun e w' => e = .returned (twiceAll N lo hi D F A R S T) ∧ Below w.heap.size w w' := by
  cases hc : cargoB N lo hi
  · simpa [twiceAll, hc] using twice_a N lo hi F A R S T D w hT hc
  · exact (twice_b N lo hi F A R S T D w hT hc _ rfl).mono fun e w' ⟨h1, h2⟩ => ⟨by rw [h1, twiceAll, if_neg (by simp [hc])], h2⟩
end Go.Proofs.YtigdpohdihopjaaGreatDoor

/- Awards. -/
namespace Go.Proofs.YtigdpohdihopjaaGreatDoor
set_option linter.unusedSimpArgs false
set_option linter.unusedVariables false
open Go.RowKit Go.Sort

/-- What an award is, or the error. -/
def awardB (a b u : Int) : Bool := inB 0 1000000 [a, b, u]
def awardV (a b u : Int) : Int := if max a b - min a b ≤ max a b / 10 then (a + b) / 2 else max (min a b) (min (max a b) u)
theorem perm_sum {l l' : List Int} (h : l.Perm l') : l.foldr (fun p q => p + q) 0 = l'.foldr (fun p q => p + q) 0 := by
  induction h with
  | nil => rfl
  | cons x _ ih => simp [ih]
  | swap x y l => simp; omega
  | trans _ _ h1 h2 => rw [h1, h2]
theorem sorted3 (a b u : Int) : ∃ x z : Int, ([a, b, u].mergeSort fun x y => decide (x ≤ y)) = [x, max (min a b) (min (max a b) u), z] := by
  have hp := List.mergeSort_perm [a, b, u] (fun x y : Int => decide (x ≤ y))
  have hs := List.pairwise_mergeSort (le := fun x y : Int => decide (x ≤ y)) (fun a b c h1 h2 => by simp at *; omega) (fun a b => by simp; omega) [a, b, u]
  generalize ([a, b, u].mergeSort fun x y => decide (x ≤ y)) = l at *
  have hl := hp.length_eq
  match l, hl with
  | [x, y, z], _ =>
    refine ⟨x, z, ?_⟩
    simp at hs
    have ha : a = x ∨ a = y ∨ a = z := by have := hp.symm.subset (show a ∈ [a, b, u] by simp); simpa using this
    have hb : b = x ∨ b = y ∨ b = z := by have := hp.symm.subset (show b ∈ [a, b, u] by simp); simpa using this
    have hu : u = x ∨ u = y ∨ u = z := by have := hp.symm.subset (show u ∈ [a, b, u] by simp); simpa using this
    have hx : x = a ∨ x = b ∨ x = u := by have := hp.subset (show x ∈ [x, y, z] by simp); simpa using this
    have hz : z = a ∨ z = b ∨ z = u := by have := hp.subset (show z ∈ [x, y, z] by simp); simpa using this
    have hsum : x + (y + z) = a + (b + u) := by
      have := perm_sum hp
      simpa using this
    congr 2
    omega

set_option maxRecDepth 100000 in
set_option maxHeartbeats 2000000 in
theorem award_v (a b u : Int) (w : World) (v : Value) (hv : Hid ((.tuple (if awardB a b u = false then #[.int .i64 0, .int .i64 2] else #[.int .i64 (awardV a b u), .int .i64 0]) : Value) = v)) :
    Calls Tryz.prog 18 #[.int .i64 a, .int .i64 b, .int .i64 u] w fun e w' => e = .returned v ∧ Below w.heap.size w w' := by
  have hB0 : Below w.heap.size w (w.alloc (.cells #[.int .i64 a, .int .i64 b, .int .i64 u] 3)) := (Below.refl _ w).alloc (Nat.le_refl _) _
  have hsl := SlI.three a b u 3 w
  cases hq : awardB a b u
  · have HQ := Lib.hid hq
    have HB0 := Lib.hid hB0
    have HS := Lib.hid hsl
    obtain rfl : Value.tuple #[.int .i64 0, .int .i64 2] = v := by rw [← hv.out, if_pos hq]
    clear hq hB0 hsl
    go_enter Tryz.func18, Tryz.ntmps18
    go_wp2_with fail
    refine (in_sl 0 1000000 [a, b, u] false _ _ (by simp [maxLen]) HQ.out HS.out).mono ?_
    rintro e w1 ⟨rfl, hB1⟩
    go_wp2_with fail
    go_ret2
    exact ⟨rfl, HB0.out.trans (hB1.mono (by simp))⟩
  · have hb : (0 ≤ a ∧ a ≤ 1000000) ∧ (0 ≤ b ∧ b ≤ 1000000) ∧ 0 ≤ u ∧ u ≤ 1000000 := by simpa [awardB, inB] using hq
    have HQ := Lib.hid hq
    have c0 : (w.alloc (.cells #[.int .i64 a, .int .i64 b, .int .i64 u] 3)).cell? ⟨w.heap.size, 0, none⟩ = some (.int .i64 a) := by simp [go_sem]
    have c1 : (w.alloc (.cells #[.int .i64 a, .int .i64 b, .int .i64 u] 3)).cell? ⟨w.heap.size, 1, none⟩ = some (.int .i64 b) := by simp [go_sem]
    have c2 : (w.alloc (.cells #[.int .i64 a, .int .i64 b, .int .i64 u] 3)).cell? ⟨w.heap.size, 2, none⟩ = some (.int .i64 u) := by simp [go_sem]
    have f0 : ∀ k, (w.alloc (.cells #[.int .i64 a, .int .i64 b, .int .i64 u] 3)).frozen? ⟨w.heap.size, k, none⟩ = false := fun k => by simp [go_sem]
    have hlt := lt_of_cell c0
    have HB0 := Lib.hid hB0
    have HS := Lib.hid hsl
    have HC := Lib.hid (And.intro c0 (And.intro c1 (And.intro c2 (And.intro f0 hlt))))
    clear hq hB0 hsl c0 c1 c2 f0 hlt
    by_cases hn : max a b - min a b ≤ max a b / 10
    · obtain rfl : Value.tuple #[.int .i64 ((a + b) / 2), .int .i64 0] = v := by rw [← hv.out, if_neg (by simp [HQ.out]), awardV, if_pos hn]
      have hn2 : (a ≤ b ∧ b - a ≤ b / 10) ∨ (b < a ∧ a - b ≤ a / 10) := by omega
      clear hn
      rcases hn2 with ⟨hab, hn⟩ | ⟨hab, hn⟩
      all_goals
        go_enter Tryz.func18, Tryz.ntmps18
        go_wp2_with fail
        refine (in_sl 0 1000000 [a, b, u] true _ _ (by simp [maxLen]) HQ.out HS.out).mono ?_
        rintro e w1 ⟨rfl, hB1⟩
        go_wp2_with fail
        go_ret2
        exact ⟨rfl, HB0.out.trans (hB1.mono (by simp))⟩
    · obtain rfl : Value.tuple #[.int .i64 (max (min a b) (min (max a b) u)), .int .i64 0] = v := by rw [← hv.out, if_neg (by simp [HQ.out]), awardV, if_neg hn]
      have hn2 : (a ≤ b ∧ b / 10 < b - a) ∨ (b < a ∧ a / 10 < a - b) := by omega
      obtain ⟨x, z, hs3⟩ := sorted3 a b u
      have HS3 := Lib.hid hs3
      obtain ⟨m, hm⟩ : ∃ m, max (min a b) (min (max a b) u) = m := ⟨_, rfl⟩
      rw [hm] at HS3 ⊢
      clear hn hs3 hm
      rcases hn2 with ⟨hab, hn⟩ | ⟨hab, hn⟩
      all_goals
        go_enter Tryz.func18, Tryz.ntmps18
        go_wp2_with fail
        refine (in_sl 0 1000000 [a, b, u] true _ _ (by simp [maxLen]) HQ.out HS.out).mono ?_
        rintro e w1 ⟨rfl, hB1⟩
        have hsz := hB1.size
        have hH : Holds (Value.int .i64) w1 w.heap.size 0 [a, b, u].toArray := by
          have hc := HC.out
          have k0 := keepsB hB1 hc.1
          have k1 := keepsB hB1 hc.2.1
          have k2 := keepsB hB1 hc.2.2.1
          have kf : ∀ k, w1.frozen? ⟨w.heap.size, k, none⟩ = false := fun k => (hB1.frozen (p := ⟨w.heap.size, k, none⟩) hc.2.2.2.2).trans (hc.2.2.2.1 k)
          intro j hj
          match j, hj with
          | 0, _ => exact ⟨k0, kf _⟩
          | 1, _ => exact ⟨k1, kf _⟩
          | 2, _ => exact ⟨k2, kf _⟩
        have hlt1 : w.heap.size < w1.heap.size := Nat.lt_of_lt_of_le HC.out.2.2.2.2 hsz
        have HB1 := Lib.hid (HB0.out.trans (hB1.mono (by simp)))
        have HH := Lib.hid hH
        clear hB1 hH
        go_wp2_with fail
        refine (Tryz.slices_Sort_int w.heap.size 0 3 [a, b, u] w1 HH.out hlt1 (by simp)).mono ?_
        rintro e w2 ⟨rfl, nn, os, hw2⟩
        rw [HS3.out] at hw2
        have c1 : w2.cell? ⟨w.heap.size, 1, none⟩ = some (.int .i64 m) := by
          rw [hw2, cell?_grow _ _ _ (by simpa [putRow, mapBlock, Sort.ahead] using hlt1)]
          have := cell?_putRow (Value.int .i64) (Sort.ahead w1 nn) w.heap.size 0 [a, b, u].toArray [x, m, z].toArray (holds_ahead _ _ _ _ _ _ HH.out) rfl 1 (by simp)
          simpa using this
        have HB2 : Hid (Below w.heap.size w w2) := by
          refine HB1.out.trans ?_
          rw [hw2]
          exact ⟨rfl, rfl, rfl, by simp [grow, putRow, mapBlock, Sort.ahead], fun k hk => by
            rw [heap_grow_old _ _ (by simp [putRow, mapBlock, Sort.ahead]; omega)]
            simp [putRow, mapBlock, Sort.ahead, Array.getElem?_modify, show ¬ w.heap.size = k by omega]⟩
        clear hw2
        go_wp2_with fail
        go_ret2
        exact ⟨rfl, HB2.out⟩
theorem award_any (a b u : Int) (w : World) :
    Calls Tryz.prog 18 #[.int .i64 a, .int .i64 b, .int .i64 u] w fun e w' => e = .returned (.tuple (if awardB a b u = false then #[.int .i64 0, .int .i64 2] else #[.int .i64 (awardV a b u), .int .i64 0])) ∧ Below w.heap.size w w' := award_v a b u w _ rfl
end Go.Proofs.YtigdpohdihopjaaGreatDoor

