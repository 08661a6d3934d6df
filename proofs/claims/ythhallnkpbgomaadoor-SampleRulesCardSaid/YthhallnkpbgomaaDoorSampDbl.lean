/- What a double rule is asked. -/
import Derived.Test.YthhallnkpbgomaaDoorSampRules
import Derived.Test.YthhallnkpbgomaaDoorKeptX
namespace Go.Proofs.YthhallnkpbgomaaDoor
set_option linter.unusedSimpArgs false
set_option linter.unusedVariables false
open Go.RowKit Go.Proofs.YthhallnkpbgomaaDoor.ML Go.Proofs.YthhallnkpbgomaaDoor.Samp

def right1 (N F S : Int) : Bool := inB 0 N [F] && inB 0 (N - F) [S]
def right2 (F A : Int) : Bool := inB 0 F [A]
def right3 (F A R S T : Int) : Bool := inB (A + 1) (F + 1) [R] && inB A (R + S) [T]

set_option maxRecDepth 100000 in
set_option maxHeartbeats 2000000 in
theorem dbl1_any (N F A R S T : Int) (r : Bool) (w : World) (hN : 1 ≤ N ∧ N ≤ 36) (hr : Hid (right1 N F S = r)) :
    Calls Tryd.prog 146 #[.int .i64 N, .agg #[.int .i64 F, .int .i64 A, .int .i64 R, .int .i64 S, .int .i64 T]] w fun e w' => e = .returned (.bool r) ∧ Below w.heap.size w w' := by
  have hB0 : Below w.heap.size w (w.alloc (.cells #[.int .i64 F, .int .i64 A, .int .i64 R, .int .i64 S, .int .i64 T] 29)) := (Below.refl _ w).alloc (Nat.le_refl _) _
  have c0_0 : (w.alloc (.cells #[.int .i64 F, .int .i64 A, .int .i64 R, .int .i64 S, .int .i64 T] 29)).cell? ⟨w.heap.size, 0, none⟩ = some (.int .i64 F) := by simp [go_sem]
  have c0_1 : (w.alloc (.cells #[.int .i64 F, .int .i64 A, .int .i64 R, .int .i64 S, .int .i64 T] 29)).cell? ⟨w.heap.size, 1, none⟩ = some (.int .i64 A) := by simp [go_sem]
  have c0_2 : (w.alloc (.cells #[.int .i64 F, .int .i64 A, .int .i64 R, .int .i64 S, .int .i64 T] 29)).cell? ⟨w.heap.size, 2, none⟩ = some (.int .i64 R) := by simp [go_sem]
  have c0_3 : (w.alloc (.cells #[.int .i64 F, .int .i64 A, .int .i64 R, .int .i64 S, .int .i64 T] 29)).cell? ⟨w.heap.size, 3, none⟩ = some (.int .i64 S) := by simp [go_sem]
  have c0_4 : (w.alloc (.cells #[.int .i64 F, .int .i64 A, .int .i64 R, .int .i64 S, .int .i64 T] 29)).cell? ⟨w.heap.size, 4, none⟩ = some (.int .i64 T) := by simp [go_sem]
  cases h1 : inB 0 N [F]
  · have H1 := Lib.hid h1
    obtain rfl : r = false := by rw [← hr.out]; simp [right1, h1]
    have HB0 := Lib.hid hB0
    clear h1 hr hB0 c0_0 c0_1 c0_2 c0_3 c0_4
    go_enter Tryd.func146, Tryd.ntmps146
    go_wp2_with fail
    refine (in_one _ _ F false _ _ H1.out (by simp [go_sem])).mono ?_
    rintro e w1 ⟨rfl, hB1⟩
    go_wp2_with fail
    go_ret
    exact ⟨rfl, (HB0.out.alloc (by simp) _).trans (hB1.mono (by simp; omega))⟩
  · have H1 := Lib.hid h1
    have HR := Lib.hid (show inB 0 (N - F) [S] = r by rw [← hr.out]; simp [right1, h1])
    have hF : 0 ≤ F ∧ F ≤ N := by simpa [inB] using h1
    clear h1 hr
    go_enter Tryd.func146, Tryd.ntmps146
    go_wp2_with fail
    refine (in_one _ _ F true _ _ H1.out (by simp [go_sem])).mono ?_
    rintro e w1 ⟨rfl, hB1⟩
    have K_w1 : Free.Bel (w.alloc (.cells #[.int .i64 F, .int .i64 A, .int .i64 R, .int .i64 S, .int .i64 T] 29)) w1 := by
      refine Free.Bel.trans _ _ _ ?_ hB1
      repeat (first | exact Free.Bel.refl _ | refine Bel.allocT ?_ _ | refine Bel.drewT ?_)
    clear hB1
    have hq : w.heap.size + 1 = (w.alloc (.cells #[.int .i64 F, .int .i64 A, .int .i64 R, .int .i64 S, .int .i64 T] 29)).heap.size := by simp
    generalize (w.alloc (.cells #[.int .i64 F, .int .i64 A, .int .i64 R, .int .i64 S, .int .i64 T] 29)) = W0 at *
    generalize hbb : w.heap.size = bb at *
    have HBB := Lib.hid hbb
    clear hbb
    have HB0 := Lib.hid hB0
    have hq0 : bb + 1 ≤ W0.heap.size := by omega
    clear hB0 hq
    have FA : ∀ W, Free.Bel W0 W → W.cell? ⟨bb, 0, none⟩ = some (.int .i64 F) ∧ W.cell? ⟨bb, 1, none⟩ = some (.int .i64 A) ∧ W.cell? ⟨bb, 2, none⟩ = some (.int .i64 R) ∧ W.cell? ⟨bb, 3, none⟩ = some (.int .i64 S) ∧ W.cell? ⟨bb, 4, none⟩ = some (.int .i64 T) ∧ bb + 1 ≤ W.heap.size := fun W hW => ⟨keepsB hW c0_0, keepsB hW c0_1, keepsB hW c0_2, keepsB hW c0_3, keepsB hW c0_4, Nat.le_trans hq0 hW.size⟩
    clear c0_0 c0_1 c0_2 c0_3 c0_4
    go_wp2_with fail
    refine (in_one _ _ S r _ _ HR.out (by simp [go_sem])).mono ?_
    rintro e w2 ⟨rfl, hB2⟩
    have K_w2 : Free.Bel W0 w2 := by
      refine Free.Bel.trans _ _ _ ?_ hB2
      repeat (first | exact K_w1 | exact Free.Bel.refl _ | refine Bel.allocT ?_ _ | refine Bel.drewT ?_)
    go_wp2_with fail
    go_ret
    have hbb := HBB.out
    subst hbb
    exact ⟨rfl, HB0.out.trans (K_w2.mono (by omega))⟩

set_option maxRecDepth 100000 in
set_option maxHeartbeats 2000000 in
theorem dbl2_any (N F A R S T : Int) (r : Bool) (w : World)  (hr : Hid (right2 F A = r)) :
    Calls Tryd.prog 147 #[.int .i64 N, .agg #[.int .i64 F, .int .i64 A, .int .i64 R, .int .i64 S, .int .i64 T]] w fun e w' => e = .returned (.bool r) ∧ Below w.heap.size w w' := by
  have hB0 : Below w.heap.size w (w.alloc (.cells #[.int .i64 F, .int .i64 A, .int .i64 R, .int .i64 S, .int .i64 T] 29)) := (Below.refl _ w).alloc (Nat.le_refl _) _
  have c0_0 : (w.alloc (.cells #[.int .i64 F, .int .i64 A, .int .i64 R, .int .i64 S, .int .i64 T] 29)).cell? ⟨w.heap.size, 0, none⟩ = some (.int .i64 F) := by simp [go_sem]
  have c0_1 : (w.alloc (.cells #[.int .i64 F, .int .i64 A, .int .i64 R, .int .i64 S, .int .i64 T] 29)).cell? ⟨w.heap.size, 1, none⟩ = some (.int .i64 A) := by simp [go_sem]
  have c0_2 : (w.alloc (.cells #[.int .i64 F, .int .i64 A, .int .i64 R, .int .i64 S, .int .i64 T] 29)).cell? ⟨w.heap.size, 2, none⟩ = some (.int .i64 R) := by simp [go_sem]
  have c0_3 : (w.alloc (.cells #[.int .i64 F, .int .i64 A, .int .i64 R, .int .i64 S, .int .i64 T] 29)).cell? ⟨w.heap.size, 3, none⟩ = some (.int .i64 S) := by simp [go_sem]
  have c0_4 : (w.alloc (.cells #[.int .i64 F, .int .i64 A, .int .i64 R, .int .i64 S, .int .i64 T] 29)).cell? ⟨w.heap.size, 4, none⟩ = some (.int .i64 T) := by simp [go_sem]
  have HB0 := Lib.hid hB0
  clear hB0 c0_0 c0_1 c0_2 c0_3 c0_4
  go_enter Tryd.func147, Tryd.ntmps147
  go_wp2_with fail
  refine (in_one _ _ A r _ _ hr.out (by simp [go_sem])).mono ?_
  rintro e w1 ⟨rfl, hB1⟩
  go_wp2_with fail
  go_ret
  exact ⟨rfl, (HB0.out.alloc (by simp) _).trans (hB1.mono (by simp; omega))⟩

set_option maxRecDepth 100000 in
set_option maxHeartbeats 2000000 in
theorem dbl3_any (N F A R S T : Int) (r : Bool) (w : World) (hN : 0 ≤ F ∧ F ≤ 36 ∧ 0 ≤ A ∧ A ≤ F ∧ 0 ≤ S ∧ S ≤ 36) (hr : Hid (right3 F A R S T = r)) :
    Calls Tryd.prog 148 #[.int .i64 N, .agg #[.int .i64 F, .int .i64 A, .int .i64 R, .int .i64 S, .int .i64 T]] w fun e w' => e = .returned (.bool r) ∧ Below w.heap.size w w' := by
  have hB0 : Below w.heap.size w (w.alloc (.cells #[.int .i64 F, .int .i64 A, .int .i64 R, .int .i64 S, .int .i64 T] 29)) := (Below.refl _ w).alloc (Nat.le_refl _) _
  have c0_0 : (w.alloc (.cells #[.int .i64 F, .int .i64 A, .int .i64 R, .int .i64 S, .int .i64 T] 29)).cell? ⟨w.heap.size, 0, none⟩ = some (.int .i64 F) := by simp [go_sem]
  have c0_1 : (w.alloc (.cells #[.int .i64 F, .int .i64 A, .int .i64 R, .int .i64 S, .int .i64 T] 29)).cell? ⟨w.heap.size, 1, none⟩ = some (.int .i64 A) := by simp [go_sem]
  have c0_2 : (w.alloc (.cells #[.int .i64 F, .int .i64 A, .int .i64 R, .int .i64 S, .int .i64 T] 29)).cell? ⟨w.heap.size, 2, none⟩ = some (.int .i64 R) := by simp [go_sem]
  have c0_3 : (w.alloc (.cells #[.int .i64 F, .int .i64 A, .int .i64 R, .int .i64 S, .int .i64 T] 29)).cell? ⟨w.heap.size, 3, none⟩ = some (.int .i64 S) := by simp [go_sem]
  have c0_4 : (w.alloc (.cells #[.int .i64 F, .int .i64 A, .int .i64 R, .int .i64 S, .int .i64 T] 29)).cell? ⟨w.heap.size, 4, none⟩ = some (.int .i64 T) := by simp [go_sem]
  cases h1 : inB (A + 1) (F + 1) [R]
  · have H1 := Lib.hid h1
    obtain rfl : r = false := by rw [← hr.out]; simp [right3, h1]
    have HB0 := Lib.hid hB0
    clear h1 hr hB0 c0_0 c0_1 c0_2 c0_3 c0_4
    go_enter Tryd.func148, Tryd.ntmps148
    go_wp2_with fail
    refine (in_one _ _ R false _ _ H1.out (by simp [go_sem])).mono ?_
    rintro e w1 ⟨rfl, hB1⟩
    go_wp2_with fail
    go_ret
    exact ⟨rfl, (HB0.out.alloc (by simp) _).trans (hB1.mono (by simp; omega))⟩
  · have H1 := Lib.hid h1
    have HR := Lib.hid (show inB A (R + S) [T] = r by rw [← hr.out]; simp [right3, h1])
    have hF : (A + 1) ≤ R ∧ R ≤ (F + 1) := by simpa [inB] using h1
    clear h1 hr
    go_enter Tryd.func148, Tryd.ntmps148
    go_wp2_with fail
    refine (in_one _ _ R true _ _ H1.out (by simp [go_sem])).mono ?_
    rintro e w1 ⟨rfl, hB1⟩
    have K_w1 : Free.Bel (w.alloc (.cells #[.int .i64 F, .int .i64 A, .int .i64 R, .int .i64 S, .int .i64 T] 29)) w1 := by
      refine Free.Bel.trans _ _ _ ?_ hB1
      repeat (first | exact Free.Bel.refl _ | refine Bel.allocT ?_ _ | refine Bel.drewT ?_)
    clear hB1
    have hq : w.heap.size + 1 = (w.alloc (.cells #[.int .i64 F, .int .i64 A, .int .i64 R, .int .i64 S, .int .i64 T] 29)).heap.size := by simp
    generalize (w.alloc (.cells #[.int .i64 F, .int .i64 A, .int .i64 R, .int .i64 S, .int .i64 T] 29)) = W0 at *
    generalize hbb : w.heap.size = bb at *
    have HBB := Lib.hid hbb
    clear hbb
    have HB0 := Lib.hid hB0
    have hq0 : bb + 1 ≤ W0.heap.size := by omega
    clear hB0 hq
    have FA : ∀ W, Free.Bel W0 W → W.cell? ⟨bb, 0, none⟩ = some (.int .i64 F) ∧ W.cell? ⟨bb, 1, none⟩ = some (.int .i64 A) ∧ W.cell? ⟨bb, 2, none⟩ = some (.int .i64 R) ∧ W.cell? ⟨bb, 3, none⟩ = some (.int .i64 S) ∧ W.cell? ⟨bb, 4, none⟩ = some (.int .i64 T) ∧ bb + 1 ≤ W.heap.size := fun W hW => ⟨keepsB hW c0_0, keepsB hW c0_1, keepsB hW c0_2, keepsB hW c0_3, keepsB hW c0_4, Nat.le_trans hq0 hW.size⟩
    clear c0_0 c0_1 c0_2 c0_3 c0_4
    go_wp2_with fail
    refine (in_one _ _ T r _ _ HR.out (by simp [go_sem])).mono ?_
    rintro e w2 ⟨rfl, hB2⟩
    have K_w2 : Free.Bel W0 w2 := by
      refine Free.Bel.trans _ _ _ ?_ hB2
      repeat (first | exact K_w1 | exact Free.Bel.refl _ | refine Bel.allocT ?_ _ | refine Bel.drewT ?_)
    go_wp2_with fail
    go_ret
    have hbb := HBB.out
    subst hbb
    exact ⟨rfl, HB0.out.trans (K_w2.mono (by omega))⟩
end Go.Proofs.YthhallnkpbgomaaDoor
