/- The reference's Twice. -/
import Derived.Test.YthhallnkpbgomaaDoorSampTwice
import Derived.Test.YthhallnkpbgomaaDoorSampRRef
import Derived.Test.YthhallnkpbgomaaDoorSampRefB
namespace Go.Proofs.YthhallnkpbgomaaDoor
set_option linter.unusedSimpArgs false
set_option linter.unusedVariables false
open Go.RowKit Go.Proofs.YthhallnkpbgomaaDoor.ML Go.Proofs.YthhallnkpbgomaaDoor.Samp

/-- What is returned for any cargo. -/
def twiceAll (N lo hi D F A R S T : Int) : Value := if cargoB N lo hi = false then zz 10 else twiceR N lo hi D F A R S T
theorem twice_any (N lo hi F A R S T D : Int) (w : World) (hT : TabD w) :
    Calls Tryd.prog 24 #[.agg #[.int .i64 N, .int .i64 lo, .int .i64 hi], .agg #[.int .i64 F, .int .i64 A, .int .i64 R, .int .i64 S, .int .i64 T], .int .i64 D] w fun e w' => e = .returned (twiceAll N lo hi D F A R S T) ∧ Below w.heap.size w w' := by
  cases hc : cargoB N lo hi
  · simpa [twiceAll, hc] using twice_a N lo hi F A R S T D w hT hc
  · exact (twice_b N lo hi F A R S T D w hT hc _ rfl).mono fun e w' ⟨h1, h2⟩ => ⟨by rw [h1, twiceAll, if_neg (by simp [hc])], h2⟩
theorem rights_eq (N F A R S T : Int) : doubleB N F A R S T = rightsB N F A R S T := by simp [doubleB, rightsB, right1, right2, right3, Bool.and_assoc]
theorem few_min (N D S x : Int) : fewI N D S (x + 1).toNat = fewI N D S (min S x + 1).toNat := by
  rw [fewI_cut N D S (x + 1).toNat, show min (x + 1).toNat (S + 1).toNat = (min S x + 1).toNat by omega]

set_option maxRecDepth 100000 in
set_option maxHeartbeats 6000000 in
theorem twiceR_any (N lo hi F A R S T D : Int) (w : World) :
    Calls Tryd.prog 25 #[.agg #[.int .i64 N, .int .i64 lo, .int .i64 hi], .agg #[.int .i64 F, .int .i64 A, .int .i64 R, .int .i64 S, .int .i64 T], .int .i64 D] w fun e w' => e = .returned (twiceAll N lo hi D F A R S T) ∧ Below w.heap.size w w' := by
  have hB0 : Below w.heap.size w ((((w.alloc (.cells #[.int .i64 N, .int .i64 lo, .int .i64 hi] 25)).alloc (.cells #[.int .i64 F, .int .i64 A, .int .i64 R, .int .i64 S, .int .i64 T] 29)).alloc (.cells #[.int .i64 0, .int .i64 0] 31)).alloc (.cells #[.int .i64 0, .int .i64 0] 31)) := ((((Below.refl _ w).alloc (Nat.le_refl _) _).alloc (by simp) _).alloc (by simp; omega) _).alloc (by simp; omega) _
  have c0_0 : ((((w.alloc (.cells #[.int .i64 N, .int .i64 lo, .int .i64 hi] 25)).alloc (.cells #[.int .i64 F, .int .i64 A, .int .i64 R, .int .i64 S, .int .i64 T] 29)).alloc (.cells #[.int .i64 0, .int .i64 0] 31)).alloc (.cells #[.int .i64 0, .int .i64 0] 31)).cell? ⟨w.heap.size, 0, none⟩ = some (.int .i64 N) := by simp [go_sem]
  have c0_1 : ((((w.alloc (.cells #[.int .i64 N, .int .i64 lo, .int .i64 hi] 25)).alloc (.cells #[.int .i64 F, .int .i64 A, .int .i64 R, .int .i64 S, .int .i64 T] 29)).alloc (.cells #[.int .i64 0, .int .i64 0] 31)).alloc (.cells #[.int .i64 0, .int .i64 0] 31)).cell? ⟨w.heap.size, 1, none⟩ = some (.int .i64 lo) := by simp [go_sem]
  have c0_2 : ((((w.alloc (.cells #[.int .i64 N, .int .i64 lo, .int .i64 hi] 25)).alloc (.cells #[.int .i64 F, .int .i64 A, .int .i64 R, .int .i64 S, .int .i64 T] 29)).alloc (.cells #[.int .i64 0, .int .i64 0] 31)).alloc (.cells #[.int .i64 0, .int .i64 0] 31)).cell? ⟨w.heap.size, 2, none⟩ = some (.int .i64 hi) := by simp [go_sem]
  have c1_0 : ((((w.alloc (.cells #[.int .i64 N, .int .i64 lo, .int .i64 hi] 25)).alloc (.cells #[.int .i64 F, .int .i64 A, .int .i64 R, .int .i64 S, .int .i64 T] 29)).alloc (.cells #[.int .i64 0, .int .i64 0] 31)).alloc (.cells #[.int .i64 0, .int .i64 0] 31)).cell? ⟨w.heap.size + 1, 0, none⟩ = some (.int .i64 F) := by simp [go_sem]
  have c1_1 : ((((w.alloc (.cells #[.int .i64 N, .int .i64 lo, .int .i64 hi] 25)).alloc (.cells #[.int .i64 F, .int .i64 A, .int .i64 R, .int .i64 S, .int .i64 T] 29)).alloc (.cells #[.int .i64 0, .int .i64 0] 31)).alloc (.cells #[.int .i64 0, .int .i64 0] 31)).cell? ⟨w.heap.size + 1, 1, none⟩ = some (.int .i64 A) := by simp [go_sem]
  have c1_2 : ((((w.alloc (.cells #[.int .i64 N, .int .i64 lo, .int .i64 hi] 25)).alloc (.cells #[.int .i64 F, .int .i64 A, .int .i64 R, .int .i64 S, .int .i64 T] 29)).alloc (.cells #[.int .i64 0, .int .i64 0] 31)).alloc (.cells #[.int .i64 0, .int .i64 0] 31)).cell? ⟨w.heap.size + 1, 2, none⟩ = some (.int .i64 R) := by simp [go_sem]
  have c1_3 : ((((w.alloc (.cells #[.int .i64 N, .int .i64 lo, .int .i64 hi] 25)).alloc (.cells #[.int .i64 F, .int .i64 A, .int .i64 R, .int .i64 S, .int .i64 T] 29)).alloc (.cells #[.int .i64 0, .int .i64 0] 31)).alloc (.cells #[.int .i64 0, .int .i64 0] 31)).cell? ⟨w.heap.size + 1, 3, none⟩ = some (.int .i64 S) := by simp [go_sem]
  have c1_4 : ((((w.alloc (.cells #[.int .i64 N, .int .i64 lo, .int .i64 hi] 25)).alloc (.cells #[.int .i64 F, .int .i64 A, .int .i64 R, .int .i64 S, .int .i64 T] 29)).alloc (.cells #[.int .i64 0, .int .i64 0] 31)).alloc (.cells #[.int .i64 0, .int .i64 0] 31)).cell? ⟨w.heap.size + 1, 4, none⟩ = some (.int .i64 T) := by simp [go_sem]
  have c2_0 : ((((w.alloc (.cells #[.int .i64 N, .int .i64 lo, .int .i64 hi] 25)).alloc (.cells #[.int .i64 F, .int .i64 A, .int .i64 R, .int .i64 S, .int .i64 T] 29)).alloc (.cells #[.int .i64 0, .int .i64 0] 31)).alloc (.cells #[.int .i64 0, .int .i64 0] 31)).cell? ⟨w.heap.size + 1 + 1, 0, none⟩ = some (.int .i64 0) := by simp [go_sem]
  have c2_1 : ((((w.alloc (.cells #[.int .i64 N, .int .i64 lo, .int .i64 hi] 25)).alloc (.cells #[.int .i64 F, .int .i64 A, .int .i64 R, .int .i64 S, .int .i64 T] 29)).alloc (.cells #[.int .i64 0, .int .i64 0] 31)).alloc (.cells #[.int .i64 0, .int .i64 0] 31)).cell? ⟨w.heap.size + 1 + 1, 1, none⟩ = some (.int .i64 0) := by simp [go_sem]
  have c3_0 : ((((w.alloc (.cells #[.int .i64 N, .int .i64 lo, .int .i64 hi] 25)).alloc (.cells #[.int .i64 F, .int .i64 A, .int .i64 R, .int .i64 S, .int .i64 T] 29)).alloc (.cells #[.int .i64 0, .int .i64 0] 31)).alloc (.cells #[.int .i64 0, .int .i64 0] 31)).cell? ⟨w.heap.size + 1 + 1 + 1, 0, none⟩ = some (.int .i64 0) := by simp [go_sem]
  have c3_1 : ((((w.alloc (.cells #[.int .i64 N, .int .i64 lo, .int .i64 hi] 25)).alloc (.cells #[.int .i64 F, .int .i64 A, .int .i64 R, .int .i64 S, .int .i64 T] 29)).alloc (.cells #[.int .i64 0, .int .i64 0] 31)).alloc (.cells #[.int .i64 0, .int .i64 0] 31)).cell? ⟨w.heap.size + 1 + 1 + 1, 1, none⟩ = some (.int .i64 0) := by simp [go_sem]
  have f2_0 : ((((w.alloc (.cells #[.int .i64 N, .int .i64 lo, .int .i64 hi] 25)).alloc (.cells #[.int .i64 F, .int .i64 A, .int .i64 R, .int .i64 S, .int .i64 T] 29)).alloc (.cells #[.int .i64 0, .int .i64 0] 31)).alloc (.cells #[.int .i64 0, .int .i64 0] 31)).frozen? ⟨w.heap.size + 1 + 1, 0, none⟩ = false := by simp [go_sem]
  have f2_1 : ((((w.alloc (.cells #[.int .i64 N, .int .i64 lo, .int .i64 hi] 25)).alloc (.cells #[.int .i64 F, .int .i64 A, .int .i64 R, .int .i64 S, .int .i64 T] 29)).alloc (.cells #[.int .i64 0, .int .i64 0] 31)).alloc (.cells #[.int .i64 0, .int .i64 0] 31)).frozen? ⟨w.heap.size + 1 + 1, 1, none⟩ = false := by simp [go_sem]
  have f3_0 : ((((w.alloc (.cells #[.int .i64 N, .int .i64 lo, .int .i64 hi] 25)).alloc (.cells #[.int .i64 F, .int .i64 A, .int .i64 R, .int .i64 S, .int .i64 T] 29)).alloc (.cells #[.int .i64 0, .int .i64 0] 31)).alloc (.cells #[.int .i64 0, .int .i64 0] 31)).frozen? ⟨w.heap.size + 1 + 1 + 1, 0, none⟩ = false := by simp [go_sem]
  have f3_1 : ((((w.alloc (.cells #[.int .i64 N, .int .i64 lo, .int .i64 hi] 25)).alloc (.cells #[.int .i64 F, .int .i64 A, .int .i64 R, .int .i64 S, .int .i64 T] 29)).alloc (.cells #[.int .i64 0, .int .i64 0] 31)).alloc (.cells #[.int .i64 0, .int .i64 0] 31)).frozen? ⟨w.heap.size + 1 + 1 + 1, 1, none⟩ = false := by simp [go_sem]
  cases hc : cargoB N lo hi
  · have HC := Lib.hid hc
    have HV : Hid (twiceAll N lo hi D F A R S T = zz 10) := by show _ = _; rw [twiceAll, if_pos hc]
    clear hc
    go_enter Tryd.func25, Tryd.ntmps25
    go_wp2_with fail
    refine (cargoR_any N lo hi false _ HC.out).mono ?_
    rintro e w1 ⟨rfl, hB1⟩
    have K_w1 : Free.Bel ((((w.alloc (.cells #[.int .i64 N, .int .i64 lo, .int .i64 hi] 25)).alloc (.cells #[.int .i64 F, .int .i64 A, .int .i64 R, .int .i64 S, .int .i64 T] 29)).alloc (.cells #[.int .i64 0, .int .i64 0] 31)).alloc (.cells #[.int .i64 0, .int .i64 0] 31)) w1 := by
      refine Free.Bel.trans _ _ _ ?_ hB1
      repeat (first | exact Free.Bel.refl _ | refine Bel.allocT ?_ _ | refine Bel.drewT ?_)
    clear hB1
    have hq : w.heap.size + 4 = ((((w.alloc (.cells #[.int .i64 N, .int .i64 lo, .int .i64 hi] 25)).alloc (.cells #[.int .i64 F, .int .i64 A, .int .i64 R, .int .i64 S, .int .i64 T] 29)).alloc (.cells #[.int .i64 0, .int .i64 0] 31)).alloc (.cells #[.int .i64 0, .int .i64 0] 31)).heap.size := by simp
    generalize ((((w.alloc (.cells #[.int .i64 N, .int .i64 lo, .int .i64 hi] 25)).alloc (.cells #[.int .i64 F, .int .i64 A, .int .i64 R, .int .i64 S, .int .i64 T] 29)).alloc (.cells #[.int .i64 0, .int .i64 0] 31)).alloc (.cells #[.int .i64 0, .int .i64 0] 31)) = W0 at *
    generalize hbb : w.heap.size = bb at *
    have HBB := Lib.hid hbb
    clear hbb
    have HB0 := Lib.hid hB0
    have hq0 : bb + 4 ≤ W0.heap.size := by omega
    clear hB0 hq
    have FA : ∀ W, Free.Bel W0 W → W.cell? ⟨bb, 0, none⟩ = some (.int .i64 N) ∧ W.cell? ⟨bb, 1, none⟩ = some (.int .i64 lo) ∧ W.cell? ⟨bb, 2, none⟩ = some (.int .i64 hi) ∧ W.cell? ⟨bb + 1, 0, none⟩ = some (.int .i64 F) ∧ W.cell? ⟨bb + 1, 1, none⟩ = some (.int .i64 A) ∧ W.cell? ⟨bb + 1, 2, none⟩ = some (.int .i64 R) ∧ W.cell? ⟨bb + 1, 3, none⟩ = some (.int .i64 S) ∧ W.cell? ⟨bb + 1, 4, none⟩ = some (.int .i64 T) ∧ W.cell? ⟨bb + 1 + 1, 0, none⟩ = some (.int .i64 0) ∧ W.cell? ⟨bb + 1 + 1, 1, none⟩ = some (.int .i64 0) ∧ W.cell? ⟨bb + 1 + 1 + 1, 0, none⟩ = some (.int .i64 0) ∧ W.cell? ⟨bb + 1 + 1 + 1, 1, none⟩ = some (.int .i64 0) ∧ W.frozen? ⟨bb + 1 + 1, 0, none⟩ = false ∧ W.frozen? ⟨bb + 1 + 1, 1, none⟩ = false ∧ W.frozen? ⟨bb + 1 + 1 + 1, 0, none⟩ = false ∧ W.frozen? ⟨bb + 1 + 1 + 1, 1, none⟩ = false ∧ bb + 4 ≤ W.heap.size := fun W hW => ⟨keepsB hW c0_0, keepsB hW c0_1, keepsB hW c0_2, keepsB hW c1_0, keepsB hW c1_1, keepsB hW c1_2, keepsB hW c1_3, keepsB hW c1_4, keepsB hW c2_0, keepsB hW c2_1, keepsB hW c3_0, keepsB hW c3_1, (hW.frozen (p := ⟨bb + 1 + 1, 0, none⟩) (by simp; omega)).trans f2_0, (hW.frozen (p := ⟨bb + 1 + 1, 1, none⟩) (by simp; omega)).trans f2_1, (hW.frozen (p := ⟨bb + 1 + 1 + 1, 0, none⟩) (by simp; omega)).trans f3_0, (hW.frozen (p := ⟨bb + 1 + 1 + 1, 1, none⟩) (by simp; omega)).trans f3_1, Nat.le_trans hq0 hW.size⟩
    clear c0_0 c0_1 c0_2 c1_0 c1_1 c1_2 c1_3 c1_4 c2_0 c2_1 c3_0 c3_1 f2_0 f2_1 f3_0 f3_1
    go_wp2_with fail
    have hz := FA w1 K_w1
    have n1 := noop2 (w := w1) (b := bb + 1 + 1) (x := .int .i64 0) (y := .int .i64 0) (by simp [hz]) (by simp [hz])
    have n2 := noop2 (w := w1) (b := bb + 1 + 1 + 1) (x := .int .i64 0) (y := .int .i64 0) (by simp [hz]) (by simp [hz])
    rw [n1, n2]
    have hbb := HBB.out
    subst hbb
    exact bodyPost_ret (v := zz 10) (by simp [results, Tryd.results25, go_sem, zz, hz]) rfl ⟨by rw [HV.out], HB0.out.trans (K_w1.mono (by omega))⟩
  · have HC := Lib.hid hc
    have hN := (cargoB_iff N lo hi).1 hc
    clear hc
    cases hd : doubleB N F A R S T
    · have HD := Lib.hid hd
      have HV : Hid (twiceAll N lo hi D F A R S T = zz 13) := by show _ = _; rw [twiceAll, if_neg (by simp [HC.out]), twiceR, if_pos (by rw [← rights_eq]; exact hd)]
      clear hd
      go_enter Tryd.func25, Tryd.ntmps25
      go_wp2_with fail
      refine (cargoR_any N lo hi true _ HC.out).mono ?_
      rintro e w1 ⟨rfl, hB1⟩
      have K_w1 : Free.Bel ((((w.alloc (.cells #[.int .i64 N, .int .i64 lo, .int .i64 hi] 25)).alloc (.cells #[.int .i64 F, .int .i64 A, .int .i64 R, .int .i64 S, .int .i64 T] 29)).alloc (.cells #[.int .i64 0, .int .i64 0] 31)).alloc (.cells #[.int .i64 0, .int .i64 0] 31)) w1 := by
        refine Free.Bel.trans _ _ _ ?_ hB1
        repeat (first | exact Free.Bel.refl _ | refine Bel.allocT ?_ _ | refine Bel.drewT ?_)
      clear hB1
      have hq : w.heap.size + 4 = ((((w.alloc (.cells #[.int .i64 N, .int .i64 lo, .int .i64 hi] 25)).alloc (.cells #[.int .i64 F, .int .i64 A, .int .i64 R, .int .i64 S, .int .i64 T] 29)).alloc (.cells #[.int .i64 0, .int .i64 0] 31)).alloc (.cells #[.int .i64 0, .int .i64 0] 31)).heap.size := by simp
      generalize ((((w.alloc (.cells #[.int .i64 N, .int .i64 lo, .int .i64 hi] 25)).alloc (.cells #[.int .i64 F, .int .i64 A, .int .i64 R, .int .i64 S, .int .i64 T] 29)).alloc (.cells #[.int .i64 0, .int .i64 0] 31)).alloc (.cells #[.int .i64 0, .int .i64 0] 31)) = W0 at *
      generalize hbb : w.heap.size = bb at *
      have HBB := Lib.hid hbb
      clear hbb
      have HB0 := Lib.hid hB0
      have hq0 : bb + 4 ≤ W0.heap.size := by omega
      clear hB0 hq
      have FA : ∀ W, Free.Bel W0 W → W.cell? ⟨bb, 0, none⟩ = some (.int .i64 N) ∧ W.cell? ⟨bb, 1, none⟩ = some (.int .i64 lo) ∧ W.cell? ⟨bb, 2, none⟩ = some (.int .i64 hi) ∧ W.cell? ⟨bb + 1, 0, none⟩ = some (.int .i64 F) ∧ W.cell? ⟨bb + 1, 1, none⟩ = some (.int .i64 A) ∧ W.cell? ⟨bb + 1, 2, none⟩ = some (.int .i64 R) ∧ W.cell? ⟨bb + 1, 3, none⟩ = some (.int .i64 S) ∧ W.cell? ⟨bb + 1, 4, none⟩ = some (.int .i64 T) ∧ W.cell? ⟨bb + 1 + 1, 0, none⟩ = some (.int .i64 0) ∧ W.cell? ⟨bb + 1 + 1, 1, none⟩ = some (.int .i64 0) ∧ W.cell? ⟨bb + 1 + 1 + 1, 0, none⟩ = some (.int .i64 0) ∧ W.cell? ⟨bb + 1 + 1 + 1, 1, none⟩ = some (.int .i64 0) ∧ W.frozen? ⟨bb + 1 + 1, 0, none⟩ = false ∧ W.frozen? ⟨bb + 1 + 1, 1, none⟩ = false ∧ W.frozen? ⟨bb + 1 + 1 + 1, 0, none⟩ = false ∧ W.frozen? ⟨bb + 1 + 1 + 1, 1, none⟩ = false ∧ bb + 4 ≤ W.heap.size := fun W hW => ⟨keepsB hW c0_0, keepsB hW c0_1, keepsB hW c0_2, keepsB hW c1_0, keepsB hW c1_1, keepsB hW c1_2, keepsB hW c1_3, keepsB hW c1_4, keepsB hW c2_0, keepsB hW c2_1, keepsB hW c3_0, keepsB hW c3_1, (hW.frozen (p := ⟨bb + 1 + 1, 0, none⟩) (by simp; omega)).trans f2_0, (hW.frozen (p := ⟨bb + 1 + 1, 1, none⟩) (by simp; omega)).trans f2_1, (hW.frozen (p := ⟨bb + 1 + 1 + 1, 0, none⟩) (by simp; omega)).trans f3_0, (hW.frozen (p := ⟨bb + 1 + 1 + 1, 1, none⟩) (by simp; omega)).trans f3_1, Nat.le_trans hq0 hW.size⟩
      clear c0_0 c0_1 c0_2 c1_0 c1_1 c1_2 c1_3 c1_4 c2_0 c2_1 c3_0 c3_1 f2_0 f2_1 f3_0 f3_1
      go_wp2_with fail
      refine (doubleR_any N lo hi F A R S T false _ (by omega) HD.out).mono ?_
      rintro e w2 ⟨rfl, hB2⟩
      have K_w2 : Free.Bel W0 w2 := by
        refine Free.Bel.trans _ _ _ ?_ hB2
        repeat (first | exact K_w1 | exact Free.Bel.refl _ | refine Bel.allocT ?_ _ | refine Bel.drewT ?_)
      go_wp2_with fail
      have hz := FA w2 K_w2
      have n1 := noop2 (w := w2) (b := bb + 1 + 1) (x := .int .i64 0) (y := .int .i64 0) (by simp [hz]) (by simp [hz])
      have n2 := noop2 (w := w2) (b := bb + 1 + 1 + 1) (x := .int .i64 0) (y := .int .i64 0) (by simp [hz]) (by simp [hz])
      rw [n1, n2]
      have hbb := HBB.out
      subst hbb
      exact bodyPost_ret (v := zz 13) (by simp [results, Tryd.results25, go_sem, zz, hz]) rfl ⟨by rw [HV.out], HB0.out.trans (K_w2.mono (by omega))⟩
    · have HD := Lib.hid hd
      have hb0 := (doubleB_iff N F A R S T).1 hd
      have hRT : rightsB N F A R S T = true := by rw [← rights_eq]; exact hd
      clear hd
      cases hm : inB lo hi [D]
      · have HM := Lib.hid hm
        have HV : Hid (twiceAll N lo hi D F A R S T = zz 2) := by show _ = _; rw [twiceAll, if_neg (by simp [HC.out]), twiceR, if_neg (by simp [hRT]), if_pos hm]
        clear hm hRT
        go_enter Tryd.func25, Tryd.ntmps25
        go_wp2_with fail
        refine (cargoR_any N lo hi true _ HC.out).mono ?_
        rintro e w1 ⟨rfl, hB1⟩
        have K_w1 : Free.Bel ((((w.alloc (.cells #[.int .i64 N, .int .i64 lo, .int .i64 hi] 25)).alloc (.cells #[.int .i64 F, .int .i64 A, .int .i64 R, .int .i64 S, .int .i64 T] 29)).alloc (.cells #[.int .i64 0, .int .i64 0] 31)).alloc (.cells #[.int .i64 0, .int .i64 0] 31)) w1 := by
          refine Free.Bel.trans _ _ _ ?_ hB1
          repeat (first | exact Free.Bel.refl _ | refine Bel.allocT ?_ _ | refine Bel.drewT ?_)
        clear hB1
        have hq : w.heap.size + 4 = ((((w.alloc (.cells #[.int .i64 N, .int .i64 lo, .int .i64 hi] 25)).alloc (.cells #[.int .i64 F, .int .i64 A, .int .i64 R, .int .i64 S, .int .i64 T] 29)).alloc (.cells #[.int .i64 0, .int .i64 0] 31)).alloc (.cells #[.int .i64 0, .int .i64 0] 31)).heap.size := by simp
        generalize ((((w.alloc (.cells #[.int .i64 N, .int .i64 lo, .int .i64 hi] 25)).alloc (.cells #[.int .i64 F, .int .i64 A, .int .i64 R, .int .i64 S, .int .i64 T] 29)).alloc (.cells #[.int .i64 0, .int .i64 0] 31)).alloc (.cells #[.int .i64 0, .int .i64 0] 31)) = W0 at *
        generalize hbb : w.heap.size = bb at *
        have HBB := Lib.hid hbb
        clear hbb
        have HB0 := Lib.hid hB0
        have hq0 : bb + 4 ≤ W0.heap.size := by omega
        clear hB0 hq
        have FA : ∀ W, Free.Bel W0 W → W.cell? ⟨bb, 0, none⟩ = some (.int .i64 N) ∧ W.cell? ⟨bb, 1, none⟩ = some (.int .i64 lo) ∧ W.cell? ⟨bb, 2, none⟩ = some (.int .i64 hi) ∧ W.cell? ⟨bb + 1, 0, none⟩ = some (.int .i64 F) ∧ W.cell? ⟨bb + 1, 1, none⟩ = some (.int .i64 A) ∧ W.cell? ⟨bb + 1, 2, none⟩ = some (.int .i64 R) ∧ W.cell? ⟨bb + 1, 3, none⟩ = some (.int .i64 S) ∧ W.cell? ⟨bb + 1, 4, none⟩ = some (.int .i64 T) ∧ W.cell? ⟨bb + 1 + 1, 0, none⟩ = some (.int .i64 0) ∧ W.cell? ⟨bb + 1 + 1, 1, none⟩ = some (.int .i64 0) ∧ W.cell? ⟨bb + 1 + 1 + 1, 0, none⟩ = some (.int .i64 0) ∧ W.cell? ⟨bb + 1 + 1 + 1, 1, none⟩ = some (.int .i64 0) ∧ W.frozen? ⟨bb + 1 + 1, 0, none⟩ = false ∧ W.frozen? ⟨bb + 1 + 1, 1, none⟩ = false ∧ W.frozen? ⟨bb + 1 + 1 + 1, 0, none⟩ = false ∧ W.frozen? ⟨bb + 1 + 1 + 1, 1, none⟩ = false ∧ bb + 4 ≤ W.heap.size := fun W hW => ⟨keepsB hW c0_0, keepsB hW c0_1, keepsB hW c0_2, keepsB hW c1_0, keepsB hW c1_1, keepsB hW c1_2, keepsB hW c1_3, keepsB hW c1_4, keepsB hW c2_0, keepsB hW c2_1, keepsB hW c3_0, keepsB hW c3_1, (hW.frozen (p := ⟨bb + 1 + 1, 0, none⟩) (by simp; omega)).trans f2_0, (hW.frozen (p := ⟨bb + 1 + 1, 1, none⟩) (by simp; omega)).trans f2_1, (hW.frozen (p := ⟨bb + 1 + 1 + 1, 0, none⟩) (by simp; omega)).trans f3_0, (hW.frozen (p := ⟨bb + 1 + 1 + 1, 1, none⟩) (by simp; omega)).trans f3_1, Nat.le_trans hq0 hW.size⟩
        clear c0_0 c0_1 c0_2 c1_0 c1_1 c1_2 c1_3 c1_4 c2_0 c2_1 c3_0 c3_1 f2_0 f2_1 f3_0 f3_1
        go_wp2_with fail
        refine (doubleR_any N lo hi F A R S T true _ (by omega) HD.out).mono ?_
        rintro e w2 ⟨rfl, hB2⟩
        have K_w2 : Free.Bel W0 w2 := by
          refine Free.Bel.trans _ _ _ ?_ hB2
          repeat (first | exact K_w1 | exact Free.Bel.refl _ | refine Bel.allocT ?_ _ | refine Bel.drewT ?_)
        go_wp2_with fail
        refine (mayR_any N lo hi D false _ HM.out).mono ?_
        rintro e w3 ⟨rfl, hB3⟩
        have K_w3 : Free.Bel W0 w3 := by
          refine Free.Bel.trans _ _ _ ?_ hB3
          repeat (first | exact K_w2 | exact Free.Bel.refl _ | refine Bel.allocT ?_ _ | refine Bel.drewT ?_)
        go_wp2_with fail
        have hz := FA w3 K_w3
        have n1 := noop2 (w := w3) (b := bb + 1 + 1) (x := .int .i64 0) (y := .int .i64 0) (by simp [hz]) (by simp [hz])
        have n2 := noop2 (w := w3) (b := bb + 1 + 1 + 1) (x := .int .i64 0) (y := .int .i64 0) (by simp [hz]) (by simp [hz])
        rw [n1, n2]
        have hbb := HBB.out
        subst hbb
        exact bodyPost_ret (v := zz 2) (by simp [results, Tryd.results25, go_sem, zz, hz]) rfl ⟨by rw [HV.out], HB0.out.trans (K_w3.mono (by omega))⟩
      · have HM := Lib.hid hm
        have hD : lo ≤ D ∧ D ≤ hi := by simpa [inB] using hm
        have HV : Hid (twiceAll N lo hi D F A R S T = .tuple #[twiceV1 N D F A R S T, twiceV2 N D F A R S, .int .i64 0]) := by show _ = _; rw [twiceAll, if_neg (by simp [HC.out]), twiceR, if_neg (by simp [hRT]), if_neg (by simp [hm])]
        clear hm hRT
        go_enter Tryd.func25, Tryd.ntmps25
        go_wp2_with fail
        refine (cargoR_any N lo hi true _ HC.out).mono ?_
        rintro e w1 ⟨rfl, hB1⟩
        have K_w1 : Free.Bel ((((w.alloc (.cells #[.int .i64 N, .int .i64 lo, .int .i64 hi] 25)).alloc (.cells #[.int .i64 F, .int .i64 A, .int .i64 R, .int .i64 S, .int .i64 T] 29)).alloc (.cells #[.int .i64 0, .int .i64 0] 31)).alloc (.cells #[.int .i64 0, .int .i64 0] 31)) w1 := by
          refine Free.Bel.trans _ _ _ ?_ hB1
          repeat (first | exact Free.Bel.refl _ | refine Bel.allocT ?_ _ | refine Bel.drewT ?_)
        clear hB1
        have hq : w.heap.size + 4 = ((((w.alloc (.cells #[.int .i64 N, .int .i64 lo, .int .i64 hi] 25)).alloc (.cells #[.int .i64 F, .int .i64 A, .int .i64 R, .int .i64 S, .int .i64 T] 29)).alloc (.cells #[.int .i64 0, .int .i64 0] 31)).alloc (.cells #[.int .i64 0, .int .i64 0] 31)).heap.size := by simp
        generalize ((((w.alloc (.cells #[.int .i64 N, .int .i64 lo, .int .i64 hi] 25)).alloc (.cells #[.int .i64 F, .int .i64 A, .int .i64 R, .int .i64 S, .int .i64 T] 29)).alloc (.cells #[.int .i64 0, .int .i64 0] 31)).alloc (.cells #[.int .i64 0, .int .i64 0] 31)) = W0 at *
        generalize hbb : w.heap.size = bb at *
        have HBB := Lib.hid hbb
        clear hbb
        have HB0 := Lib.hid hB0
        have hq0 : bb + 4 ≤ W0.heap.size := by omega
        clear hB0 hq
        have FA : ∀ W, Free.Bel W0 W → W.cell? ⟨bb, 0, none⟩ = some (.int .i64 N) ∧ W.cell? ⟨bb, 1, none⟩ = some (.int .i64 lo) ∧ W.cell? ⟨bb, 2, none⟩ = some (.int .i64 hi) ∧ W.cell? ⟨bb + 1, 0, none⟩ = some (.int .i64 F) ∧ W.cell? ⟨bb + 1, 1, none⟩ = some (.int .i64 A) ∧ W.cell? ⟨bb + 1, 2, none⟩ = some (.int .i64 R) ∧ W.cell? ⟨bb + 1, 3, none⟩ = some (.int .i64 S) ∧ W.cell? ⟨bb + 1, 4, none⟩ = some (.int .i64 T) ∧ W.cell? ⟨bb + 1 + 1, 0, none⟩ = some (.int .i64 0) ∧ W.cell? ⟨bb + 1 + 1, 1, none⟩ = some (.int .i64 0) ∧ W.cell? ⟨bb + 1 + 1 + 1, 0, none⟩ = some (.int .i64 0) ∧ W.cell? ⟨bb + 1 + 1 + 1, 1, none⟩ = some (.int .i64 0) ∧ W.frozen? ⟨bb + 1 + 1, 0, none⟩ = false ∧ W.frozen? ⟨bb + 1 + 1, 1, none⟩ = false ∧ W.frozen? ⟨bb + 1 + 1 + 1, 0, none⟩ = false ∧ W.frozen? ⟨bb + 1 + 1 + 1, 1, none⟩ = false ∧ bb + 4 ≤ W.heap.size := fun W hW => ⟨keepsB hW c0_0, keepsB hW c0_1, keepsB hW c0_2, keepsB hW c1_0, keepsB hW c1_1, keepsB hW c1_2, keepsB hW c1_3, keepsB hW c1_4, keepsB hW c2_0, keepsB hW c2_1, keepsB hW c3_0, keepsB hW c3_1, (hW.frozen (p := ⟨bb + 1 + 1, 0, none⟩) (by simp; omega)).trans f2_0, (hW.frozen (p := ⟨bb + 1 + 1, 1, none⟩) (by simp; omega)).trans f2_1, (hW.frozen (p := ⟨bb + 1 + 1 + 1, 0, none⟩) (by simp; omega)).trans f3_0, (hW.frozen (p := ⟨bb + 1 + 1 + 1, 1, none⟩) (by simp; omega)).trans f3_1, Nat.le_trans hq0 hW.size⟩
        clear c0_0 c0_1 c0_2 c1_0 c1_1 c1_2 c1_3 c1_4 c2_0 c2_1 c3_0 c3_1 f2_0 f2_1 f3_0 f3_1
        go_wp2_with fail
        refine (doubleR_any N lo hi F A R S T true _ (by omega) HD.out).mono ?_
        rintro e w2 ⟨rfl, hB2⟩
        have K_w2 : Free.Bel W0 w2 := by
          refine Free.Bel.trans _ _ _ ?_ hB2
          repeat (first | exact K_w1 | exact Free.Bel.refl _ | refine Bel.allocT ?_ _ | refine Bel.drewT ?_)
        go_wp2_with fail
        refine (mayR_any N lo hi D true _ HM.out).mono ?_
        rintro e w3 ⟨rfl, hB3⟩
        have K_w3 : Free.Bel W0 w3 := by
          refine Free.Bel.trans _ _ _ ?_ hB3
          repeat (first | exact K_w2 | exact Free.Bel.refl _ | refine Bel.allocT ?_ _ | refine Bel.drewT ?_)
        clear K_w1 K_w2 hB2 hB3
        have hwr1 : IntKind.i64.wrap (N - F) = N - F := IntWalk.i64_in _ (by omega)
        go_wp2_with fail
        have hF : ∀ W, Free.Bel w3.drew W → Free.Bel W0 W := fun W hW => Free.Bel.trans _ _ _ (Bel.drewT K_w3) hW
        refine Free.wp_free (R := Free.Bel) (by kernel_rfl) (by kernel_rfl) Free.Bel.refl Free.Bel.trans ?_
        refine Free.Chain.ex ?_ [] [3] (by kernel_rfl) (by kernel_rfl) rfl Free.Bel.refl ?_ ?_
        rotate_left
        · (intro ev W hb hR hO hD; have hS := hF W hR; obtain ⟨hb1, hb2, hb3⟩ := hb; simp only [Free.AllDeps, Free.AllOuts, Free.At, List.getElem?_cons_succ, List.getElem?_cons_zero, Array.getD_eq_getD_getElem?, List.getElem?_toArray, Option.getD_some, and_true] at hO hD; go_simp; rfl)
        simp only [List.nil_append, List.cons_append]
        refine Free.Chain.ex ?_ [(0, 38)] [] (by kernel_rfl) (by kernel_rfl) rfl Free.Bel.refl ?_ ?_
        rotate_left
        · (intro ev W hb hR hO hD; have hS := hF W hR; obtain ⟨hb1, hb2, hb3⟩ := hb; simp only [Free.AllDeps, Free.AllOuts, Free.At, List.getElem?_cons_succ, List.getElem?_cons_zero, Array.getD_eq_getD_getElem?, List.getElem?_toArray, Option.getD_some, and_true] at hO hD; go_simp; rfl)
        simp only [List.nil_append, List.cons_append]
        refine Free.Chain.ex ?_ [] [4] (by kernel_rfl) (by kernel_rfl) rfl Free.Bel.refl ?_ ?_
        rotate_left
        · (intro ev W hb hR hO hD; have hS := hF W hR; obtain ⟨hb1, hb2, hb3⟩ := hb; simp only [Free.AllDeps, Free.AllOuts, Free.At, List.getElem?_cons_succ, List.getElem?_cons_zero, Array.getD_eq_getD_getElem?, List.getElem?_toArray, Option.getD_some, and_true] at hO hD; go_simp; rfl)
        simp only [List.nil_append, List.cons_append]
        refine Free.Chain.ex ?_ [(2, 40)] [] (by kernel_rfl) (by kernel_rfl) rfl Free.Bel.refl ?_ ?_
        rotate_left
        · (intro ev W hb hR hO hD; have hS := hF W hR; obtain ⟨hb1, hb2, hb3⟩ := hb; simp only [Free.AllDeps, Free.AllOuts, Free.At, List.getElem?_cons_succ, List.getElem?_cons_zero, Array.getD_eq_getD_getElem?, List.getElem?_toArray, Option.getD_some, and_true] at hO hD; go_simp; rfl)
        simp only [List.nil_append, List.cons_append]
        refine Free.Chain.pr (fun v _ => v = .int .i64 (chI N F)) [(1, 39), (3, 41)] [] (by kernel_rfl) (by kernel_rfl) rfl (fun _ _ _ _ h => h) ?_ ?_
        · (intro ev W hb hR hO hD; have hS := hF W hR; obtain ⟨hb1, hb2, hb3⟩ := hb; simp only [Free.AllDeps, Free.AllOuts, Free.At, List.getElem?_cons_succ, List.getElem?_cons_zero, Array.getD_eq_getD_getElem?, List.getElem?_toArray, Option.getD_some, and_true] at hO hD; go_simp; refine yields_enter ?_; with_reducible refine (choose_any N F _ (by omega) (by omega) (by omega)).mono ?_; rintro e W2 ⟨rfl, rfl⟩; exact ⟨_, rfl, Free.Bel.refl _, rfl⟩)
        simp only [List.nil_append, List.cons_append]
        refine Free.Chain.ex ?_ [] [9] (by kernel_rfl) (by kernel_rfl) rfl Free.Bel.refl ?_ ?_
        rotate_left
        · (intro ev W hb hR hO hD; have hS := hF W hR; obtain ⟨hb1, hb2, hb3⟩ := hb; simp only [Free.AllDeps, Free.AllOuts, Free.At, List.getElem?_cons_succ, List.getElem?_cons_zero, Array.getD_eq_getD_getElem?, List.getElem?_toArray, Option.getD_some, and_true] at hO hD; go_simp; rfl)
        simp only [List.nil_append, List.cons_append]
        refine Free.Chain.ex ?_ [] [4] (by kernel_rfl) (by kernel_rfl) rfl Free.Bel.refl ?_ ?_
        rotate_left
        · (intro ev W hb hR hO hD; have hS := hF W hR; obtain ⟨hb1, hb2, hb3⟩ := hb; simp only [Free.AllDeps, Free.AllOuts, Free.At, List.getElem?_cons_succ, List.getElem?_cons_zero, Array.getD_eq_getD_getElem?, List.getElem?_toArray, Option.getD_some, and_true] at hO hD; go_simp; rfl)
        simp only [List.nil_append, List.cons_append]
        refine Free.Chain.ex ?_ [(6, 44)] [] (by kernel_rfl) (by kernel_rfl) rfl Free.Bel.refl ?_ ?_
        rotate_left
        · (intro ev W hb hR hO hD; have hS := hF W hR; obtain ⟨hb1, hb2, hb3⟩ := hb; simp only [Free.AllDeps, Free.AllOuts, Free.At, List.getElem?_cons_succ, List.getElem?_cons_zero, Array.getD_eq_getD_getElem?, List.getElem?_toArray, Option.getD_some, and_true] at hO hD; go_simp; rfl)
        simp only [List.nil_append, List.cons_append]
        refine Free.Chain.pr (fun v _ => v = .int .i64 (chI (N - F) S)) [(5, 43), (7, 45), (4, 42)] [] (by kernel_rfl) (by kernel_rfl) rfl (fun _ _ _ _ h => h) ?_ ?_
        · (intro ev W hb hR hO hD; have hS := hF W hR; obtain ⟨hb1, hb2, hb3⟩ := hb; simp only [Free.AllDeps, Free.AllOuts, Free.At, List.getElem?_cons_succ, List.getElem?_cons_zero, Array.getD_eq_getD_getElem?, List.getElem?_toArray, Option.getD_some, and_true] at hO hD; go_simp; refine yields_enter ?_; with_reducible refine (choose_any (N - F) S _ (by omega) (by omega) (by omega)).mono ?_; rintro e W2 ⟨rfl, rfl⟩; exact ⟨_, rfl, Free.Bel.refl _, rfl⟩)
        simp only [List.nil_append, List.cons_append]
        refine Free.Chain.ex ?_ [(4, 42), (8, 46), (0, 38), (1, 39), (2, 40), (3, 41), (4, 42)] [] (by kernel_rfl) (by kernel_rfl) rfl Free.Bel.refl ?_ ?_
        rotate_left
        · (intro ev W hb hR hO hD; have hS := hF W hR; obtain ⟨hb1, hb2, hb3⟩ := hb; simp only [Free.AllDeps, Free.AllOuts, Free.At, List.getElem?_cons_succ, List.getElem?_cons_zero, Array.getD_eq_getD_getElem?, List.getElem?_toArray, Option.getD_some, and_true] at hO hD; go_simp; rfl)
        simp only [List.nil_append, List.cons_append]
        refine Free.Chain.ex ?_ [(8, 46), (9, 10), (0, 38), (1, 39), (2, 40), (3, 41), (4, 42), (5, 43), (6, 44), (7, 45), (8, 46), (9, 10)] [] (by kernel_rfl) (by kernel_rfl) rfl Free.Bel.refl ?_ ?_
        rotate_left
        · (intro ev W hb hR hO hD; have hS := hF W hR; obtain ⟨hb1, hb2, hb3⟩ := hb; simp only [Free.AllDeps, Free.AllOuts, Free.At, List.getElem?_cons_succ, List.getElem?_cons_zero, Array.getD_eq_getD_getElem?, List.getElem?_toArray, Option.getD_some, and_true] at hO hD; go_simp; rfl)
        simp only [List.nil_append, List.cons_append]
        intro xs w4 hR hV
        simp only [Free.AllV, Free.At, List.length_cons, List.length_nil, Nat.reduceAdd, List.getElem?_cons_succ, List.getElem?_cons_zero, true_and] at hV
        simp only [Free.putsFrom, Act.put, hV, List.setIfInBounds_toArray, List.set_cons_succ, List.set_cons_zero]
        have K_w4 := hF w4 hR
        clear hR hV hF K_w3
        have hOb := chI_pos N F (by omega) (by omega) hb0.1 hb0.2.1
        have hCb := chI_pos (N - F) S (by omega) (by omega) hb0.2.2.1 hb0.2.2.2.1
        have hOC := chI_three N F S (by omega) hb0.1 hb0.2.1
        generalize hCe : chI (N - F) S = C at *
        have HCE := Lib.hid hCe
        clear hCe
        have h0N : 0 ≤ D ∧ D ≤ N := by omega
        go_wp2_with fail
        go_loop [12, 13, 14] (fun s g i => ∃ k : Nat, (k : Int) ≤ F + 1 ∧ i = .int .i64 k ∧ s = .int .i64 (accI N D F A S T (min k R.toNat)) ∧ g = .int .i64 (againI N D F A (min k R.toNat))) (fun _ _ i => (F + 1 - intOf i).toNat)
        case atStart => exact ⟨0, by omega, rfl, by simp [accI], by simp [againI]⟩
        case round =>
          obtain ⟨k, hk, rfl, rfl, rfl⟩ := hrel
          by_cases hlt : (k : Int) ≤ F
          · by_cases hkR : (k : Int) < R
            · rw [show min k R.toNat = k by omega]
              have HMI := Lib.hid (show min (k + 1) R.toNat = k + 1 by omega)
              have ba := accI_bound N D F A S T (by omega) h0N.1 h0N.2 hb0.1 hb0.2.1 hb0.2.2.1 k
              have bg := againI_bound N D F A (by omega) h0N.1 h0N.2 hb0.1 k
              have bh := againI_bound N D F A (by omega) h0N.1 h0N.2 hb0.1 (k + 1)
              have bn := accI_bound N D F A S T (by omega) h0N.1 h0N.2 hb0.1 hb0.2.1 hb0.2.2.1 (k + 1)
              have bw := waysI_bound N D F k (by omega) h0N.1 h0N.2
              have HST := Lib.hid (show accI N D F A S T (k + 1) = accI N D F A S T k + waysI N D F k * restI N D F A S T k ∧ againI N D F A (k + 1) = againI N D F A k + (if (k : Int) ≤ A then 0 else waysI N D F k) from ⟨rfl, rfl⟩)
              have HWN := Lib.hid (ways_ne N D F k h0N.1 h0N.2)
              have HRB := Lib.hid (restI_bound N D F A S T k h0N.1 h0N.2 hb0.1 hb0.2.1 hb0.2.2.1)
              go_wp2_with fail
              refine (countR_any N D F k _ (by omega) (by omega) (by omega) (by omega) (by omega) (by omega)).mono ?_
              rintro e w5 ⟨rfl, rfl⟩
              rw [HST.out.1] at bn
              rw [HST.out.2] at bh
              generalize hge : waysI N D F k = g at *
              have HGE := Lib.hid hge
              clear hge
              generalize hae : accI N D F A S T k = a at *
              generalize hge : againI N D F A k = g2 at *
              have HAE := Lib.hid (And.intro hae hge)
              clear hae hge
              by_cases hg0 : g = 0
              · subst hg0
                go_wp2_with fail
                go_round
                case rel => exact ⟨k + 1, by omega, by go_num, by rw [HMI.out, HST.out.1]; simp, by rw [HMI.out, HST.out.2]; simp⟩
                case measure => simp [intOf]; omega
              · have hg1 := HWN.out hg0
                have hg00 : (g == 0) = false := by simpa using hg0
                have hRk : decide (R ≤ (k : Int)) = false := by simp; omega
                by_cases hkA : (k : Int) ≤ A
                · have hrest : Hid (restI N D F A S T k = C) := by show _ = _; rw [restI, if_pos hkA, HCE.out]
                  rw [hrest.out] at bn
                  have bm : 0 ≤ g * C ∧ g * C ≤ 5000000000000000000 := ⟨Int.mul_nonneg bw.1 (by omega), by omega⟩
                  go_wp2_with fail
                  go_round
                  case rel => exact ⟨k + 1, by omega, by go_num, by rw [HMI.out, HST.out.1, hrest.out], by rw [HMI.out, HST.out.2, if_pos hkA]; simp⟩
                  case measure => simp [intOf]; omega
                · rw [if_neg hkA] at bh
                  have HST2 := Lib.hid (show restI N D F A S T k = fewI (N - F) (D - k) S (T - k + 1).toNat by rw [restI, if_neg hkA]; exact (few_min _ _ _ _).symm)
                  have hrb := HRB.out hg0
                  rw [HST2.out] at bn hrb
                  go_wp2_with fail
                  refine (few_all (N - F) (D - k) S (T - k) _ (by omega) (by omega) (by omega) (by omega) (by omega)).mono ?_
                  rintro e w6 ⟨rfl, rfl⟩
                  generalize hfe : fewI (N - F) (D - k) S (T - k + 1).toNat = f at *
                  have HFE := Lib.hid hfe
                  clear hfe
                  have bm : 0 ≤ g * f ∧ g * f ≤ 5000000000000000000 := ⟨Int.mul_nonneg bw.1 hrb.1, by omega⟩
                  go_wp2_with fail
                  go_round
                  case rel => exact ⟨k + 1, by omega, by go_num, by rw [HMI.out, HST.out.1, HST2.out], by rw [HMI.out, HST.out.2, if_neg (by omega)]⟩
                  case measure => simp [intOf]; omega
            · rw [show min k R.toNat = R.toNat by omega]
              have HMI := Lib.hid (show min (k + 1) R.toNat = R.toNat by omega)
              have bw := waysI_bound N D F k (by omega) h0N.1 h0N.2
              go_wp2_with fail
              refine (countR_any N D F k _ (by omega) (by omega) (by omega) (by omega) (by omega) (by omega)).mono ?_
              rintro e w5 ⟨rfl, rfl⟩
              have hRk : decide (R ≤ (k : Int)) = true := by simp; omega
              generalize hae : accI N D F A S T R.toNat = a at *
              generalize hge : againI N D F A R.toNat = g2 at *
              have HAE := Lib.hid (And.intro hae hge)
              clear hae hge
              generalize waysI N D F k = g at *
              by_cases hg0 : g = 0
              · subst hg0
                go_wp2_with fail
                go_round
                case rel => exact ⟨k + 1, by omega, by go_num, by rw [HMI.out, HAE.out.1], by rw [HMI.out, HAE.out.2]⟩
                case measure => simp [intOf]; omega
              · have hg00 : (g == 0) = false := by simpa using hg0
                go_wp2_with fail
                go_round
                case rel => exact ⟨k + 1, by omega, by go_num, by rw [HMI.out, HAE.out.1], by rw [HMI.out, HAE.out.2]⟩
                case measure => simp [intOf]; omega
          · rw [show min k R.toNat = R.toNat by omega]
            have ba := accI_bound N D F A S T (by omega) h0N.1 h0N.2 hb0.1 hb0.2.1 hb0.2.2.1 R.toNat
            have bg := againI_bound N D F A (by omega) h0N.1 h0N.2 hb0.1 R.toNat
            generalize hae : accI N D F A S T R.toNat = a at *
            generalize hge : againI N D F A R.toNat = g2 at *
            have HAE := Lib.hid (And.intro hae hge)
            clear hae hge
            generalize hOe : chI N F = O at *
            have HOE := Lib.hid hOe
            clear hOe
            have hO1 : 0 ≤ O * C ∧ 1 ≤ O * C := by have h1 := Int.mul_le_mul hOb.1 hCb.1 (by omega) (by omega); omega
            have hF1 : 0 ≤ F * O ∧ F * O ≤ 3000000000000 := ⟨Int.mul_nonneg hb0.1 (by omega), by have h1 := Int.mul_le_mul (show F ≤ 36 by omega) hOb.2 (by omega) (by omega); omega⟩
            have hS1 : 0 ≤ S * g2 ∧ S * g2 ≤ 3000000000000 := ⟨Int.mul_nonneg hb0.2.2.1 bg.1, by have h1 := Int.mul_le_mul (show S ≤ 36 by omega) bg.2 bg.1 (by omega); omega⟩
            obtain ⟨p1, q1, hp1⟩ : ∃ p q : Int, partV a.toNat (O * C).toNat = .agg #[.int .i64 p, .int .i64 q] := ⟨_, _, rfl⟩
            obtain ⟨p2, q2, hp2⟩ : ∃ p q : Int, partV (F * O + S * g2).toNat O.toNat = .agg #[.int .i64 p, .int .i64 q] := ⟨_, _, rfl⟩
            have k1 := Lib.hid (fun W => least_int a (O * C) ba.1 (by omega) (by omega) (by omega) _ hp1 W)
            have k2 := Lib.hid (fun W => least_int (F * O + S * g2) O (by omega) (by omega) (by omega) (by omega) _ hp2 W)
            have HP := Lib.hid (And.intro hp1 hp2)
            clear hp1 hp2
            have hwr2 : IntKind.i64.wrap (O * C) = O * C := IntWalk.i64_in _ (by omega)
            have hwr3 : IntKind.i64.wrap (F * O) = F * O := IntWalk.i64_in _ (by omega)
            have hwr4 : IntKind.i64.wrap (S * g2) = S * g2 := IntWalk.i64_in _ (by omega)
            have hwr5 : IntKind.i64.wrap (F * O + S * g2) = F * O + S * g2 := IntWalk.i64_in _ (by omega)
            go_wp2_with fail
            have FB6 := Lib.hid (FA w4 K_w4)
            have hbs : bb + 4 ≤ w4.heap.size := by have h1 := FB6.out; omega
            have TT : Two (bb + 1 + 1) (.int .i64 0) (.int .i64 0) w4 ∧ Two (bb + 1 + 1 + 1) (.int .i64 0) (.int .i64 0) w4 := by
              have h1 := FB6.out
              exact ⟨⟨by simp [h1], by simp [h1], by simp [h1], by simp [h1]⟩, ⟨by simp [h1], by simp [h1], by simp [h1], by simp [h1]⟩⟩
            have hF : ∀ W, KeptX bb [bb + 1 + 1, bb + 1 + 1 + 1] w4.drew W → W.cell? ⟨bb + 1, 0, none⟩ = some (.int .i64 F) ∧ W.cell? ⟨bb + 1, 3, none⟩ = some (.int .i64 S) := fun W hW => by
              have h1 := FB6.out
              have c0 : w4.cell? ⟨bb + 1, 0, none⟩ = some (.int .i64 F) := by simp [h1]
              have c3 : w4.cell? ⟨bb + 1, 3, none⟩ = some (.int .i64 S) := by simp [h1]
              exact ⟨hW.cell (w := w4.drew) c0 (by simp) (by simp), hW.cell (w := w4.drew) c3 (by simp) (by simp)⟩
            refine Free2.wp_free (R := KeptX bb [bb + 1 + 1, bb + 1 + 1 + 1]) (J := F2 bb 16 (bb + 1 + 1) 17 (bb + 1 + 1 + 1) (.int .i64 0) (.int .i64 0) (.int .i64 p1) (.int .i64 q1) (.int .i64 0) (.int .i64 0) (.int .i64 p2) (.int .i64 q2)) (by kernel_rfl) (by kernel_rfl) (KeptX.refl _ _) (fun _ _ _ => KeptX.trans) (F2.start ⟨TT.1.c0, TT.1.c1, TT.1.f0, TT.1.f1⟩ ⟨TT.2.c0, TT.2.c1, TT.2.f0, TT.2.f1⟩ (by omega)) ?_
            refine Free2.Chain.ex ?_ 0 rfl [] [12] (by kernel_rfl) (by kernel_rfl) rfl (KeptX.refl _ _) (fun X W v h => F2.skip h 0 v (show (0 : Nat) ≠ 16 by decide) (show (0 : Nat) ≠ 17 by decide)) ?_ ?_
            rotate_left
            · (intro ev W hb hR hO hD; have hS := hF W hR; obtain ⟨hb1, hb2, hb3⟩ := hb; simp only [Free.AllDeps, Free.AllOuts, Free.At, List.getElem?_cons_succ, List.getElem?_cons_zero, Array.getD_eq_getD_getElem?, List.getElem?_toArray, Option.getD_some, and_true] at hO hD; go_simp; rfl)
            simp only [List.nil_append, List.cons_append]
            refine Free2.Chain.ex ?_ 1 rfl [] [10] (by kernel_rfl) (by kernel_rfl) rfl (KeptX.refl _ _) (fun X W v h => F2.skip h 1 v (show (1 : Nat) ≠ 16 by decide) (show (1 : Nat) ≠ 17 by decide)) ?_ ?_
            rotate_left
            · (intro ev W hb hR hO hD; have hS := hF W hR; obtain ⟨hb1, hb2, hb3⟩ := hb; simp only [Free.AllDeps, Free.AllOuts, Free.At, List.getElem?_cons_succ, List.getElem?_cons_zero, Array.getD_eq_getD_getElem?, List.getElem?_toArray, Option.getD_some, and_true] at hO hD; go_simp; rfl)
            simp only [List.nil_append, List.cons_append]
            refine Free2.Chain.ex ?_ 2 rfl [] [11] (by kernel_rfl) (by kernel_rfl) rfl (KeptX.refl _ _) (fun X W v h => F2.skip h 2 v (show (2 : Nat) ≠ 16 by decide) (show (2 : Nat) ≠ 17 by decide)) ?_ ?_
            rotate_left
            · (intro ev W hb hR hO hD; have hS := hF W hR; obtain ⟨hb1, hb2, hb3⟩ := hb; simp only [Free.AllDeps, Free.AllOuts, Free.At, List.getElem?_cons_succ, List.getElem?_cons_zero, Array.getD_eq_getD_getElem?, List.getElem?_toArray, Option.getD_some, and_true] at hO hD; go_simp; rfl)
            simp only [List.nil_append, List.cons_append]
            refine Free2.Chain.ex ?_ 3 rfl [(1, 96), (2, 97)] [] (by kernel_rfl) (by kernel_rfl) rfl (KeptX.refl _ _) (fun X W v h => F2.skip h 3 v (show (3 : Nat) ≠ 16 by decide) (show (3 : Nat) ≠ 17 by decide)) ?_ ?_
            rotate_left
            · (intro ev W hb hR hO hD; have hS := hF W hR; obtain ⟨hb1, hb2, hb3⟩ := hb; simp only [Free.AllDeps, Free.AllOuts, Free.At, List.getElem?_cons_succ, List.getElem?_cons_zero, Array.getD_eq_getD_getElem?, List.getElem?_toArray, Option.getD_some, and_true] at hO hD; go_simp; rfl)
            simp only [List.nil_append, List.cons_append]
            refine Free2.Chain.pr (fun v _ => v = .agg #[.int .i64 p1, .int .i64 q1]) 4 rfl [(0, 95), (3, 98)] [] (by kernel_rfl) (by kernel_rfl) rfl (fun _ _ _ _ h => h) ?_ ?_
            · (intro ev W X hb hR hO hD hj hx hax; have hS := hF W hR; obtain ⟨hb1, hb2, hb3⟩ := hb; simp only [Free.AllDeps, Free.AllOuts, Free.At, List.getElem?_cons_succ, List.getElem?_cons_zero, Array.getD_eq_getD_getElem?, List.getElem?_toArray, Option.getD_some, and_true] at hO hD; simp only [Free2.AllX, and_true] at hax; go_simp; refine yields_enter ?_; with_reducible refine (k1.out _).mono ?_; rintro e W1 ⟨rfl, hB1⟩; exact ⟨_, rfl, KeptX.of_kept (.of_below hB1), rfl, (hj.kept (.of_below hB1)).skip 4 _ (by decide) (by decide)⟩)
            simp only [List.nil_append, List.cons_append]
            refine Free2.Chain.ex ?_ 5 rfl [] [4] (by kernel_rfl) (by kernel_rfl) rfl (KeptX.refl _ _) (fun X W v h => F2.skip h 5 v (show (5 : Nat) ≠ 16 by decide) (show (5 : Nat) ≠ 17 by decide)) ?_ ?_
            rotate_left
            · (intro ev W hb hR hO hD; have hS := hF W hR; obtain ⟨hb1, hb2, hb3⟩ := hb; simp only [Free.AllDeps, Free.AllOuts, Free.At, List.getElem?_cons_succ, List.getElem?_cons_zero, Array.getD_eq_getD_getElem?, List.getElem?_toArray, Option.getD_some, and_true] at hO hD; go_simp; rfl)
            simp only [List.nil_append, List.cons_append]
            refine Free2.Chain.ex ?_ 6 rfl [(5, 100)] [] (by kernel_rfl) (by kernel_rfl) rfl (KeptX.refl _ _) (fun X W v h => F2.skip h 6 v (show (6 : Nat) ≠ 16 by decide) (show (6 : Nat) ≠ 17 by decide)) ?_ ?_
            rotate_left
            · (intro ev W hb hR hO hD; have hS := hF W hR; obtain ⟨hb1, hb2, hb3⟩ := hb; simp only [Free.AllDeps, Free.AllOuts, Free.At, List.getElem?_cons_succ, List.getElem?_cons_zero, Array.getD_eq_getD_getElem?, List.getElem?_toArray, Option.getD_some, and_true] at hO hD; go_simp; rfl)
            simp only [List.nil_append, List.cons_append]
            refine Free2.Chain.ex ?_ 7 rfl [] [10] (by kernel_rfl) (by kernel_rfl) rfl (KeptX.refl _ _) (fun X W v h => F2.skip h 7 v (show (7 : Nat) ≠ 16 by decide) (show (7 : Nat) ≠ 17 by decide)) ?_ ?_
            rotate_left
            · (intro ev W hb hR hO hD; have hS := hF W hR; obtain ⟨hb1, hb2, hb3⟩ := hb; simp only [Free.AllDeps, Free.AllOuts, Free.At, List.getElem?_cons_succ, List.getElem?_cons_zero, Array.getD_eq_getD_getElem?, List.getElem?_toArray, Option.getD_some, and_true] at hO hD; go_simp; rfl)
            simp only [List.nil_append, List.cons_append]
            refine Free2.Chain.ex ?_ 8 rfl [(6, 101), (7, 102)] [] (by kernel_rfl) (by kernel_rfl) rfl (KeptX.refl _ _) (fun X W v h => F2.skip h 8 v (show (8 : Nat) ≠ 16 by decide) (show (8 : Nat) ≠ 17 by decide)) ?_ ?_
            rotate_left
            · (intro ev W hb hR hO hD; have hS := hF W hR; obtain ⟨hb1, hb2, hb3⟩ := hb; simp only [Free.AllDeps, Free.AllOuts, Free.At, List.getElem?_cons_succ, List.getElem?_cons_zero, Array.getD_eq_getD_getElem?, List.getElem?_toArray, Option.getD_some, and_true] at hO hD; go_simp; rfl)
            simp only [List.nil_append, List.cons_append]
            refine Free2.Chain.ex ?_ 9 rfl [] [4] (by kernel_rfl) (by kernel_rfl) rfl (KeptX.refl _ _) (fun X W v h => F2.skip h 9 v (show (9 : Nat) ≠ 16 by decide) (show (9 : Nat) ≠ 17 by decide)) ?_ ?_
            rotate_left
            · (intro ev W hb hR hO hD; have hS := hF W hR; obtain ⟨hb1, hb2, hb3⟩ := hb; simp only [Free.AllDeps, Free.AllOuts, Free.At, List.getElem?_cons_succ, List.getElem?_cons_zero, Array.getD_eq_getD_getElem?, List.getElem?_toArray, Option.getD_some, and_true] at hO hD; go_simp; rfl)
            simp only [List.nil_append, List.cons_append]
            refine Free2.Chain.ex ?_ 10 rfl [(9, 104)] [] (by kernel_rfl) (by kernel_rfl) rfl (KeptX.refl _ _) (fun X W v h => F2.skip h 10 v (show (10 : Nat) ≠ 16 by decide) (show (10 : Nat) ≠ 17 by decide)) ?_ ?_
            rotate_left
            · (intro ev W hb hR hO hD; have hS := hF W hR; obtain ⟨hb1, hb2, hb3⟩ := hb; simp only [Free.AllDeps, Free.AllOuts, Free.At, List.getElem?_cons_succ, List.getElem?_cons_zero, Array.getD_eq_getD_getElem?, List.getElem?_toArray, Option.getD_some, and_true] at hO hD; go_simp; rfl)
            simp only [List.nil_append, List.cons_append]
            refine Free2.Chain.ex ?_ 11 rfl [] [13] (by kernel_rfl) (by kernel_rfl) rfl (KeptX.refl _ _) (fun X W v h => F2.skip h 11 v (show (11 : Nat) ≠ 16 by decide) (show (11 : Nat) ≠ 17 by decide)) ?_ ?_
            rotate_left
            · (intro ev W hb hR hO hD; have hS := hF W hR; obtain ⟨hb1, hb2, hb3⟩ := hb; simp only [Free.AllDeps, Free.AllOuts, Free.At, List.getElem?_cons_succ, List.getElem?_cons_zero, Array.getD_eq_getD_getElem?, List.getElem?_toArray, Option.getD_some, and_true] at hO hD; go_simp; rfl)
            simp only [List.nil_append, List.cons_append]
            refine Free2.Chain.ex ?_ 12 rfl [(10, 105), (11, 106)] [] (by kernel_rfl) (by kernel_rfl) rfl (KeptX.refl _ _) (fun X W v h => F2.skip h 12 v (show (12 : Nat) ≠ 16 by decide) (show (12 : Nat) ≠ 17 by decide)) ?_ ?_
            rotate_left
            · (intro ev W hb hR hO hD; have hS := hF W hR; obtain ⟨hb1, hb2, hb3⟩ := hb; simp only [Free.AllDeps, Free.AllOuts, Free.At, List.getElem?_cons_succ, List.getElem?_cons_zero, Array.getD_eq_getD_getElem?, List.getElem?_toArray, Option.getD_some, and_true] at hO hD; go_simp; rfl)
            simp only [List.nil_append, List.cons_append]
            refine Free2.Chain.ex ?_ 13 rfl [(8, 103), (12, 107)] [] (by kernel_rfl) (by kernel_rfl) rfl (KeptX.refl _ _) (fun X W v h => F2.skip h 13 v (show (13 : Nat) ≠ 16 by decide) (show (13 : Nat) ≠ 17 by decide)) ?_ ?_
            rotate_left
            · (intro ev W hb hR hO hD; have hS := hF W hR; obtain ⟨hb1, hb2, hb3⟩ := hb; simp only [Free.AllDeps, Free.AllOuts, Free.At, List.getElem?_cons_succ, List.getElem?_cons_zero, Array.getD_eq_getD_getElem?, List.getElem?_toArray, Option.getD_some, and_true] at hO hD; go_simp; rfl)
            simp only [List.nil_append, List.cons_append]
            refine Free2.Chain.ex ?_ 14 rfl [] [10] (by kernel_rfl) (by kernel_rfl) rfl (KeptX.refl _ _) (fun X W v h => F2.skip h 14 v (show (14 : Nat) ≠ 16 by decide) (show (14 : Nat) ≠ 17 by decide)) ?_ ?_
            rotate_left
            · (intro ev W hb hR hO hD; have hS := hF W hR; obtain ⟨hb1, hb2, hb3⟩ := hb; simp only [Free.AllDeps, Free.AllOuts, Free.At, List.getElem?_cons_succ, List.getElem?_cons_zero, Array.getD_eq_getD_getElem?, List.getElem?_toArray, Option.getD_some, and_true] at hO hD; go_simp; rfl)
            simp only [List.nil_append, List.cons_append]
            refine Free2.Chain.pr (fun v _ => v = .agg #[.int .i64 p2, .int .i64 q2]) 15 rfl [(13, 108), (14, 109), (4, 99)] [] (by kernel_rfl) (by kernel_rfl) rfl (fun _ _ _ _ h => h) ?_ ?_
            · (intro ev W X hb hR hO hD hj hx hax; have hS := hF W hR; obtain ⟨hb1, hb2, hb3⟩ := hb; simp only [Free.AllDeps, Free.AllOuts, Free.At, List.getElem?_cons_succ, List.getElem?_cons_zero, Array.getD_eq_getD_getElem?, List.getElem?_toArray, Option.getD_some, and_true] at hO hD; simp only [Free2.AllX, and_true] at hax; go_simp; refine yields_enter ?_; with_reducible refine (k2.out _).mono ?_; rintro e W1 ⟨rfl, hB1⟩; exact ⟨_, rfl, KeptX.of_kept (.of_below hB1), rfl, (hj.kept (.of_below hB1)).skip 15 _ (by decide) (by decide)⟩)
            simp only [List.nil_append, List.cons_append]
            refine Free2.Chain.pr (fun _ _ => True) 16 rfl [(4, 99), (15, 110), (0, 95), (1, 96), (2, 97), (3, 98), (4, 99)] [6] (by kernel_rfl) (by kernel_rfl) rfl (fun _ _ _ _ h => h) ?_ ?_
            · (intro ev W X hb hR hO hD hj hx hax; have hS := hF W hR; obtain ⟨hb1, hb2, hb3⟩ := hb; simp only [Free.AllDeps, Free.AllOuts, Free.At, List.getElem?_cons_succ, List.getElem?_cons_zero, Array.getD_eq_getD_getElem?, List.getElem?_toArray, Option.getD_some, and_true] at hO hD; simp only [Free2.AllX, and_true] at hax; obtain ⟨ht, hkx, hjj⟩ := hj.at1 (rs := [bb + 1 + 1, bb + 1 + 1 + 1]) (by decide) (by simp) hx; have t0 := ht.c0; have t1 := ht.c1; have t2 := ht.f0; have t3 := ht.f1; go_simp; exact ⟨hkx, hjj _⟩)
            simp only [List.nil_append, List.cons_append]
            refine Free2.Chain.pr (fun _ _ => True) 17 rfl [(15, 110), (0, 95), (1, 96), (2, 97), (3, 98), (4, 99), (5, 100), (6, 101), (7, 102), (8, 103), (9, 104), (10, 105), (11, 106), (12, 107), (13, 108), (14, 109), (15, 110)] [7] (by kernel_rfl) (by kernel_rfl) rfl (fun _ _ _ _ h => h) ?_ ?_
            · (intro ev W X hb hR hO hD hj hx hax; have hS := hF W hR; obtain ⟨hb1, hb2, hb3⟩ := hb; simp only [Free.AllDeps, Free.AllOuts, Free.At, List.getElem?_cons_succ, List.getElem?_cons_zero, Array.getD_eq_getD_getElem?, List.getElem?_toArray, Option.getD_some, and_true] at hO hD; simp only [Free2.AllX, and_true] at hax; obtain ⟨ht, hkx, hjj⟩ := hj.at2 (rs := [bb + 1 + 1, bb + 1 + 1 + 1]) (by decide) (by simp) hx; have t0 := ht.c0; have t1 := ht.c1; have t2 := ht.f0; have t3 := ht.f1; go_simp; exact ⟨hkx, hjj _⟩)
            simp only [List.nil_append, List.cons_append]
            refine Free2.Chain.ex ?_ 18 rfl [(0, 95), (1, 96), (2, 97), (3, 98), (4, 99), (5, 100), (6, 101), (7, 102), (8, 103), (9, 104), (10, 105), (11, 106), (12, 107), (13, 108), (14, 109), (15, 110)] [] (by kernel_rfl) (by kernel_rfl) rfl (KeptX.refl _ _) (fun X W v h => F2.skip h 18 v (show (18 : Nat) ≠ 16 by decide) (show (18 : Nat) ≠ 17 by decide)) ?_ ?_
            rotate_left
            · (intro ev W hb hR hO hD; have hS := hF W hR; obtain ⟨hb1, hb2, hb3⟩ := hb; simp only [Free.AllDeps, Free.AllOuts, Free.At, List.getElem?_cons_succ, List.getElem?_cons_zero, Array.getD_eq_getD_getElem?, List.getElem?_toArray, Option.getD_some, and_true] at hO hD; go_simp; rfl)
            simp only [List.nil_append, List.cons_append]
            intro xs w9 hR hV hX
            obtain ⟨X, hj, hxx⟩ := hX
            have e16 := hxx 16 (show (16 : Nat) < 19 by decide)
            have e17 := hxx 17 (show (17 : Nat) < 19 by decide)
            have TA := hj.a.new (by rw [e16]; simp)
            have TB := hj.b.new (by rw [e17]; simp)
            simp only [Free.AllV, Free.At, List.length_cons, List.length_nil, Nat.reduceAdd, List.getElem?_cons_succ, List.getElem?_cons_zero, true_and, and_true] at hV
            simp only [Free.putsFrom, Act.put, hV, List.setIfInBounds_toArray, List.set_cons_succ, List.set_cons_zero]
            have HKE := Lib.hid (KeptX.below (HB0.out.trans (K_w4.mono (by omega))) (KeptX.trans (show KeptX bb [bb + 1 + 1, bb + 1 + 1 + 1] w4 w4.drew from (KeptX.refl _ _ _).drew) hR) (by omega) (by intro r hr; simp at hr; omega) (by omega))
            have z1 := TA.c0
            have z2 := TA.c1
            have z3 := TB.c0
            have z4 := TB.c1
            clear hR hV hj hxx e16 e17 hF TT
            go_wp2_with fail
            have hbb := HBB.out
            subst hbb
            have hvv : Value.tuple #[.agg #[.int .i64 p1, .int .i64 q1], .agg #[.int .i64 p2, .int .i64 q2], .int .i64 0] = twiceAll N lo hi D F A R S T := by
              rw [HV.out, twiceV1, twiceV2, HAE.out.1, HAE.out.2, HOE.out, HCE.out, HP.out.1, HP.out.2]
            refine bodyPost_ret (v := .tuple #[.agg #[.int .i64 p1, .int .i64 q1], .agg #[.int .i64 p2, .int .i64 q2], .int .i64 0]) (by simp [results, Tryd.results25, go_sem, z1, z2, z3, z4]) rfl ⟨by rw [hvv], HKE.out⟩
end Go.Proofs.YthhallnkpbgomaaDoor
