/- The reference's Accepts. -/
import Derived.Test.YthhallnkpbgomaaDoorSampTwiceR
import Derived.Test.YthhallnkpbgomaaDoorSampRules
namespace Go.Proofs.YthhallnkpbgomaaDoor
set_option linter.unusedSimpArgs false
set_option linter.unusedVariables false
open Go.RowKit Go.Proofs.YthhallnkpbgomaaDoor.ML Go.Proofs.YthhallnkpbgomaaDoor.Samp

set_option maxRecDepth 100000 in
set_option maxHeartbeats 2000000 in
theorem acceptR_v (N lo hi D o f : Int) (w : World) (v : Value) (hv : Hid (.tuple (if cargoB N lo hi = false then #[zeroPart, .int .i64 10] else if ruledE N lo hi D o f ≠ 0 then #[zeroPart, .int .i64 (ruledE N lo hi D o f)] else #[mostV N D o f, .int .i64 0]) = v)) :
    Calls Tryd.prog 16 #[.agg #[.int .i64 N, .int .i64 lo, .int .i64 hi], .agg #[.int .i64 o, .int .i64 f], .int .i64 D] w fun e w' => e = .returned v ∧ Below w.heap.size w w' := by
  have hB0 : Below w.heap.size w (((w.alloc (.cells #[.int .i64 N, .int .i64 lo, .int .i64 hi] 25)).alloc (.cells #[.int .i64 o, .int .i64 f] 27)).alloc (.cells #[.int .i64 0, .int .i64 0] 31)) := (((Below.refl _ w).alloc (Nat.le_refl _) _).alloc (by simp) _).alloc (by simp; omega) _
  have c0_0 : (((w.alloc (.cells #[.int .i64 N, .int .i64 lo, .int .i64 hi] 25)).alloc (.cells #[.int .i64 o, .int .i64 f] 27)).alloc (.cells #[.int .i64 0, .int .i64 0] 31)).cell? ⟨w.heap.size, 0, none⟩ = some (.int .i64 N) := by simp [go_sem]
  have c0_1 : (((w.alloc (.cells #[.int .i64 N, .int .i64 lo, .int .i64 hi] 25)).alloc (.cells #[.int .i64 o, .int .i64 f] 27)).alloc (.cells #[.int .i64 0, .int .i64 0] 31)).cell? ⟨w.heap.size, 1, none⟩ = some (.int .i64 lo) := by simp [go_sem]
  have c0_2 : (((w.alloc (.cells #[.int .i64 N, .int .i64 lo, .int .i64 hi] 25)).alloc (.cells #[.int .i64 o, .int .i64 f] 27)).alloc (.cells #[.int .i64 0, .int .i64 0] 31)).cell? ⟨w.heap.size, 2, none⟩ = some (.int .i64 hi) := by simp [go_sem]
  have c1_0 : (((w.alloc (.cells #[.int .i64 N, .int .i64 lo, .int .i64 hi] 25)).alloc (.cells #[.int .i64 o, .int .i64 f] 27)).alloc (.cells #[.int .i64 0, .int .i64 0] 31)).cell? ⟨w.heap.size + 1, 0, none⟩ = some (.int .i64 o) := by simp [go_sem]
  have c1_1 : (((w.alloc (.cells #[.int .i64 N, .int .i64 lo, .int .i64 hi] 25)).alloc (.cells #[.int .i64 o, .int .i64 f] 27)).alloc (.cells #[.int .i64 0, .int .i64 0] 31)).cell? ⟨w.heap.size + 1, 1, none⟩ = some (.int .i64 f) := by simp [go_sem]
  have c2_0 : (((w.alloc (.cells #[.int .i64 N, .int .i64 lo, .int .i64 hi] 25)).alloc (.cells #[.int .i64 o, .int .i64 f] 27)).alloc (.cells #[.int .i64 0, .int .i64 0] 31)).cell? ⟨w.heap.size + 1 + 1, 0, none⟩ = some (.int .i64 0) := by simp [go_sem]
  have c2_1 : (((w.alloc (.cells #[.int .i64 N, .int .i64 lo, .int .i64 hi] 25)).alloc (.cells #[.int .i64 o, .int .i64 f] 27)).alloc (.cells #[.int .i64 0, .int .i64 0] 31)).cell? ⟨w.heap.size + 1 + 1, 1, none⟩ = some (.int .i64 0) := by simp [go_sem]
  have f2_0 : (((w.alloc (.cells #[.int .i64 N, .int .i64 lo, .int .i64 hi] 25)).alloc (.cells #[.int .i64 o, .int .i64 f] 27)).alloc (.cells #[.int .i64 0, .int .i64 0] 31)).frozen? ⟨w.heap.size + 1 + 1, 0, none⟩ = false := by simp [go_sem]
  have f2_1 : (((w.alloc (.cells #[.int .i64 N, .int .i64 lo, .int .i64 hi] 25)).alloc (.cells #[.int .i64 o, .int .i64 f] 27)).alloc (.cells #[.int .i64 0, .int .i64 0] 31)).frozen? ⟨w.heap.size + 1 + 1, 1, none⟩ = false := by simp [go_sem]
  cases hc : cargoB N lo hi
  · have HC := Lib.hid hc
    clear hc
    go_enter Tryd.func16, Tryd.ntmps16
    go_wp2_with fail
    refine (cargoR_any N lo hi false _ HC.out).mono ?_
    rintro e w1 ⟨rfl, hB1⟩
    have K_w1 : Free.Bel (((w.alloc (.cells #[.int .i64 N, .int .i64 lo, .int .i64 hi] 25)).alloc (.cells #[.int .i64 o, .int .i64 f] 27)).alloc (.cells #[.int .i64 0, .int .i64 0] 31)) w1 := by
      refine Free.Bel.trans _ _ _ ?_ hB1
      repeat (first | exact Free.Bel.refl _ | refine Bel.allocT ?_ _ | refine Bel.drewT ?_)
    clear hB1
    have hq : w.heap.size + 3 = (((w.alloc (.cells #[.int .i64 N, .int .i64 lo, .int .i64 hi] 25)).alloc (.cells #[.int .i64 o, .int .i64 f] 27)).alloc (.cells #[.int .i64 0, .int .i64 0] 31)).heap.size := by simp
    generalize (((w.alloc (.cells #[.int .i64 N, .int .i64 lo, .int .i64 hi] 25)).alloc (.cells #[.int .i64 o, .int .i64 f] 27)).alloc (.cells #[.int .i64 0, .int .i64 0] 31)) = W0 at *
    generalize hbb : w.heap.size = bb at *
    have HBB := Lib.hid hbb
    clear hbb
    have HB0 := Lib.hid hB0
    have hq0 : bb + 3 ≤ W0.heap.size := by omega
    clear hB0 hq
    have FA : ∀ W, Free.Bel W0 W → W.cell? ⟨bb, 0, none⟩ = some (.int .i64 N) ∧ W.cell? ⟨bb, 1, none⟩ = some (.int .i64 lo) ∧ W.cell? ⟨bb, 2, none⟩ = some (.int .i64 hi) ∧ W.cell? ⟨bb + 1, 0, none⟩ = some (.int .i64 o) ∧ W.cell? ⟨bb + 1, 1, none⟩ = some (.int .i64 f) ∧ W.cell? ⟨bb + 1 + 1, 0, none⟩ = some (.int .i64 0) ∧ W.cell? ⟨bb + 1 + 1, 1, none⟩ = some (.int .i64 0) ∧ W.frozen? ⟨bb + 1 + 1, 0, none⟩ = false ∧ W.frozen? ⟨bb + 1 + 1, 1, none⟩ = false ∧ bb + 3 ≤ W.heap.size := fun W hW => ⟨keepsB hW c0_0, keepsB hW c0_1, keepsB hW c0_2, keepsB hW c1_0, keepsB hW c1_1, keepsB hW c2_0, keepsB hW c2_1, (hW.frozen (p := ⟨bb + 1 + 1, 0, none⟩) (by simp; omega)).trans f2_0, (hW.frozen (p := ⟨bb + 1 + 1, 1, none⟩) (by simp; omega)).trans f2_1, Nat.le_trans hq0 hW.size⟩
    clear c0_0 c0_1 c0_2 c1_0 c1_1 c2_0 c2_1 f2_0 f2_1
    go_wp2_with fail
    have hz := FA w1 K_w1
    have n2 := noop2 (w := w1) (b := bb + 1 + 1) (x := .int .i64 0) (y := .int .i64 0) (by simp [hz]) (by simp [hz])
    rw [n2]
    have hbb := HBB.out
    subst hbb
    exact bodyPost_ret (v := .tuple #[.agg #[.int .i64 0, .int .i64 0], .int .i64 10]) (by simp [results, Tryd.results16, go_sem, zz, hz]) rfl ⟨by rw [← hv.out]; simp [HC.out, zeroPart], HB0.out.trans (K_w1.mono (by omega))⟩
  · have HC := Lib.hid hc
    have hN := (cargoB_iff N lo hi).1 hc
    clear hc
    cases hd : drawB N o f
    · have HD := Lib.hid hd
      have HV : Hid (ruledE N lo hi D o f = 13) := by show _ = _; simp [ruledE, hd, unlessV, firstE]
      clear hd
      go_enter Tryd.func16, Tryd.ntmps16
      go_wp2_with fail
      refine (cargoR_any N lo hi true _ HC.out).mono ?_
      rintro e w1 ⟨rfl, hB1⟩
      have K_w1 : Free.Bel (((w.alloc (.cells #[.int .i64 N, .int .i64 lo, .int .i64 hi] 25)).alloc (.cells #[.int .i64 o, .int .i64 f] 27)).alloc (.cells #[.int .i64 0, .int .i64 0] 31)) w1 := by
        refine Free.Bel.trans _ _ _ ?_ hB1
        repeat (first | exact Free.Bel.refl _ | refine Bel.allocT ?_ _ | refine Bel.drewT ?_)
      clear hB1
      have hq : w.heap.size + 3 = (((w.alloc (.cells #[.int .i64 N, .int .i64 lo, .int .i64 hi] 25)).alloc (.cells #[.int .i64 o, .int .i64 f] 27)).alloc (.cells #[.int .i64 0, .int .i64 0] 31)).heap.size := by simp
      generalize (((w.alloc (.cells #[.int .i64 N, .int .i64 lo, .int .i64 hi] 25)).alloc (.cells #[.int .i64 o, .int .i64 f] 27)).alloc (.cells #[.int .i64 0, .int .i64 0] 31)) = W0 at *
      generalize hbb : w.heap.size = bb at *
      have HBB := Lib.hid hbb
      clear hbb
      have HB0 := Lib.hid hB0
      have hq0 : bb + 3 ≤ W0.heap.size := by omega
      clear hB0 hq
      have FA : ∀ W, Free.Bel W0 W → W.cell? ⟨bb, 0, none⟩ = some (.int .i64 N) ∧ W.cell? ⟨bb, 1, none⟩ = some (.int .i64 lo) ∧ W.cell? ⟨bb, 2, none⟩ = some (.int .i64 hi) ∧ W.cell? ⟨bb + 1, 0, none⟩ = some (.int .i64 o) ∧ W.cell? ⟨bb + 1, 1, none⟩ = some (.int .i64 f) ∧ W.cell? ⟨bb + 1 + 1, 0, none⟩ = some (.int .i64 0) ∧ W.cell? ⟨bb + 1 + 1, 1, none⟩ = some (.int .i64 0) ∧ W.frozen? ⟨bb + 1 + 1, 0, none⟩ = false ∧ W.frozen? ⟨bb + 1 + 1, 1, none⟩ = false ∧ bb + 3 ≤ W.heap.size := fun W hW => ⟨keepsB hW c0_0, keepsB hW c0_1, keepsB hW c0_2, keepsB hW c1_0, keepsB hW c1_1, keepsB hW c2_0, keepsB hW c2_1, (hW.frozen (p := ⟨bb + 1 + 1, 0, none⟩) (by simp; omega)).trans f2_0, (hW.frozen (p := ⟨bb + 1 + 1, 1, none⟩) (by simp; omega)).trans f2_1, Nat.le_trans hq0 hW.size⟩
      clear c0_0 c0_1 c0_2 c1_0 c1_1 c2_0 c2_1 f2_0 f2_1
      go_wp2_with fail
      refine (ruleR_any N lo hi o f false _ HD.out).mono ?_
      rintro e w2 ⟨rfl, hB2⟩
      have K_w2 : Free.Bel W0 w2 := by
        refine Free.Bel.trans _ _ _ ?_ hB2
        repeat (first | exact K_w1 | exact Free.Bel.refl _ | refine Bel.allocT ?_ _ | refine Bel.drewT ?_)
      clear hB2
      go_wp2_with fail
      have hz := FA w2 K_w2
      have n2 := noop2 (w := w2) (b := bb + 1 + 1) (x := .int .i64 0) (y := .int .i64 0) (by simp [hz]) (by simp [hz])
      rw [n2]
      have hbb := HBB.out
      subst hbb
      exact bodyPost_ret (v := .tuple #[.agg #[.int .i64 0, .int .i64 0], .int .i64 13]) (by simp [results, Tryd.results16, go_sem, zz, hz]) rfl ⟨by rw [← hv.out]; simp [HC.out, HV.out, zeroPart], HB0.out.trans (K_w2.mono (by omega))⟩
    · have HD := Lib.hid hd
      have hD := (drawB_iff N o f).1 hd
      clear hd
      cases hm : inB lo hi [D]
      · have HM := Lib.hid hm
        have HV : Hid (ruledE N lo hi D o f = 2) := by show _ = _; simp [ruledE, HD.out, hm, unlessV, firstE]
        clear hm
        go_enter Tryd.func16, Tryd.ntmps16
        go_wp2_with fail
        refine (cargoR_any N lo hi true _ HC.out).mono ?_
        rintro e w1 ⟨rfl, hB1⟩
        have K_w1 : Free.Bel (((w.alloc (.cells #[.int .i64 N, .int .i64 lo, .int .i64 hi] 25)).alloc (.cells #[.int .i64 o, .int .i64 f] 27)).alloc (.cells #[.int .i64 0, .int .i64 0] 31)) w1 := by
          refine Free.Bel.trans _ _ _ ?_ hB1
          repeat (first | exact Free.Bel.refl _ | refine Bel.allocT ?_ _ | refine Bel.drewT ?_)
        clear hB1
        have hq : w.heap.size + 3 = (((w.alloc (.cells #[.int .i64 N, .int .i64 lo, .int .i64 hi] 25)).alloc (.cells #[.int .i64 o, .int .i64 f] 27)).alloc (.cells #[.int .i64 0, .int .i64 0] 31)).heap.size := by simp
        generalize (((w.alloc (.cells #[.int .i64 N, .int .i64 lo, .int .i64 hi] 25)).alloc (.cells #[.int .i64 o, .int .i64 f] 27)).alloc (.cells #[.int .i64 0, .int .i64 0] 31)) = W0 at *
        generalize hbb : w.heap.size = bb at *
        have HBB := Lib.hid hbb
        clear hbb
        have HB0 := Lib.hid hB0
        have hq0 : bb + 3 ≤ W0.heap.size := by omega
        clear hB0 hq
        have FA : ∀ W, Free.Bel W0 W → W.cell? ⟨bb, 0, none⟩ = some (.int .i64 N) ∧ W.cell? ⟨bb, 1, none⟩ = some (.int .i64 lo) ∧ W.cell? ⟨bb, 2, none⟩ = some (.int .i64 hi) ∧ W.cell? ⟨bb + 1, 0, none⟩ = some (.int .i64 o) ∧ W.cell? ⟨bb + 1, 1, none⟩ = some (.int .i64 f) ∧ W.cell? ⟨bb + 1 + 1, 0, none⟩ = some (.int .i64 0) ∧ W.cell? ⟨bb + 1 + 1, 1, none⟩ = some (.int .i64 0) ∧ W.frozen? ⟨bb + 1 + 1, 0, none⟩ = false ∧ W.frozen? ⟨bb + 1 + 1, 1, none⟩ = false ∧ bb + 3 ≤ W.heap.size := fun W hW => ⟨keepsB hW c0_0, keepsB hW c0_1, keepsB hW c0_2, keepsB hW c1_0, keepsB hW c1_1, keepsB hW c2_0, keepsB hW c2_1, (hW.frozen (p := ⟨bb + 1 + 1, 0, none⟩) (by simp; omega)).trans f2_0, (hW.frozen (p := ⟨bb + 1 + 1, 1, none⟩) (by simp; omega)).trans f2_1, Nat.le_trans hq0 hW.size⟩
        clear c0_0 c0_1 c0_2 c1_0 c1_1 c2_0 c2_1 f2_0 f2_1
        go_wp2_with fail
        refine (ruleR_any N lo hi o f true _ HD.out).mono ?_
        rintro e w2 ⟨rfl, hB2⟩
        have K_w2 : Free.Bel W0 w2 := by
          refine Free.Bel.trans _ _ _ ?_ hB2
          repeat (first | exact K_w1 | exact Free.Bel.refl _ | refine Bel.allocT ?_ _ | refine Bel.drewT ?_)
        clear hB2
        go_wp2_with fail
        refine (mayR_any N lo hi D false _ HM.out).mono ?_
        rintro e w3 ⟨rfl, hB2⟩
        have K_w3 : Free.Bel W0 w3 := by
          refine Free.Bel.trans _ _ _ ?_ hB2
          repeat (first | exact K_w2 | exact Free.Bel.refl _ | refine Bel.allocT ?_ _ | refine Bel.drewT ?_)
        clear hB2
        go_wp2_with fail
        have hz := FA w3 K_w3
        have n2 := noop2 (w := w3) (b := bb + 1 + 1) (x := .int .i64 0) (y := .int .i64 0) (by simp [hz]) (by simp [hz])
        rw [n2]
        have hbb := HBB.out
        subst hbb
        exact bodyPost_ret (v := .tuple #[.agg #[.int .i64 0, .int .i64 0], .int .i64 2]) (by simp [results, Tryd.results16, go_sem, zz, hz]) rfl ⟨by rw [← hv.out]; simp [HC.out, HV.out, zeroPart], HB0.out.trans (K_w3.mono (by omega))⟩
      · have HM := Lib.hid hm
        have hDD : lo ≤ D ∧ D ≤ hi := by simpa [inB] using hm
        have HV : Hid (ruledE N lo hi D o f = 0) := by show _ = _; simp [ruledE, HD.out, hm, unlessV, firstE]
        clear hm
        have hfb := fewI_le N D o (by omega) (by omega) hD.1 (f + 1).toNat
        have hOb := chI_pos N o (by omega) (by omega) hD.1 hD.2.1
        obtain ⟨p, q, hp⟩ : ∃ p q : Int, mostV N D o f = .agg #[.int .i64 p, .int .i64 q] := ⟨_, _, rfl⟩
        have k1 := Lib.hid (fun W => least_int (fewI N D o (f + 1).toNat) (chI N o) hfb.1 (by omega) (by omega) (by omega) _ (show partV (fewI N D o (f + 1).toNat).toNat (chI N o).toNat = .agg #[.int .i64 p, .int .i64 q] by rw [← mostI_few N D o f hD.2.2.1 hD.2.2.2]; exact hp) W)
        have HP := Lib.hid hp
        clear hp
        go_enter Tryd.func16, Tryd.ntmps16
        go_wp2_with fail
        refine (cargoR_any N lo hi true _ HC.out).mono ?_
        rintro e w1 ⟨rfl, hB1⟩
        have K_w1 : Free.Bel (((w.alloc (.cells #[.int .i64 N, .int .i64 lo, .int .i64 hi] 25)).alloc (.cells #[.int .i64 o, .int .i64 f] 27)).alloc (.cells #[.int .i64 0, .int .i64 0] 31)) w1 := by
          refine Free.Bel.trans _ _ _ ?_ hB1
          repeat (first | exact Free.Bel.refl _ | refine Bel.allocT ?_ _ | refine Bel.drewT ?_)
        clear hB1
        have hq : w.heap.size + 3 = (((w.alloc (.cells #[.int .i64 N, .int .i64 lo, .int .i64 hi] 25)).alloc (.cells #[.int .i64 o, .int .i64 f] 27)).alloc (.cells #[.int .i64 0, .int .i64 0] 31)).heap.size := by simp
        generalize (((w.alloc (.cells #[.int .i64 N, .int .i64 lo, .int .i64 hi] 25)).alloc (.cells #[.int .i64 o, .int .i64 f] 27)).alloc (.cells #[.int .i64 0, .int .i64 0] 31)) = W0 at *
        generalize hbb : w.heap.size = bb at *
        have HBB := Lib.hid hbb
        clear hbb
        have HB0 := Lib.hid hB0
        have hq0 : bb + 3 ≤ W0.heap.size := by omega
        clear hB0 hq
        have FA : ∀ W, Free.Bel W0 W → W.cell? ⟨bb, 0, none⟩ = some (.int .i64 N) ∧ W.cell? ⟨bb, 1, none⟩ = some (.int .i64 lo) ∧ W.cell? ⟨bb, 2, none⟩ = some (.int .i64 hi) ∧ W.cell? ⟨bb + 1, 0, none⟩ = some (.int .i64 o) ∧ W.cell? ⟨bb + 1, 1, none⟩ = some (.int .i64 f) ∧ W.cell? ⟨bb + 1 + 1, 0, none⟩ = some (.int .i64 0) ∧ W.cell? ⟨bb + 1 + 1, 1, none⟩ = some (.int .i64 0) ∧ W.frozen? ⟨bb + 1 + 1, 0, none⟩ = false ∧ W.frozen? ⟨bb + 1 + 1, 1, none⟩ = false ∧ bb + 3 ≤ W.heap.size := fun W hW => ⟨keepsB hW c0_0, keepsB hW c0_1, keepsB hW c0_2, keepsB hW c1_0, keepsB hW c1_1, keepsB hW c2_0, keepsB hW c2_1, (hW.frozen (p := ⟨bb + 1 + 1, 0, none⟩) (by simp; omega)).trans f2_0, (hW.frozen (p := ⟨bb + 1 + 1, 1, none⟩) (by simp; omega)).trans f2_1, Nat.le_trans hq0 hW.size⟩
        clear c0_0 c0_1 c0_2 c1_0 c1_1 c2_0 c2_1 f2_0 f2_1
        go_wp2_with fail
        refine (ruleR_any N lo hi o f true _ HD.out).mono ?_
        rintro e w2 ⟨rfl, hB2⟩
        have K_w2 : Free.Bel W0 w2 := by
          refine Free.Bel.trans _ _ _ ?_ hB2
          repeat (first | exact K_w1 | exact Free.Bel.refl _ | refine Bel.allocT ?_ _ | refine Bel.drewT ?_)
        clear hB2
        go_wp2_with fail
        refine (mayR_any N lo hi D true _ HM.out).mono ?_
        rintro e w3 ⟨rfl, hB2⟩
        have K_w3 : Free.Bel W0 w3 := by
          refine Free.Bel.trans _ _ _ ?_ hB2
          repeat (first | exact K_w2 | exact Free.Bel.refl _ | refine Bel.allocT ?_ _ | refine Bel.drewT ?_)
        clear hB2
        go_wp2_with fail
        have FB6 := Lib.hid (FA w3 K_w3)
        have TT : Two (bb + 1 + 1) (.int .i64 0) (.int .i64 0) w3 := by
          have h1 := FB6.out
          exact ⟨by simp [h1], by simp [h1], by simp [h1], by simp [h1]⟩
        have hF : ∀ W, KeptX (bb + 3) [bb + 1 + 1] w3.drew W → W.cell? ⟨bb, 0, none⟩ = some (.int .i64 N) ∧ W.cell? ⟨bb + 1, 0, none⟩ = some (.int .i64 o) ∧ W.cell? ⟨bb + 1, 1, none⟩ = some (.int .i64 f) := fun W hW => by
          have h1 := FB6.out
          have c0 : w3.cell? ⟨bb, 0, none⟩ = some (.int .i64 N) := by simp [h1]
          have c1 : w3.cell? ⟨bb + 1, 0, none⟩ = some (.int .i64 o) := by simp [h1]
          have c2 : w3.cell? ⟨bb + 1, 1, none⟩ = some (.int .i64 f) := by simp [h1]
          exact ⟨hW.cell (w := w3.drew) c0 (by simp <;> omega) (by simp <;> omega), hW.cell (w := w3.drew) c1 (by simp <;> omega) (by simp <;> omega), hW.cell (w := w3.drew) c2 (by simp <;> omega) (by simp <;> omega)⟩
        have hbs : bb + 3 ≤ w3.heap.size := by have h1 := FB6.out; omega
        refine Free2.wp_free (R := KeptX (bb + 3) [bb + 1 + 1]) (J := Fx 14 (bb + 1 + 1) (.int .i64 0) (.int .i64 0) (.int .i64 p) (.int .i64 q)) (by kernel_rfl) (by kernel_rfl) (KeptX.refl _ _) (fun _ _ _ => KeptX.trans) (Fx.start ⟨TT.c0, TT.c1, TT.f0, TT.f1⟩) ?_
        refine Free2.Chain.ex ?_ 0 rfl [] [3] (by kernel_rfl) (by kernel_rfl) rfl (KeptX.refl _ _) (fun X W v h => Fx.skip h 0 v (show (0 : Nat) ≠ 14 by decide)) ?_ ?_
        rotate_left
        · (intro ev W hb hR hO hD; have hS := hF W hR; obtain ⟨hb1, hb2, hb3⟩ := hb; simp only [Free.AllDeps, Free.AllOuts, Free.At, List.getElem?_cons_succ, List.getElem?_cons_zero, Array.getD_eq_getD_getElem?, List.getElem?_toArray, Option.getD_some, and_true] at hO hD; go_simp; rfl)
        simp only [List.nil_append, List.cons_append]
        refine Free2.Chain.ex ?_ 1 rfl [(0, 22)] [] (by kernel_rfl) (by kernel_rfl) rfl (KeptX.refl _ _) (fun X W v h => Fx.skip h 1 v (show (1 : Nat) ≠ 14 by decide)) ?_ ?_
        rotate_left
        · (intro ev W hb hR hO hD; have hS := hF W hR; obtain ⟨hb1, hb2, hb3⟩ := hb; simp only [Free.AllDeps, Free.AllOuts, Free.At, List.getElem?_cons_succ, List.getElem?_cons_zero, Array.getD_eq_getD_getElem?, List.getElem?_toArray, Option.getD_some, and_true] at hO hD; go_simp; rfl)
        simp only [List.nil_append, List.cons_append]
        refine Free2.Chain.ex ?_ 2 rfl [] [2] (by kernel_rfl) (by kernel_rfl) rfl (KeptX.refl _ _) (fun X W v h => Fx.skip h 2 v (show (2 : Nat) ≠ 14 by decide)) ?_ ?_
        rotate_left
        · (intro ev W hb hR hO hD; have hS := hF W hR; obtain ⟨hb1, hb2, hb3⟩ := hb; simp only [Free.AllDeps, Free.AllOuts, Free.At, List.getElem?_cons_succ, List.getElem?_cons_zero, Array.getD_eq_getD_getElem?, List.getElem?_toArray, Option.getD_some, and_true] at hO hD; go_simp; rfl)
        simp only [List.nil_append, List.cons_append]
        refine Free2.Chain.ex ?_ 3 rfl [] [4] (by kernel_rfl) (by kernel_rfl) rfl (KeptX.refl _ _) (fun X W v h => Fx.skip h 3 v (show (3 : Nat) ≠ 14 by decide)) ?_ ?_
        rotate_left
        · (intro ev W hb hR hO hD; have hS := hF W hR; obtain ⟨hb1, hb2, hb3⟩ := hb; simp only [Free.AllDeps, Free.AllOuts, Free.At, List.getElem?_cons_succ, List.getElem?_cons_zero, Array.getD_eq_getD_getElem?, List.getElem?_toArray, Option.getD_some, and_true] at hO hD; go_simp; rfl)
        simp only [List.nil_append, List.cons_append]
        refine Free2.Chain.ex ?_ 4 rfl [(3, 25)] [] (by kernel_rfl) (by kernel_rfl) rfl (KeptX.refl _ _) (fun X W v h => Fx.skip h 4 v (show (4 : Nat) ≠ 14 by decide)) ?_ ?_
        rotate_left
        · (intro ev W hb hR hO hD; have hS := hF W hR; obtain ⟨hb1, hb2, hb3⟩ := hb; simp only [Free.AllDeps, Free.AllOuts, Free.At, List.getElem?_cons_succ, List.getElem?_cons_zero, Array.getD_eq_getD_getElem?, List.getElem?_toArray, Option.getD_some, and_true] at hO hD; go_simp; rfl)
        simp only [List.nil_append, List.cons_append]
        refine Free2.Chain.ex ?_ 5 rfl [] [4] (by kernel_rfl) (by kernel_rfl) rfl (KeptX.refl _ _) (fun X W v h => Fx.skip h 5 v (show (5 : Nat) ≠ 14 by decide)) ?_ ?_
        rotate_left
        · (intro ev W hb hR hO hD; have hS := hF W hR; obtain ⟨hb1, hb2, hb3⟩ := hb; simp only [Free.AllDeps, Free.AllOuts, Free.At, List.getElem?_cons_succ, List.getElem?_cons_zero, Array.getD_eq_getD_getElem?, List.getElem?_toArray, Option.getD_some, and_true] at hO hD; go_simp; rfl)
        simp only [List.nil_append, List.cons_append]
        refine Free2.Chain.ex ?_ 6 rfl [(5, 27)] [] (by kernel_rfl) (by kernel_rfl) rfl (KeptX.refl _ _) (fun X W v h => Fx.skip h 6 v (show (6 : Nat) ≠ 14 by decide)) ?_ ?_
        rotate_left
        · (intro ev W hb hR hO hD; have hS := hF W hR; obtain ⟨hb1, hb2, hb3⟩ := hb; simp only [Free.AllDeps, Free.AllOuts, Free.At, List.getElem?_cons_succ, List.getElem?_cons_zero, Array.getD_eq_getD_getElem?, List.getElem?_toArray, Option.getD_some, and_true] at hO hD; go_simp; rfl)
        simp only [List.nil_append, List.cons_append]
        refine Free2.Chain.pr (fun v _ => v = .int .i64 (fewI N D o (f + 1).toNat)) 7 rfl [(1, 23), (2, 24), (4, 26), (6, 28)] [] (by kernel_rfl) (by kernel_rfl) rfl (fun _ _ _ _ h => h) ?_ ?_
        · (intro ev W X hb hR hO hD hj hx hax; have hS := hF W hR; obtain ⟨hb1, hb2, hb3⟩ := hb; simp only [Free.AllDeps, Free.AllOuts, Free.At, List.getElem?_cons_succ, List.getElem?_cons_zero, Array.getD_eq_getD_getElem?, List.getElem?_toArray, Option.getD_some, and_true] at hO hD; simp only [Free2.AllX, and_true] at hax; go_simp; refine yields_enter ?_; with_reducible refine (few_any N D o f _ (by omega) (by omega) (by omega) (by omega) (by omega)).mono ?_; rintro e W2 ⟨rfl, rfl⟩; exact ⟨_, rfl, KeptX.refl _ _ _, rfl, hj.skip 7 _ (by decide)⟩)
        simp only [List.nil_append, List.cons_append]
        refine Free2.Chain.ex ?_ 8 rfl [] [3] (by kernel_rfl) (by kernel_rfl) rfl (KeptX.refl _ _) (fun X W v h => Fx.skip h 8 v (show (8 : Nat) ≠ 14 by decide)) ?_ ?_
        rotate_left
        · (intro ev W hb hR hO hD; have hS := hF W hR; obtain ⟨hb1, hb2, hb3⟩ := hb; simp only [Free.AllDeps, Free.AllOuts, Free.At, List.getElem?_cons_succ, List.getElem?_cons_zero, Array.getD_eq_getD_getElem?, List.getElem?_toArray, Option.getD_some, and_true] at hO hD; go_simp; rfl)
        simp only [List.nil_append, List.cons_append]
        refine Free2.Chain.ex ?_ 9 rfl [(8, 30)] [] (by kernel_rfl) (by kernel_rfl) rfl (KeptX.refl _ _) (fun X W v h => Fx.skip h 9 v (show (9 : Nat) ≠ 14 by decide)) ?_ ?_
        rotate_left
        · (intro ev W hb hR hO hD; have hS := hF W hR; obtain ⟨hb1, hb2, hb3⟩ := hb; simp only [Free.AllDeps, Free.AllOuts, Free.At, List.getElem?_cons_succ, List.getElem?_cons_zero, Array.getD_eq_getD_getElem?, List.getElem?_toArray, Option.getD_some, and_true] at hO hD; go_simp; rfl)
        simp only [List.nil_append, List.cons_append]
        refine Free2.Chain.ex ?_ 10 rfl [] [4] (by kernel_rfl) (by kernel_rfl) rfl (KeptX.refl _ _) (fun X W v h => Fx.skip h 10 v (show (10 : Nat) ≠ 14 by decide)) ?_ ?_
        rotate_left
        · (intro ev W hb hR hO hD; have hS := hF W hR; obtain ⟨hb1, hb2, hb3⟩ := hb; simp only [Free.AllDeps, Free.AllOuts, Free.At, List.getElem?_cons_succ, List.getElem?_cons_zero, Array.getD_eq_getD_getElem?, List.getElem?_toArray, Option.getD_some, and_true] at hO hD; go_simp; rfl)
        simp only [List.nil_append, List.cons_append]
        refine Free2.Chain.ex ?_ 11 rfl [(10, 32)] [] (by kernel_rfl) (by kernel_rfl) rfl (KeptX.refl _ _) (fun X W v h => Fx.skip h 11 v (show (11 : Nat) ≠ 14 by decide)) ?_ ?_
        rotate_left
        · (intro ev W hb hR hO hD; have hS := hF W hR; obtain ⟨hb1, hb2, hb3⟩ := hb; simp only [Free.AllDeps, Free.AllOuts, Free.At, List.getElem?_cons_succ, List.getElem?_cons_zero, Array.getD_eq_getD_getElem?, List.getElem?_toArray, Option.getD_some, and_true] at hO hD; go_simp; rfl)
        simp only [List.nil_append, List.cons_append]
        refine Free2.Chain.pr (fun v _ => v = .int .i64 (chI N o)) 12 rfl [(9, 31), (11, 33), (7, 29)] [] (by kernel_rfl) (by kernel_rfl) rfl (fun _ _ _ _ h => h) ?_ ?_
        · (intro ev W X hb hR hO hD hj hx hax; have hS := hF W hR; obtain ⟨hb1, hb2, hb3⟩ := hb; simp only [Free.AllDeps, Free.AllOuts, Free.At, List.getElem?_cons_succ, List.getElem?_cons_zero, Array.getD_eq_getD_getElem?, List.getElem?_toArray, Option.getD_some, and_true] at hO hD; simp only [Free2.AllX, and_true] at hax; go_simp; refine yields_enter ?_; with_reducible refine (choose_any N o _ (by omega) (by omega) (by omega)).mono ?_; rintro e W2 ⟨rfl, rfl⟩; exact ⟨_, rfl, KeptX.refl _ _ _, rfl, hj.skip 12 _ (by decide)⟩)
        simp only [List.nil_append, List.cons_append]
        refine Free2.Chain.pr (fun v _ => v = .agg #[.int .i64 p, .int .i64 q]) 13 rfl [(7, 29), (12, 34), (12, 34)] [] (by kernel_rfl) (by kernel_rfl) rfl (fun _ _ _ _ h => h) ?_ ?_
        · (intro ev W X hb hR hO hD hj hx hax; have hS := hF W hR; obtain ⟨hb1, hb2, hb3⟩ := hb; simp only [Free.AllDeps, Free.AllOuts, Free.At, List.getElem?_cons_succ, List.getElem?_cons_zero, Array.getD_eq_getD_getElem?, List.getElem?_toArray, Option.getD_some, and_true] at hO hD; simp only [Free2.AllX, and_true] at hax; go_simp; refine yields_enter ?_; with_reducible refine (k1.out _).mono ?_; rintro e W2 ⟨rfl, hB1⟩; exact ⟨_, rfl, KeptX.of_kept (.of_below hB1), rfl, (hj.kept (mb := bb + 3) (.of_below hB1) (by omega)).skip 13 _ (by decide)⟩)
        simp only [List.nil_append, List.cons_append]
        refine Free2.Chain.pr (fun _ _ => True) 14 rfl [(13, 35), (13, 35), (0, 22), (1, 23), (2, 24), (3, 25), (4, 26), (5, 27), (6, 28), (7, 29), (8, 30), (9, 31), (10, 32), (11, 33), (12, 34), (13, 35)] [6] (by kernel_rfl) (by kernel_rfl) rfl (fun _ _ _ _ h => h) ?_ ?_
        · (intro ev W X hb hR hO hD hj hx hax; have hS := hF W hR; obtain ⟨hb1, hb2, hb3⟩ := hb; simp only [Free.AllDeps, Free.AllOuts, Free.At, List.getElem?_cons_succ, List.getElem?_cons_zero, Array.getD_eq_getD_getElem?, List.getElem?_toArray, Option.getD_some, and_true] at hO hD; simp only [Free2.AllX, and_true] at hax; obtain ⟨ht, hkx, hjj⟩ := hj.at_ (mb := bb + 3) (rs := [bb + 1 + 1]) (by simp) (by omega) hx; have t0 := ht.c0; have t1 := ht.c1; have t2 := ht.f0; have t3 := ht.f1; go_simp; exact ⟨hkx, hjj _⟩)
        simp only [List.nil_append, List.cons_append]
        refine Free2.Chain.ex ?_ 15 rfl [(0, 22), (1, 23), (2, 24), (3, 25), (4, 26), (5, 27), (6, 28), (7, 29), (8, 30), (9, 31), (10, 32), (11, 33), (12, 34), (13, 35)] [] (by kernel_rfl) (by kernel_rfl) rfl (KeptX.refl _ _) (fun X W v h => Fx.skip h 15 v (show (15 : Nat) ≠ 14 by decide)) ?_ ?_
        rotate_left
        · (intro ev W hb hR hO hD; have hS := hF W hR; obtain ⟨hb1, hb2, hb3⟩ := hb; simp only [Free.AllDeps, Free.AllOuts, Free.At, List.getElem?_cons_succ, List.getElem?_cons_zero, Array.getD_eq_getD_getElem?, List.getElem?_toArray, Option.getD_some, and_true] at hO hD; go_simp; rfl)
        simp only [List.nil_append, List.cons_append]
        intro xs w9 hR hV hX
        obtain ⟨X, hj, hxx⟩ := hX
        have e14 := hxx 14 (show (14 : Nat) < 16 by decide)
        have TA := hj.new (by rw [e14]; simp)
        simp only [Free.AllV, Free.At, List.length_cons, List.length_nil, Nat.reduceAdd, List.getElem?_cons_succ, List.getElem?_cons_zero, true_and, and_true] at hV
        simp only [Free.putsFrom, Act.put, hV, List.setIfInBounds_toArray, List.set_cons_succ, List.set_cons_zero]
        have HKE := Lib.hid (KeptX.below (HB0.out.trans (K_w3.mono (by omega))) (KeptX.trans (show KeptX (bb + 3) [bb + 1 + 1] w3 w3.drew from (KeptX.refl _ _ _).drew) hR) (by omega) (by intro r hr; simp at hr; omega) (by omega))
        have z1 := TA.c0
        have z2 := TA.c1
        clear hR hV hj hxx e14 hF TT
        go_wp2_with fail
        have hbb := HBB.out
        subst hbb
        refine bodyPost_ret (v := .tuple #[.agg #[.int .i64 p, .int .i64 q], .int .i64 0]) (by simp [results, Tryd.results16, go_sem, z1, z2]) rfl ⟨by rw [← hv.out]; simp [HC.out, HV.out, HP.out], HKE.out⟩
theorem acceptR_any (N lo hi D o f : Int) (w : World) :
    Calls Tryd.prog 16 #[.agg #[.int .i64 N, .int .i64 lo, .int .i64 hi], .agg #[.int .i64 o, .int .i64 f], .int .i64 D] w fun e w' => e = .returned (.tuple (if cargoB N lo hi = false then #[zeroPart, .int .i64 10] else if ruledE N lo hi D o f ≠ 0 then #[zeroPart, .int .i64 (ruledE N lo hi D o f)] else #[mostV N D o f, .int .i64 0])) ∧ Below w.heap.size w w' := acceptR_v N lo hi D o f w _ rfl
end Go.Proofs.YthhallnkpbgomaaDoor
