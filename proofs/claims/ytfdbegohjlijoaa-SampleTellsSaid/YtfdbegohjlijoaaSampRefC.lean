/- The reference of layer 1: what it answers of chances. -/
import Derived.Test.YtfdbegohjlijoaaSampRefB
namespace Go.Proofs.Ytfdbegohjlijoaa
set_option linter.unusedSimpArgs false
set_option linter.unusedVariables false
open Go.RowKit Go.Proofs.Ytfdbegohjlijoaa.ML Go.Proofs.Ytfdbegohjlijoaa.Samp

/-- The error of a cargo, a draw and a number of dirty bags. -/
def drawnR (N lo hi D o f : Int) : Int := if cargoB N lo hi = false then 10 else drawnE N lo hi D o f

set_option maxRecDepth 100000 in
set_option maxHeartbeats 2000000 in
theorem drawnR_any (N lo hi D o f r : Int) (w : World) (hr : drawnR N lo hi D o f = r) :
    Calls Try.prog 44 #[.agg #[.int .i64 N, .int .i64 lo, .int .i64 hi], .int .i64 D, .agg #[.int .i64 o, .int .i64 f]] w fun e w' => e = .returned (.int .i64 r) ∧ Below w.heap.size w w' := by
  subst hr
  have hB0 : Below w.heap.size w ((w.alloc (.cells #[.int .i64 N, .int .i64 lo, .int .i64 hi] 25)).alloc (.cells #[.int .i64 o, .int .i64 f] 27)) := ((Below.refl _ w).alloc (Nat.le_refl _) _).alloc (by simp) _
  have b0 : ((w.alloc (.cells #[.int .i64 N, .int .i64 lo, .int .i64 hi] 25)).alloc (.cells #[.int .i64 o, .int .i64 f] 27)).cell? ⟨w.heap.size, 0, none⟩ = some (.int .i64 N) := by simp [go_sem]
  have b1 : ((w.alloc (.cells #[.int .i64 N, .int .i64 lo, .int .i64 hi] 25)).alloc (.cells #[.int .i64 o, .int .i64 f] 27)).cell? ⟨w.heap.size, 1, none⟩ = some (.int .i64 lo) := by simp [go_sem]
  have b2 : ((w.alloc (.cells #[.int .i64 N, .int .i64 lo, .int .i64 hi] 25)).alloc (.cells #[.int .i64 o, .int .i64 f] 27)).cell? ⟨w.heap.size, 2, none⟩ = some (.int .i64 hi) := by simp [go_sem]
  have d0 : ((w.alloc (.cells #[.int .i64 N, .int .i64 lo, .int .i64 hi] 25)).alloc (.cells #[.int .i64 o, .int .i64 f] 27)).cell? ⟨w.heap.size + 1, 0, none⟩ = some (.int .i64 o) := by simp [go_sem]
  have d1 : ((w.alloc (.cells #[.int .i64 N, .int .i64 lo, .int .i64 hi] 25)).alloc (.cells #[.int .i64 o, .int .i64 f] 27)).cell? ⟨w.heap.size + 1, 1, none⟩ = some (.int .i64 f) := by simp [go_sem]
  have HB0 := Lib.hid hB0
  clear hB0
  generalize hq1 : cargoB N lo hi = q1
  generalize hq2 : drawB N o f = q2
  generalize hq3 : inB lo hi [D] = q3
  have H1 := Lib.hid hq1
  have H2 := Lib.hid hq2
  have H3 := Lib.hid hq3
  have hv : Hid (drawnR N lo hi D o f = if q1 then (if q2 then (if q3 then 0 else 2) else 11) else 10) := by
    show _ = _
    unfold drawnR drawnE
    rw [hq1, hq2, hq3]
    cases q1 <;> cases q2 <;> cases q3 <;> simp [unlessV, firstE]
  clear hq1 hq2 hq3
  generalize drawnR N lo hi D o f = r at *
  cases q1
  · go_enter Try.func44, Try.ntmps44
    go_wp2_with fail
    refine (cargoR_any N lo hi false _ H1.out).mono ?_
    rintro e w1 ⟨rfl, hB⟩
    have b0 := keepsB hB b0
    have b1 := keepsB hB b1
    have b2 := keepsB hB b2
    have d0 := keepsB hB d0
    have d1 := keepsB hB d1
    have HB1 := Lib.hid (HB0.out.trans (hB.mono HB0.out.size))
    clear hB
    go_wp2_with fail
    go_ret
    exact ⟨by rw [hv.out]; rfl, HB1.out⟩
  · cases q2
    · go_enter Try.func44, Try.ntmps44
      go_wp2_with fail
      refine (cargoR_any N lo hi true _ H1.out).mono ?_
      rintro e w1 ⟨rfl, hB⟩
      have b0 := keepsB hB b0
      have b1 := keepsB hB b1
      have b2 := keepsB hB b2
      have d0 := keepsB hB d0
      have d1 := keepsB hB d1
      have HB1 := Lib.hid (HB0.out.trans (hB.mono HB0.out.size))
      clear hB
      go_wp2_with fail
      refine (drawR_any N lo hi o f false _ H2.out).mono ?_
      rintro e w2 ⟨rfl, hB⟩
      have b0 := keepsB hB b0
      have b1 := keepsB hB b1
      have b2 := keepsB hB b2
      have d0 := keepsB hB d0
      have d1 := keepsB hB d1
      have HB2 := Lib.hid (HB1.out.trans (hB.mono HB1.out.size))
      clear hB
      go_wp2_with fail
      go_ret
      exact ⟨by rw [hv.out]; rfl, HB2.out⟩
    · cases q3
      · go_enter Try.func44, Try.ntmps44
        go_wp2_with fail
        refine (cargoR_any N lo hi true _ H1.out).mono ?_
        rintro e w1 ⟨rfl, hB⟩
        have b0 := keepsB hB b0
        have b1 := keepsB hB b1
        have b2 := keepsB hB b2
        have d0 := keepsB hB d0
        have d1 := keepsB hB d1
        have HB1 := Lib.hid (HB0.out.trans (hB.mono HB0.out.size))
        clear hB
        go_wp2_with fail
        refine (drawR_any N lo hi o f true _ H2.out).mono ?_
        rintro e w2 ⟨rfl, hB⟩
        have b0 := keepsB hB b0
        have b1 := keepsB hB b1
        have b2 := keepsB hB b2
        have d0 := keepsB hB d0
        have d1 := keepsB hB d1
        have HB2 := Lib.hid (HB1.out.trans (hB.mono HB1.out.size))
        clear hB
        go_wp2_with fail
        refine (mayR_any N lo hi D false _ H3.out).mono ?_
        rintro e w3 ⟨rfl, hB⟩
        have b0 := keepsB hB b0
        have b1 := keepsB hB b1
        have b2 := keepsB hB b2
        have d0 := keepsB hB d0
        have d1 := keepsB hB d1
        have HB3 := Lib.hid (HB2.out.trans (hB.mono HB2.out.size))
        clear hB
        go_wp2_with fail
        go_ret
        exact ⟨by rw [hv.out]; rfl, HB3.out⟩
      · go_enter Try.func44, Try.ntmps44
        go_wp2_with fail
        refine (cargoR_any N lo hi true _ H1.out).mono ?_
        rintro e w1 ⟨rfl, hB⟩
        have b0 := keepsB hB b0
        have b1 := keepsB hB b1
        have b2 := keepsB hB b2
        have d0 := keepsB hB d0
        have d1 := keepsB hB d1
        have HB1 := Lib.hid (HB0.out.trans (hB.mono HB0.out.size))
        clear hB
        go_wp2_with fail
        refine (drawR_any N lo hi o f true _ H2.out).mono ?_
        rintro e w2 ⟨rfl, hB⟩
        have b0 := keepsB hB b0
        have b1 := keepsB hB b1
        have b2 := keepsB hB b2
        have d0 := keepsB hB d0
        have d1 := keepsB hB d1
        have HB2 := Lib.hid (HB1.out.trans (hB.mono HB1.out.size))
        clear hB
        go_wp2_with fail
        refine (mayR_any N lo hi D true _ H3.out).mono ?_
        rintro e w3 ⟨rfl, hB⟩
        have b0 := keepsB hB b0
        have b1 := keepsB hB b1
        have b2 := keepsB hB b2
        have d0 := keepsB hB d0
        have d1 := keepsB hB d1
        have HB3 := Lib.hid (HB2.out.trans (hB.mono HB2.out.size))
        clear hB
        go_wp2_with fail
        go_ret
        exact ⟨by rw [hv.out]; rfl, HB3.out⟩

set_option maxRecDepth 100000 in
set_option maxHeartbeats 2000000 in
theorem checkR_any (N lo hi : Int) (w : World) :
    Calls Try.prog 15 #[.agg #[.int .i64 N, .int .i64 lo, .int .i64 hi]] w fun e w' => e = .returned (.int .i64 (unlessV (cargoB N lo hi) 10)) ∧ Below w.heap.size w w' := by
  have hB0 : Below w.heap.size w (w.alloc (.cells #[.int .i64 N, .int .i64 lo, .int .i64 hi] 25)) := (Below.refl _ w).alloc (Nat.le_refl _) _
  have HB0 := Lib.hid hB0
  clear hB0
  generalize hq1 : cargoB N lo hi = q1
  have H1 := Lib.hid hq1
  clear hq1
  cases q1
  · go_enter Try.func15, Try.ntmps15
    go_wp2_with fail
    refine (cargoR_any N lo hi false _ H1.out).mono ?_
    rintro e w1 ⟨rfl, hB⟩
    have HB1 := Lib.hid (HB0.out.trans (hB.mono HB0.out.size))
    clear hB
    go_wp2_with fail
    go_ret
    exact ⟨rfl, HB1.out⟩
  · go_enter Try.func15, Try.ntmps15
    go_wp2_with fail
    refine (cargoR_any N lo hi true _ H1.out).mono ?_
    rintro e w1 ⟨rfl, hB⟩
    have HB1 := Lib.hid (HB0.out.trans (hB.mono HB0.out.size))
    clear hB
    go_wp2_with fail
    go_ret
    exact ⟨rfl, HB1.out⟩

set_option maxRecDepth 100000 in
set_option maxHeartbeats 2000000 in
theorem waysR_any (n k : Int) (w : World) :
    Calls Try.prog 7 #[.int .i64 n, .int .i64 k] w fun e w' => e = .returned (.tuple (if nkB n k = true then #[.int .i64 (chI n k), .int .i64 0] else #[.int .i64 0, .int .i64 2])) ∧ w = w' := by
  cases h1 : inB 0 36 [n]
  · have hv : nkB n k = false := by simp [nkB, h1]
    rw [hv]
    have H1 := Lib.hid h1
    clear h1 hv
    go_enter Try.func7, Try.ntmps7
    go_wp2_with fail
    refine (within_any n 0 36 false _ H1.out).mono ?_
    rintro e w1 ⟨rfl, rfl⟩
    go_wp2_with fail
    go_ret2
    exact ⟨rfl, rfl⟩
  · cases h2 : inB 0 n [k]
    · have hv : nkB n k = false := by simp [nkB, h1, h2]
      rw [hv]
      have H1 := Lib.hid h1
      have H2 := Lib.hid h2
      clear h1 h2 hv
      go_enter Try.func7, Try.ntmps7
      go_wp2_with fail
      refine (within_any n 0 36 true _ H1.out).mono ?_
      rintro e w1 ⟨rfl, rfl⟩
      go_wp2_with fail
      refine (within_any k 0 n false _ H2.out).mono ?_
      rintro e w1 ⟨rfl, rfl⟩
      go_wp2_with fail
      go_ret2
      exact ⟨rfl, rfl⟩
    · have hv : nkB n k = true := by simp [nkB, h1, h2]
      have hn := (nkB_iff n k).1 hv
      rw [hv]
      have H1 := Lib.hid h1
      have H2 := Lib.hid h2
      clear h1 h2 hv
      go_enter Try.func7, Try.ntmps7
      go_wp2_with fail
      refine (within_any n 0 36 true _ H1.out).mono ?_
      rintro e w1 ⟨rfl, rfl⟩
      go_wp2_with fail
      refine (within_any k 0 n true _ H2.out).mono ?_
      rintro e w1 ⟨rfl, rfl⟩
      go_wp2_with fail
      refine (choose_any n k _ (by omega) (by omega) (by omega)).mono ?_
      rintro e w1 ⟨rfl, rfl⟩
      go_wp2_with fail
      go_ret2
      exact ⟨rfl, rfl⟩

set_option maxRecDepth 100000 in
set_option maxHeartbeats 2000000 in
theorem chanceR_b (N lo hi D o f z : Int) (w : World) (hz : Hid (drawnR N lo hi D o f = z)) (hz0 : (z != 0) = true) :
    Calls Try.prog 9 #[.agg #[.int .i64 N, .int .i64 lo, .int .i64 hi], .int .i64 D, .agg #[.int .i64 o, .int .i64 f]] w fun e w' => e = .returned (.tuple #[.agg #[.int .i64 0, .int .i64 0], .int .i64 z]) ∧ Below w.heap.size w w' := by
  have hB0 : Below w.heap.size w (((w.alloc (.cells #[.int .i64 N, .int .i64 lo, .int .i64 hi] 25)).alloc (.cells #[.int .i64 o, .int .i64 f] 27)).alloc (.cells #[.int .i64 0, .int .i64 0] 34)) := (((Below.refl _ w).alloc (Nat.le_refl _) _).alloc (by simp) _).alloc (by simp; omega) _
  have b0 : (((w.alloc (.cells #[.int .i64 N, .int .i64 lo, .int .i64 hi] 25)).alloc (.cells #[.int .i64 o, .int .i64 f] 27)).alloc (.cells #[.int .i64 0, .int .i64 0] 34)).cell? ⟨w.heap.size, 0, none⟩ = some (.int .i64 N) := by simp [go_sem]
  have d0 : (((w.alloc (.cells #[.int .i64 N, .int .i64 lo, .int .i64 hi] 25)).alloc (.cells #[.int .i64 o, .int .i64 f] 27)).alloc (.cells #[.int .i64 0, .int .i64 0] 34)).cell? ⟨w.heap.size + 1, 0, none⟩ = some (.int .i64 o) := by simp [go_sem]
  have d1 : (((w.alloc (.cells #[.int .i64 N, .int .i64 lo, .int .i64 hi] 25)).alloc (.cells #[.int .i64 o, .int .i64 f] 27)).alloc (.cells #[.int .i64 0, .int .i64 0] 34)).cell? ⟨w.heap.size + 1, 1, none⟩ = some (.int .i64 f) := by simp [go_sem]
  have hT : Two (w.heap.size + 1 + 1) (.int .i64 0) (.int .i64 0) (((w.alloc (.cells #[.int .i64 N, .int .i64 lo, .int .i64 hi] 25)).alloc (.cells #[.int .i64 o, .int .i64 f] 27)).alloc (.cells #[.int .i64 0, .int .i64 0] 34)) := ⟨by simp [go_sem], by simp [go_sem], by simp [go_sem], by simp [go_sem]⟩
  have HT := Lib.hid hT
  have HB0 := Lib.hid hB0
  clear hT hB0
  go_enter Try.func9, Try.ntmps9
  go_wp2_with fail
  generalize (((w.alloc (.cells #[.int .i64 N, .int .i64 lo, .int .i64 hi] 25)).alloc (.cells #[.int .i64 o, .int .i64 f] 27)).alloc (.cells #[.int .i64 0, .int .i64 0] 34)) = W0 at *
  generalize hbb : w.heap.size = bb at *
  have HBB := Lib.hid hbb
  clear hbb
  have hs0 : bb + 1 + 1 < W0.heap.size := lt_of_cell HT.out.c0
  refine (drawnR_any N lo hi D o f z _ hz.out).mono ?_
  rintro e w1 ⟨rfl, hB⟩
  have T1 := HT.out.keeps hB
  have b0 := keepsB hB b0
  have d0 := keepsB hB d0
  have d1 := keepsB hB d1
  have HB1 := Lib.hid (HB0.out.trans (hB.mono (by omega)))
  have hs1 := hB.size
  clear hB
  have r0 := T1.c0
  have r1 := T1.c1
  have r2 := T1.f0
  have r3 := T1.f1
  obtain ⟨s0, s1⟩ := two_stores (w := w1) (b := bb + 1 + 1) (.int .i64 0) (.int .i64 0) r0 r1
  have hB9 := Lib.hid ((HB1.out.setCell (p := ⟨bb + 1 + 1, 0, none⟩) (by show bb ≤ bb + 1 + 1; omega) (.int .i64 0)).setCell (p := ⟨bb + 1 + 1, 1, none⟩) (by show bb ≤ bb + 1 + 1; omega) (.int .i64 0))
  go_wp2_with fail
  refine bodyPost_ret (v := .tuple #[.agg #[.int .i64 0, .int .i64 0], .int .i64 z]) ?_ rfl ⟨rfl, ?_⟩
  · simp [results, Try.results9, go_sem, s0, s1]
  · have hbb := HBB.out
    subst hbb
    exact hB9.out

set_option maxRecDepth 100000 in
set_option maxHeartbeats 2000000 in
theorem chanceR_c (N lo hi D o f : Int) (w : World) (hc : cargoB N lo hi = true) (hd : drawB N o f = true) (hm : inB lo hi [D] = true) :
    Calls Try.prog 9 #[.agg #[.int .i64 N, .int .i64 lo, .int .i64 hi], .int .i64 D, .agg #[.int .i64 o, .int .i64 f]] w fun e w' => e = .returned (.tuple #[partV (waysI N D o f).toNat (chI N o).toNat, .int .i64 0]) ∧ Below w.heap.size w w' := by
  have hN := (cargoB_iff N lo hi).1 hc
  have hD := (drawB_iff N o f).1 hd
  have hM : lo ≤ D ∧ D ≤ hi := by simpa [inB] using hm
  have hz : Hid (drawnR N lo hi D o f = 0) := by simp [Hid, drawnR, drawnE, hc, hd, hm, unlessV, firstE]
  obtain ⟨px, py, hp⟩ : ∃ px py : Int, partV (waysI N D o f).toNat (chI N o).toNat = .agg #[.int .i64 px, .int .i64 py] := ⟨_, _, rfl⟩
  have HP0 : Hid (partV (waysI N D o f).toNat (chI N o).toNat = .agg #[.int .i64 px, .int .i64 py]) := by
    show _ = _
    rw [← hp]
  have hnum : Hid (0 ≤ waysI N D o f ∧ waysI N D o f ≤ 4611686018427387904) := by
    have := waysI_bound N D o f (by omega) (by omega) (by omega); exact ⟨this.1, by omega⟩
  have hA : Hid (1 ≤ chI N o ∧ chI N o ≤ 68719476736) := chI_pos N o (by omega) hN.2.1 hD.1 hD.2.1
  have HP := Lib.hid hp
  clear hp hc hd hm
  have hB0 : Below w.heap.size w (((w.alloc (.cells #[.int .i64 N, .int .i64 lo, .int .i64 hi] 25)).alloc (.cells #[.int .i64 o, .int .i64 f] 27)).alloc (.cells #[.int .i64 0, .int .i64 0] 34)) := (((Below.refl _ w).alloc (Nat.le_refl _) _).alloc (by simp) _).alloc (by simp; omega) _
  have b0 : (((w.alloc (.cells #[.int .i64 N, .int .i64 lo, .int .i64 hi] 25)).alloc (.cells #[.int .i64 o, .int .i64 f] 27)).alloc (.cells #[.int .i64 0, .int .i64 0] 34)).cell? ⟨w.heap.size, 0, none⟩ = some (.int .i64 N) := by simp [go_sem]
  have d0 : (((w.alloc (.cells #[.int .i64 N, .int .i64 lo, .int .i64 hi] 25)).alloc (.cells #[.int .i64 o, .int .i64 f] 27)).alloc (.cells #[.int .i64 0, .int .i64 0] 34)).cell? ⟨w.heap.size + 1, 0, none⟩ = some (.int .i64 o) := by simp [go_sem]
  have d1 : (((w.alloc (.cells #[.int .i64 N, .int .i64 lo, .int .i64 hi] 25)).alloc (.cells #[.int .i64 o, .int .i64 f] 27)).alloc (.cells #[.int .i64 0, .int .i64 0] 34)).cell? ⟨w.heap.size + 1, 1, none⟩ = some (.int .i64 f) := by simp [go_sem]
  have hT : Two (w.heap.size + 1 + 1) (.int .i64 0) (.int .i64 0) (((w.alloc (.cells #[.int .i64 N, .int .i64 lo, .int .i64 hi] 25)).alloc (.cells #[.int .i64 o, .int .i64 f] 27)).alloc (.cells #[.int .i64 0, .int .i64 0] 34)) := ⟨by simp [go_sem], by simp [go_sem], by simp [go_sem], by simp [go_sem]⟩
  have HT := Lib.hid hT
  have HB0 := Lib.hid hB0
  clear hT hB0
  go_enter Try.func9, Try.ntmps9
  go_wp2_with fail
  generalize (((w.alloc (.cells #[.int .i64 N, .int .i64 lo, .int .i64 hi] 25)).alloc (.cells #[.int .i64 o, .int .i64 f] 27)).alloc (.cells #[.int .i64 0, .int .i64 0] 34)) = W0 at *
  generalize hbb : w.heap.size = bb at *
  have HBB := Lib.hid hbb
  clear hbb
  have hs0 : bb + 1 + 1 < W0.heap.size := lt_of_cell HT.out.c0
  refine (drawnR_any N lo hi D o f 0 _ hz.out).mono ?_
  rintro e w1 ⟨rfl, hB⟩
  have T1 := HT.out.keeps hB
  have b0 := keepsB hB b0
  have d0 := keepsB hB d0
  have d1 := keepsB hB d1
  have HB1 := Lib.hid (HB0.out.trans (hB.mono (by omega)))
  have hs1 := hB.size
  clear hB
  have HT1 := Lib.hid T1
  clear T1
  have hnc : Hid (∀ W, Calls Try.prog 46 #[.int .i64 N, .int .i64 D, .int .i64 o, .int .i64 f] W fun e w' => e = .returned (.int .i64 (waysI N D o f)) ∧ W = w') := fun W => countR_any N D o f W (by omega) (by omega) (by omega) (by omega) (by omega) (by omega)
  have hcc : Hid (∀ W, Calls Try.prog 37 #[.int .i64 N, .int .i64 o] W fun e w' => e = .returned (.int .i64 (chI N o)) ∧ W = w') := fun W => choose_any N o W (by omega) (by omega) (by omega)
  generalize hWe : waysI N D o f = WV at *
  generalize hAe : chI N o = A at *
  have HWA := Lib.hid (And.intro hWe hAe)
  clear hWe hAe
  generalize hrb : bb + 1 + 1 = rb at *
  have HRB := Lib.hid hrb
  clear hrb
  go_wp2_with fail
  have hF : ∀ W, KeptR rb rb [.int .i64 px, .int .i64 py] w1.drew W → W.cell? ⟨bb, 0, none⟩ = some (.int .i64 N) ∧ W.cell? ⟨bb + 1, 0, none⟩ = some (.int .i64 o) ∧ W.cell? ⟨bb + 1, 1, none⟩ = some (.int .i64 f) ∧ (W.cell? ⟨rb, 0, none⟩).isSome = true ∧ (W.cell? ⟨rb, 1, none⟩).isSome = true ∧ W.frozen? ⟨rb, 0, none⟩ = false ∧ W.frozen? ⟨rb, 1, none⟩ = false :=
    fun W hW => have e := HRB.out
      ⟨hW.cell b0 (by show bb ≠ rb; omega) (by show bb ≠ rb; omega), hW.cell d0 (by show bb + 1 ≠ rb; omega) (by show bb + 1 ≠ rb; omega), hW.cell d1 (by show bb + 1 ≠ rb; omega) (by show bb + 1 ≠ rb; omega),
      hW.there 0 (by simpa using congrArg Option.isSome HT1.out.c0), hW.there 1 (by simpa using congrArg Option.isSome HT1.out.c1), (hW.frozen 0).trans HT1.out.f0, (hW.frozen 1).trans HT1.out.f1⟩
  have hC : Hid (∀ W, KeptR rb rb [.int .i64 px, .int .i64 py] w1.drew W → rb < W.heap.size) := fun W hW => Nat.lt_of_lt_of_le (Nat.lt_of_lt_of_le hs0 hs1) hW.size
  refine Free.wp_free (R := KeptR rb rb [.int .i64 px, .int .i64 py]) (by kernel_rfl) (by kernel_rfl) (KeptR.refl rb rb _) (fun _ _ _ h k => h.trans k) ?_
  refine Free.Chain.ex ?_ [] [3] (by kernel_rfl) (by kernel_rfl) rfl (KeptR.refl rb rb _) ?_ ?_
  rotate_left
  · (intro ev W hb hR hO hD; have hS := hF W hR; obtain ⟨hb1, hb2, hb3⟩ := hb; simp only [Free.AllDeps, Free.AllOuts, Free.At, List.getElem?_cons_succ, List.getElem?_cons_zero, Array.getD_eq_getD_getElem?, List.getElem?_toArray, Option.getD_some, and_true] at hO hD; go_simp; rfl)
  simp only [List.nil_append, List.cons_append]
  refine Free.Chain.ex ?_ [(0, 17)] [] (by kernel_rfl) (by kernel_rfl) rfl (KeptR.refl rb rb _) ?_ ?_
  rotate_left
  · (intro ev W hb hR hO hD; have hS := hF W hR; obtain ⟨hb1, hb2, hb3⟩ := hb; simp only [Free.AllDeps, Free.AllOuts, Free.At, List.getElem?_cons_succ, List.getElem?_cons_zero, Array.getD_eq_getD_getElem?, List.getElem?_toArray, Option.getD_some, and_true] at hO hD; go_simp; rfl)
  simp only [List.nil_append, List.cons_append]
  refine Free.Chain.ex ?_ [] [1] (by kernel_rfl) (by kernel_rfl) rfl (KeptR.refl rb rb _) ?_ ?_
  rotate_left
  · (intro ev W hb hR hO hD; have hS := hF W hR; obtain ⟨hb1, hb2, hb3⟩ := hb; simp only [Free.AllDeps, Free.AllOuts, Free.At, List.getElem?_cons_succ, List.getElem?_cons_zero, Array.getD_eq_getD_getElem?, List.getElem?_toArray, Option.getD_some, and_true] at hO hD; go_simp; rfl)
  simp only [List.nil_append, List.cons_append]
  refine Free.Chain.ex ?_ [] [5] (by kernel_rfl) (by kernel_rfl) rfl (KeptR.refl rb rb _) ?_ ?_
  rotate_left
  · (intro ev W hb hR hO hD; have hS := hF W hR; obtain ⟨hb1, hb2, hb3⟩ := hb; simp only [Free.AllDeps, Free.AllOuts, Free.At, List.getElem?_cons_succ, List.getElem?_cons_zero, Array.getD_eq_getD_getElem?, List.getElem?_toArray, Option.getD_some, and_true] at hO hD; go_simp; rfl)
  simp only [List.nil_append, List.cons_append]
  refine Free.Chain.ex ?_ [(3, 20)] [] (by kernel_rfl) (by kernel_rfl) rfl (KeptR.refl rb rb _) ?_ ?_
  rotate_left
  · (intro ev W hb hR hO hD; have hS := hF W hR; obtain ⟨hb1, hb2, hb3⟩ := hb; simp only [Free.AllDeps, Free.AllOuts, Free.At, List.getElem?_cons_succ, List.getElem?_cons_zero, Array.getD_eq_getD_getElem?, List.getElem?_toArray, Option.getD_some, and_true] at hO hD; go_simp; rfl)
  simp only [List.nil_append, List.cons_append]
  refine Free.Chain.ex ?_ [] [5] (by kernel_rfl) (by kernel_rfl) rfl (KeptR.refl rb rb _) ?_ ?_
  rotate_left
  · (intro ev W hb hR hO hD; have hS := hF W hR; obtain ⟨hb1, hb2, hb3⟩ := hb; simp only [Free.AllDeps, Free.AllOuts, Free.At, List.getElem?_cons_succ, List.getElem?_cons_zero, Array.getD_eq_getD_getElem?, List.getElem?_toArray, Option.getD_some, and_true] at hO hD; go_simp; rfl)
  simp only [List.nil_append, List.cons_append]
  refine Free.Chain.ex ?_ [(5, 22)] [] (by kernel_rfl) (by kernel_rfl) rfl (KeptR.refl rb rb _) ?_ ?_
  rotate_left
  · (intro ev W hb hR hO hD; have hS := hF W hR; obtain ⟨hb1, hb2, hb3⟩ := hb; simp only [Free.AllDeps, Free.AllOuts, Free.At, List.getElem?_cons_succ, List.getElem?_cons_zero, Array.getD_eq_getD_getElem?, List.getElem?_toArray, Option.getD_some, and_true] at hO hD; go_simp; rfl)
  simp only [List.nil_append, List.cons_append]
  refine Free.Chain.pr (fun v _ => v = .int .i64 WV) [(1, 18), (2, 19), (4, 21), (6, 23)] [] (by kernel_rfl) (by kernel_rfl) rfl (fun _ _ _ _ h => h) ?_ ?_
  · (intro ev W hb hR hO hD; have hS := hF W hR; obtain ⟨hb1, hb2, hb3⟩ := hb; simp only [Free.AllDeps, Free.AllOuts, Free.At, List.getElem?_cons_succ, List.getElem?_cons_zero, Array.getD_eq_getD_getElem?, List.getElem?_toArray, Option.getD_some, and_true] at hO hD; go_simp; refine (hnc.out _).mono ?_; rintro e W1 ⟨rfl, rfl⟩; exact ⟨_, rfl, KeptR.refl rb rb _ _, rfl⟩)
  simp only [List.nil_append, List.cons_append]
  refine Free.Chain.ex ?_ [] [3] (by kernel_rfl) (by kernel_rfl) rfl (KeptR.refl rb rb _) ?_ ?_
  rotate_left
  · (intro ev W hb hR hO hD; have hS := hF W hR; obtain ⟨hb1, hb2, hb3⟩ := hb; simp only [Free.AllDeps, Free.AllOuts, Free.At, List.getElem?_cons_succ, List.getElem?_cons_zero, Array.getD_eq_getD_getElem?, List.getElem?_toArray, Option.getD_some, and_true] at hO hD; go_simp; rfl)
  simp only [List.nil_append, List.cons_append]
  refine Free.Chain.ex ?_ [(8, 25)] [] (by kernel_rfl) (by kernel_rfl) rfl (KeptR.refl rb rb _) ?_ ?_
  rotate_left
  · (intro ev W hb hR hO hD; have hS := hF W hR; obtain ⟨hb1, hb2, hb3⟩ := hb; simp only [Free.AllDeps, Free.AllOuts, Free.At, List.getElem?_cons_succ, List.getElem?_cons_zero, Array.getD_eq_getD_getElem?, List.getElem?_toArray, Option.getD_some, and_true] at hO hD; go_simp; rfl)
  simp only [List.nil_append, List.cons_append]
  refine Free.Chain.ex ?_ [] [5] (by kernel_rfl) (by kernel_rfl) rfl (KeptR.refl rb rb _) ?_ ?_
  rotate_left
  · (intro ev W hb hR hO hD; have hS := hF W hR; obtain ⟨hb1, hb2, hb3⟩ := hb; simp only [Free.AllDeps, Free.AllOuts, Free.At, List.getElem?_cons_succ, List.getElem?_cons_zero, Array.getD_eq_getD_getElem?, List.getElem?_toArray, Option.getD_some, and_true] at hO hD; go_simp; rfl)
  simp only [List.nil_append, List.cons_append]
  refine Free.Chain.ex ?_ [(10, 27)] [] (by kernel_rfl) (by kernel_rfl) rfl (KeptR.refl rb rb _) ?_ ?_
  rotate_left
  · (intro ev W hb hR hO hD; have hS := hF W hR; obtain ⟨hb1, hb2, hb3⟩ := hb; simp only [Free.AllDeps, Free.AllOuts, Free.At, List.getElem?_cons_succ, List.getElem?_cons_zero, Array.getD_eq_getD_getElem?, List.getElem?_toArray, Option.getD_some, and_true] at hO hD; go_simp; rfl)
  simp only [List.nil_append, List.cons_append]
  refine Free.Chain.pr (fun v _ => v = .int .i64 A) [(9, 26), (11, 28), (7, 24)] [] (by kernel_rfl) (by kernel_rfl) rfl (fun _ _ _ _ h => h) ?_ ?_
  · (intro ev W hb hR hO hD; have hS := hF W hR; obtain ⟨hb1, hb2, hb3⟩ := hb; simp only [Free.AllDeps, Free.AllOuts, Free.At, List.getElem?_cons_succ, List.getElem?_cons_zero, Array.getD_eq_getD_getElem?, List.getElem?_toArray, Option.getD_some, and_true] at hO hD; go_simp; refine (hcc.out _).mono ?_; rintro e W1 ⟨rfl, rfl⟩; exact ⟨_, rfl, KeptR.refl rb rb _ _, rfl⟩)
  simp only [List.nil_append, List.cons_append]
  refine Free.Chain.pr (fun v _ => v = .agg #[.int .i64 px, .int .i64 py]) [(7, 24), (12, 29), (12, 29)] [] (by kernel_rfl) (by kernel_rfl) rfl (fun _ _ _ _ h => h) ?_ ?_
  · (intro ev W hb hR hO hD; have hS := hF W hR; obtain ⟨hb1, hb2, hb3⟩ := hb; simp only [Free.AllDeps, Free.AllOuts, Free.At, List.getElem?_cons_succ, List.getElem?_cons_zero, Array.getD_eq_getD_getElem?, List.getElem?_toArray, Option.getD_some, and_true] at hO hD; go_simp; refine (least_int WV A hnum.out.1 (by have := hA.out; omega) hnum.out.2 (by have := hA.out; omega) _ HP.out _).mono ?_; rintro e W1 ⟨rfl, hB1⟩; exact ⟨_, rfl, KeptR.of_below hB1 (hC.out _ hR), rfl⟩)
  simp only [List.nil_append, List.cons_append]
  refine Free.Chain.pr (fun _ w => w.cell? ⟨rb, 0, none⟩ = some (.int .i64 px) ∧ w.cell? ⟨rb, 1, none⟩ = some (.int .i64 py)) [(13, 30), (13, 30), (0, 17), (1, 18), (2, 19), (3, 20), (4, 21), (5, 22), (6, 23), (7, 24), (8, 25), (9, 26), (10, 27), (11, 28), (12, 29), (13, 30)] [6] (by kernel_rfl) (by kernel_rfl) rfl (KeptR.stable2) ?_ ?_
  · (intro ev W hb hR hO hD; have hS := hF W hR; obtain ⟨hb1, hb2, hb3⟩ := hb; simp only [Free.AllDeps, Free.AllOuts, Free.At, List.getElem?_cons_succ, List.getElem?_cons_zero, Array.getD_eq_getD_getElem?, List.getElem?_toArray, Option.getD_some, and_true] at hO hD; (obtain ⟨u0, hu0⟩ := Option.isSome_iff_exists.1 (show (W.cell? ⟨rb, 0, none⟩).isSome = true by simp [hS])); (obtain ⟨u1, hu1⟩ := Option.isSome_iff_exists.1 (show (W.cell? ⟨rb, 1, none⟩).isSome = true by simp [hS])); go_simp; exact KeptR.store2' hu0 hu1)
  simp only [List.nil_append, List.cons_append]
  refine Free.Chain.ex ?_ [(0, 17), (1, 18), (2, 19), (3, 20), (4, 21), (5, 22), (6, 23), (7, 24), (8, 25), (9, 26), (10, 27), (11, 28), (12, 29), (13, 30)] [] (by kernel_rfl) (by kernel_rfl) rfl (KeptR.refl rb rb _) ?_ ?_
  rotate_left
  · (intro ev W hb hR hO hD; have hS := hF W hR; obtain ⟨hb1, hb2, hb3⟩ := hb; simp only [Free.AllDeps, Free.AllOuts, Free.At, List.getElem?_cons_succ, List.getElem?_cons_zero, Array.getD_eq_getD_getElem?, List.getElem?_toArray, Option.getD_some, and_true] at hO hD; go_simp; rfl)
  simp only [List.nil_append, List.cons_append]
  intro xs w' hR hV
  simp only [Free.AllV, Free.At, List.length_cons, List.length_nil, Nat.reduceAdd, List.getElem?_cons_succ, List.getElem?_cons_zero, true_and] at hV
  simp only [Free.putsFrom, Act.put, hV, List.setIfInBounds_toArray, List.set_cons_succ, List.set_cons_zero]
  go_wp2_with fail
  have hcell := hV.1.2
  refine bodyPost_ret (v := .tuple #[.agg #[.int .i64 px, .int .i64 py], .int .i64 0]) ?_ rfl ⟨?_, ?_⟩
  · simp [results, Try.results9, go_sem, hcell]
  · first | rw [HP0.out] | rw [HWA.out.1, HWA.out.2, HP0.out]
  · have hbb := HBB.out
    subst hbb
    have hrb := HRB.out
    have hsz := HB1.out.size
    exact ⟨hR.os.trans HB1.out.os, hR.tape.trans HB1.out.tape, hR.output.trans HB1.out.output, Nat.le_trans HB1.out.size hR.size, fun k hk => (hR.block k (Nat.lt_of_lt_of_le hk hsz) (by omega) (by omega)).trans (HB1.out.block k hk)⟩

theorem chanceR_any (N lo hi D o f : Int) (w : World) :
    Calls Try.prog 9 #[.agg #[.int .i64 N, .int .i64 lo, .int .i64 hi], .int .i64 D, .agg #[.int .i64 o, .int .i64 f]] w fun e w' => e = .returned (.tuple (if cargoB N lo hi = false then #[zeroPart, .int .i64 10] else if drawnE N lo hi D o f ≠ 0 then #[zeroPart, .int .i64 (drawnE N lo hi D o f)] else #[partV (waysI N D o f).toNat (chI N o).toNat, .int .i64 0])) ∧ Below w.heap.size w w' := by
  cases hc : cargoB N lo hi
  · simpa [zeroPart] using chanceR_b N lo hi D o f 10 w (by simp [Hid, drawnR, hc]) rfl
  · by_cases hz : drawnE N lo hi D o f = 0
    · have hd : drawB N o f = true := by
        cases h : drawB N o f
        · simp [drawnE, h, unlessV, firstE] at hz
        · rfl
      have hm : inB lo hi [D] = true := by
        cases h : inB lo hi [D]
        · simp [drawnE, hd, h, unlessV, firstE] at hz
        · rfl
      simpa [hz] using chanceR_c N lo hi D o f w hc hd hm
    · rw [if_neg (by simp), if_pos hz]
      exact chanceR_b N lo hi D o f _ w (by simp [Hid, drawnR, hc]) (by simpa using hz)

set_option maxRecDepth 100000 in
set_option maxHeartbeats 2000000 in
theorem atmostR_b (N lo hi D o f z : Int) (w : World) (hz : Hid (drawnR N lo hi D o f = z)) (hz0 : (z != 0) = true) :
    Calls Try.prog 11 #[.agg #[.int .i64 N, .int .i64 lo, .int .i64 hi], .int .i64 D, .agg #[.int .i64 o, .int .i64 f]] w fun e w' => e = .returned (.tuple #[.agg #[.int .i64 0, .int .i64 0], .int .i64 z]) ∧ Below w.heap.size w w' := by
  have hB0 : Below w.heap.size w (((w.alloc (.cells #[.int .i64 N, .int .i64 lo, .int .i64 hi] 25)).alloc (.cells #[.int .i64 o, .int .i64 f] 27)).alloc (.cells #[.int .i64 0, .int .i64 0] 34)) := (((Below.refl _ w).alloc (Nat.le_refl _) _).alloc (by simp) _).alloc (by simp; omega) _
  have b0 : (((w.alloc (.cells #[.int .i64 N, .int .i64 lo, .int .i64 hi] 25)).alloc (.cells #[.int .i64 o, .int .i64 f] 27)).alloc (.cells #[.int .i64 0, .int .i64 0] 34)).cell? ⟨w.heap.size, 0, none⟩ = some (.int .i64 N) := by simp [go_sem]
  have d0 : (((w.alloc (.cells #[.int .i64 N, .int .i64 lo, .int .i64 hi] 25)).alloc (.cells #[.int .i64 o, .int .i64 f] 27)).alloc (.cells #[.int .i64 0, .int .i64 0] 34)).cell? ⟨w.heap.size + 1, 0, none⟩ = some (.int .i64 o) := by simp [go_sem]
  have d1 : (((w.alloc (.cells #[.int .i64 N, .int .i64 lo, .int .i64 hi] 25)).alloc (.cells #[.int .i64 o, .int .i64 f] 27)).alloc (.cells #[.int .i64 0, .int .i64 0] 34)).cell? ⟨w.heap.size + 1, 1, none⟩ = some (.int .i64 f) := by simp [go_sem]
  have hT : Two (w.heap.size + 1 + 1) (.int .i64 0) (.int .i64 0) (((w.alloc (.cells #[.int .i64 N, .int .i64 lo, .int .i64 hi] 25)).alloc (.cells #[.int .i64 o, .int .i64 f] 27)).alloc (.cells #[.int .i64 0, .int .i64 0] 34)) := ⟨by simp [go_sem], by simp [go_sem], by simp [go_sem], by simp [go_sem]⟩
  have HT := Lib.hid hT
  have HB0 := Lib.hid hB0
  clear hT hB0
  go_enter Try.func11, Try.ntmps11
  go_wp2_with fail
  generalize (((w.alloc (.cells #[.int .i64 N, .int .i64 lo, .int .i64 hi] 25)).alloc (.cells #[.int .i64 o, .int .i64 f] 27)).alloc (.cells #[.int .i64 0, .int .i64 0] 34)) = W0 at *
  generalize hbb : w.heap.size = bb at *
  have HBB := Lib.hid hbb
  clear hbb
  have hs0 : bb + 1 + 1 < W0.heap.size := lt_of_cell HT.out.c0
  refine (drawnR_any N lo hi D o f z _ hz.out).mono ?_
  rintro e w1 ⟨rfl, hB⟩
  have T1 := HT.out.keeps hB
  have b0 := keepsB hB b0
  have d0 := keepsB hB d0
  have d1 := keepsB hB d1
  have HB1 := Lib.hid (HB0.out.trans (hB.mono (by omega)))
  have hs1 := hB.size
  clear hB
  have r0 := T1.c0
  have r1 := T1.c1
  have r2 := T1.f0
  have r3 := T1.f1
  obtain ⟨s0, s1⟩ := two_stores (w := w1) (b := bb + 1 + 1) (.int .i64 0) (.int .i64 0) r0 r1
  have hB9 := Lib.hid ((HB1.out.setCell (p := ⟨bb + 1 + 1, 0, none⟩) (by show bb ≤ bb + 1 + 1; omega) (.int .i64 0)).setCell (p := ⟨bb + 1 + 1, 1, none⟩) (by show bb ≤ bb + 1 + 1; omega) (.int .i64 0))
  go_wp2_with fail
  refine bodyPost_ret (v := .tuple #[.agg #[.int .i64 0, .int .i64 0], .int .i64 z]) ?_ rfl ⟨rfl, ?_⟩
  · simp [results, Try.results11, go_sem, s0, s1]
  · have hbb := HBB.out
    subst hbb
    exact hB9.out

set_option maxRecDepth 100000 in
set_option maxHeartbeats 2000000 in
theorem atmostR_c (N lo hi D o f : Int) (w : World) (hc : cargoB N lo hi = true) (hd : drawB N o f = true) (hm : inB lo hi [D] = true) :
    Calls Try.prog 11 #[.agg #[.int .i64 N, .int .i64 lo, .int .i64 hi], .int .i64 D, .agg #[.int .i64 o, .int .i64 f]] w fun e w' => e = .returned (.tuple #[mostV N D o f, .int .i64 0]) ∧ Below w.heap.size w w' := by
  have hN := (cargoB_iff N lo hi).1 hc
  have hD := (drawB_iff N o f).1 hd
  have hM : lo ≤ D ∧ D ≤ hi := by simpa [inB] using hm
  have hz : Hid (drawnR N lo hi D o f = 0) := by simp [Hid, drawnR, drawnE, hc, hd, hm, unlessV, firstE]
  obtain ⟨px, py, hp⟩ : ∃ px py : Int, partV (fewI N D o (f + 1).toNat).toNat (chI N o).toNat = .agg #[.int .i64 px, .int .i64 py] := ⟨_, _, rfl⟩
  have HP0 : Hid (mostV N D o f = .agg #[.int .i64 px, .int .i64 py]) := by
    show _ = _
    rw [← hp]; unfold mostV; rw [mostI_few N D o f hD.2.2.1 hD.2.2.2]
  have hnum : Hid (0 ≤ fewI N D o (f + 1).toNat ∧ fewI N D o (f + 1).toNat ≤ 4611686018427387904) := by
    have := fewI_bound N D o (by omega) (by omega) (by omega) (f + 1).toNat; exact ⟨this.1, by omega⟩
  have hA : Hid (1 ≤ chI N o ∧ chI N o ≤ 68719476736) := chI_pos N o (by omega) hN.2.1 hD.1 hD.2.1
  have HP := Lib.hid hp
  clear hp hc hd hm
  have hB0 : Below w.heap.size w (((w.alloc (.cells #[.int .i64 N, .int .i64 lo, .int .i64 hi] 25)).alloc (.cells #[.int .i64 o, .int .i64 f] 27)).alloc (.cells #[.int .i64 0, .int .i64 0] 34)) := (((Below.refl _ w).alloc (Nat.le_refl _) _).alloc (by simp) _).alloc (by simp; omega) _
  have b0 : (((w.alloc (.cells #[.int .i64 N, .int .i64 lo, .int .i64 hi] 25)).alloc (.cells #[.int .i64 o, .int .i64 f] 27)).alloc (.cells #[.int .i64 0, .int .i64 0] 34)).cell? ⟨w.heap.size, 0, none⟩ = some (.int .i64 N) := by simp [go_sem]
  have d0 : (((w.alloc (.cells #[.int .i64 N, .int .i64 lo, .int .i64 hi] 25)).alloc (.cells #[.int .i64 o, .int .i64 f] 27)).alloc (.cells #[.int .i64 0, .int .i64 0] 34)).cell? ⟨w.heap.size + 1, 0, none⟩ = some (.int .i64 o) := by simp [go_sem]
  have d1 : (((w.alloc (.cells #[.int .i64 N, .int .i64 lo, .int .i64 hi] 25)).alloc (.cells #[.int .i64 o, .int .i64 f] 27)).alloc (.cells #[.int .i64 0, .int .i64 0] 34)).cell? ⟨w.heap.size + 1, 1, none⟩ = some (.int .i64 f) := by simp [go_sem]
  have hT : Two (w.heap.size + 1 + 1) (.int .i64 0) (.int .i64 0) (((w.alloc (.cells #[.int .i64 N, .int .i64 lo, .int .i64 hi] 25)).alloc (.cells #[.int .i64 o, .int .i64 f] 27)).alloc (.cells #[.int .i64 0, .int .i64 0] 34)) := ⟨by simp [go_sem], by simp [go_sem], by simp [go_sem], by simp [go_sem]⟩
  have HT := Lib.hid hT
  have HB0 := Lib.hid hB0
  clear hT hB0
  go_enter Try.func11, Try.ntmps11
  go_wp2_with fail
  generalize (((w.alloc (.cells #[.int .i64 N, .int .i64 lo, .int .i64 hi] 25)).alloc (.cells #[.int .i64 o, .int .i64 f] 27)).alloc (.cells #[.int .i64 0, .int .i64 0] 34)) = W0 at *
  generalize hbb : w.heap.size = bb at *
  have HBB := Lib.hid hbb
  clear hbb
  have hs0 : bb + 1 + 1 < W0.heap.size := lt_of_cell HT.out.c0
  refine (drawnR_any N lo hi D o f 0 _ hz.out).mono ?_
  rintro e w1 ⟨rfl, hB⟩
  have T1 := HT.out.keeps hB
  have b0 := keepsB hB b0
  have d0 := keepsB hB d0
  have d1 := keepsB hB d1
  have HB1 := Lib.hid (HB0.out.trans (hB.mono (by omega)))
  have hs1 := hB.size
  clear hB
  have HT1 := Lib.hid T1
  clear T1
  have hnc : Hid (∀ W, Calls Try.prog 48 #[.int .i64 N, .int .i64 D, .int .i64 o, .int .i64 f] W fun e w' => e = .returned (.int .i64 (fewI N D o (f + 1).toNat)) ∧ W = w') := fun W => few_any N D o f W (by omega) (by omega) (by omega) (by omega) (by omega)
  have hcc : Hid (∀ W, Calls Try.prog 37 #[.int .i64 N, .int .i64 o] W fun e w' => e = .returned (.int .i64 (chI N o)) ∧ W = w') := fun W => choose_any N o W (by omega) (by omega) (by omega)
  generalize hWe : fewI N D o (f + 1).toNat = WV at *
  generalize hAe : chI N o = A at *
  have HWA := Lib.hid (And.intro hWe hAe)
  clear hWe hAe
  generalize hrb : bb + 1 + 1 = rb at *
  have HRB := Lib.hid hrb
  clear hrb
  go_wp2_with fail
  have hF : ∀ W, KeptR rb rb [.int .i64 px, .int .i64 py] w1.drew W → W.cell? ⟨bb, 0, none⟩ = some (.int .i64 N) ∧ W.cell? ⟨bb + 1, 0, none⟩ = some (.int .i64 o) ∧ W.cell? ⟨bb + 1, 1, none⟩ = some (.int .i64 f) ∧ (W.cell? ⟨rb, 0, none⟩).isSome = true ∧ (W.cell? ⟨rb, 1, none⟩).isSome = true ∧ W.frozen? ⟨rb, 0, none⟩ = false ∧ W.frozen? ⟨rb, 1, none⟩ = false :=
    fun W hW => have e := HRB.out
      ⟨hW.cell b0 (by show bb ≠ rb; omega) (by show bb ≠ rb; omega), hW.cell d0 (by show bb + 1 ≠ rb; omega) (by show bb + 1 ≠ rb; omega), hW.cell d1 (by show bb + 1 ≠ rb; omega) (by show bb + 1 ≠ rb; omega),
      hW.there 0 (by simpa using congrArg Option.isSome HT1.out.c0), hW.there 1 (by simpa using congrArg Option.isSome HT1.out.c1), (hW.frozen 0).trans HT1.out.f0, (hW.frozen 1).trans HT1.out.f1⟩
  have hC : Hid (∀ W, KeptR rb rb [.int .i64 px, .int .i64 py] w1.drew W → rb < W.heap.size) := fun W hW => Nat.lt_of_lt_of_le (Nat.lt_of_lt_of_le hs0 hs1) hW.size
  refine Free.wp_free (R := KeptR rb rb [.int .i64 px, .int .i64 py]) (by kernel_rfl) (by kernel_rfl) (KeptR.refl rb rb _) (fun _ _ _ h k => h.trans k) ?_
  refine Free.Chain.ex ?_ [] [3] (by kernel_rfl) (by kernel_rfl) rfl (KeptR.refl rb rb _) ?_ ?_
  rotate_left
  · (intro ev W hb hR hO hD; have hS := hF W hR; obtain ⟨hb1, hb2, hb3⟩ := hb; simp only [Free.AllDeps, Free.AllOuts, Free.At, List.getElem?_cons_succ, List.getElem?_cons_zero, Array.getD_eq_getD_getElem?, List.getElem?_toArray, Option.getD_some, and_true] at hO hD; go_simp; rfl)
  simp only [List.nil_append, List.cons_append]
  refine Free.Chain.ex ?_ [(0, 17)] [] (by kernel_rfl) (by kernel_rfl) rfl (KeptR.refl rb rb _) ?_ ?_
  rotate_left
  · (intro ev W hb hR hO hD; have hS := hF W hR; obtain ⟨hb1, hb2, hb3⟩ := hb; simp only [Free.AllDeps, Free.AllOuts, Free.At, List.getElem?_cons_succ, List.getElem?_cons_zero, Array.getD_eq_getD_getElem?, List.getElem?_toArray, Option.getD_some, and_true] at hO hD; go_simp; rfl)
  simp only [List.nil_append, List.cons_append]
  refine Free.Chain.ex ?_ [] [1] (by kernel_rfl) (by kernel_rfl) rfl (KeptR.refl rb rb _) ?_ ?_
  rotate_left
  · (intro ev W hb hR hO hD; have hS := hF W hR; obtain ⟨hb1, hb2, hb3⟩ := hb; simp only [Free.AllDeps, Free.AllOuts, Free.At, List.getElem?_cons_succ, List.getElem?_cons_zero, Array.getD_eq_getD_getElem?, List.getElem?_toArray, Option.getD_some, and_true] at hO hD; go_simp; rfl)
  simp only [List.nil_append, List.cons_append]
  refine Free.Chain.ex ?_ [] [5] (by kernel_rfl) (by kernel_rfl) rfl (KeptR.refl rb rb _) ?_ ?_
  rotate_left
  · (intro ev W hb hR hO hD; have hS := hF W hR; obtain ⟨hb1, hb2, hb3⟩ := hb; simp only [Free.AllDeps, Free.AllOuts, Free.At, List.getElem?_cons_succ, List.getElem?_cons_zero, Array.getD_eq_getD_getElem?, List.getElem?_toArray, Option.getD_some, and_true] at hO hD; go_simp; rfl)
  simp only [List.nil_append, List.cons_append]
  refine Free.Chain.ex ?_ [(3, 20)] [] (by kernel_rfl) (by kernel_rfl) rfl (KeptR.refl rb rb _) ?_ ?_
  rotate_left
  · (intro ev W hb hR hO hD; have hS := hF W hR; obtain ⟨hb1, hb2, hb3⟩ := hb; simp only [Free.AllDeps, Free.AllOuts, Free.At, List.getElem?_cons_succ, List.getElem?_cons_zero, Array.getD_eq_getD_getElem?, List.getElem?_toArray, Option.getD_some, and_true] at hO hD; go_simp; rfl)
  simp only [List.nil_append, List.cons_append]
  refine Free.Chain.ex ?_ [] [5] (by kernel_rfl) (by kernel_rfl) rfl (KeptR.refl rb rb _) ?_ ?_
  rotate_left
  · (intro ev W hb hR hO hD; have hS := hF W hR; obtain ⟨hb1, hb2, hb3⟩ := hb; simp only [Free.AllDeps, Free.AllOuts, Free.At, List.getElem?_cons_succ, List.getElem?_cons_zero, Array.getD_eq_getD_getElem?, List.getElem?_toArray, Option.getD_some, and_true] at hO hD; go_simp; rfl)
  simp only [List.nil_append, List.cons_append]
  refine Free.Chain.ex ?_ [(5, 22)] [] (by kernel_rfl) (by kernel_rfl) rfl (KeptR.refl rb rb _) ?_ ?_
  rotate_left
  · (intro ev W hb hR hO hD; have hS := hF W hR; obtain ⟨hb1, hb2, hb3⟩ := hb; simp only [Free.AllDeps, Free.AllOuts, Free.At, List.getElem?_cons_succ, List.getElem?_cons_zero, Array.getD_eq_getD_getElem?, List.getElem?_toArray, Option.getD_some, and_true] at hO hD; go_simp; rfl)
  simp only [List.nil_append, List.cons_append]
  refine Free.Chain.pr (fun v _ => v = .int .i64 WV) [(1, 18), (2, 19), (4, 21), (6, 23)] [] (by kernel_rfl) (by kernel_rfl) rfl (fun _ _ _ _ h => h) ?_ ?_
  · (intro ev W hb hR hO hD; have hS := hF W hR; obtain ⟨hb1, hb2, hb3⟩ := hb; simp only [Free.AllDeps, Free.AllOuts, Free.At, List.getElem?_cons_succ, List.getElem?_cons_zero, Array.getD_eq_getD_getElem?, List.getElem?_toArray, Option.getD_some, and_true] at hO hD; go_simp; refine (hnc.out _).mono ?_; rintro e W1 ⟨rfl, rfl⟩; exact ⟨_, rfl, KeptR.refl rb rb _ _, rfl⟩)
  simp only [List.nil_append, List.cons_append]
  refine Free.Chain.ex ?_ [] [3] (by kernel_rfl) (by kernel_rfl) rfl (KeptR.refl rb rb _) ?_ ?_
  rotate_left
  · (intro ev W hb hR hO hD; have hS := hF W hR; obtain ⟨hb1, hb2, hb3⟩ := hb; simp only [Free.AllDeps, Free.AllOuts, Free.At, List.getElem?_cons_succ, List.getElem?_cons_zero, Array.getD_eq_getD_getElem?, List.getElem?_toArray, Option.getD_some, and_true] at hO hD; go_simp; rfl)
  simp only [List.nil_append, List.cons_append]
  refine Free.Chain.ex ?_ [(8, 25)] [] (by kernel_rfl) (by kernel_rfl) rfl (KeptR.refl rb rb _) ?_ ?_
  rotate_left
  · (intro ev W hb hR hO hD; have hS := hF W hR; obtain ⟨hb1, hb2, hb3⟩ := hb; simp only [Free.AllDeps, Free.AllOuts, Free.At, List.getElem?_cons_succ, List.getElem?_cons_zero, Array.getD_eq_getD_getElem?, List.getElem?_toArray, Option.getD_some, and_true] at hO hD; go_simp; rfl)
  simp only [List.nil_append, List.cons_append]
  refine Free.Chain.ex ?_ [] [5] (by kernel_rfl) (by kernel_rfl) rfl (KeptR.refl rb rb _) ?_ ?_
  rotate_left
  · (intro ev W hb hR hO hD; have hS := hF W hR; obtain ⟨hb1, hb2, hb3⟩ := hb; simp only [Free.AllDeps, Free.AllOuts, Free.At, List.getElem?_cons_succ, List.getElem?_cons_zero, Array.getD_eq_getD_getElem?, List.getElem?_toArray, Option.getD_some, and_true] at hO hD; go_simp; rfl)
  simp only [List.nil_append, List.cons_append]
  refine Free.Chain.ex ?_ [(10, 27)] [] (by kernel_rfl) (by kernel_rfl) rfl (KeptR.refl rb rb _) ?_ ?_
  rotate_left
  · (intro ev W hb hR hO hD; have hS := hF W hR; obtain ⟨hb1, hb2, hb3⟩ := hb; simp only [Free.AllDeps, Free.AllOuts, Free.At, List.getElem?_cons_succ, List.getElem?_cons_zero, Array.getD_eq_getD_getElem?, List.getElem?_toArray, Option.getD_some, and_true] at hO hD; go_simp; rfl)
  simp only [List.nil_append, List.cons_append]
  refine Free.Chain.pr (fun v _ => v = .int .i64 A) [(9, 26), (11, 28), (7, 24)] [] (by kernel_rfl) (by kernel_rfl) rfl (fun _ _ _ _ h => h) ?_ ?_
  · (intro ev W hb hR hO hD; have hS := hF W hR; obtain ⟨hb1, hb2, hb3⟩ := hb; simp only [Free.AllDeps, Free.AllOuts, Free.At, List.getElem?_cons_succ, List.getElem?_cons_zero, Array.getD_eq_getD_getElem?, List.getElem?_toArray, Option.getD_some, and_true] at hO hD; go_simp; refine (hcc.out _).mono ?_; rintro e W1 ⟨rfl, rfl⟩; exact ⟨_, rfl, KeptR.refl rb rb _ _, rfl⟩)
  simp only [List.nil_append, List.cons_append]
  refine Free.Chain.pr (fun v _ => v = .agg #[.int .i64 px, .int .i64 py]) [(7, 24), (12, 29), (12, 29)] [] (by kernel_rfl) (by kernel_rfl) rfl (fun _ _ _ _ h => h) ?_ ?_
  · (intro ev W hb hR hO hD; have hS := hF W hR; obtain ⟨hb1, hb2, hb3⟩ := hb; simp only [Free.AllDeps, Free.AllOuts, Free.At, List.getElem?_cons_succ, List.getElem?_cons_zero, Array.getD_eq_getD_getElem?, List.getElem?_toArray, Option.getD_some, and_true] at hO hD; go_simp; refine (least_int WV A hnum.out.1 (by have := hA.out; omega) hnum.out.2 (by have := hA.out; omega) _ HP.out _).mono ?_; rintro e W1 ⟨rfl, hB1⟩; exact ⟨_, rfl, KeptR.of_below hB1 (hC.out _ hR), rfl⟩)
  simp only [List.nil_append, List.cons_append]
  refine Free.Chain.pr (fun _ w => w.cell? ⟨rb, 0, none⟩ = some (.int .i64 px) ∧ w.cell? ⟨rb, 1, none⟩ = some (.int .i64 py)) [(13, 30), (13, 30), (0, 17), (1, 18), (2, 19), (3, 20), (4, 21), (5, 22), (6, 23), (7, 24), (8, 25), (9, 26), (10, 27), (11, 28), (12, 29), (13, 30)] [6] (by kernel_rfl) (by kernel_rfl) rfl (KeptR.stable2) ?_ ?_
  · (intro ev W hb hR hO hD; have hS := hF W hR; obtain ⟨hb1, hb2, hb3⟩ := hb; simp only [Free.AllDeps, Free.AllOuts, Free.At, List.getElem?_cons_succ, List.getElem?_cons_zero, Array.getD_eq_getD_getElem?, List.getElem?_toArray, Option.getD_some, and_true] at hO hD; (obtain ⟨u0, hu0⟩ := Option.isSome_iff_exists.1 (show (W.cell? ⟨rb, 0, none⟩).isSome = true by simp [hS])); (obtain ⟨u1, hu1⟩ := Option.isSome_iff_exists.1 (show (W.cell? ⟨rb, 1, none⟩).isSome = true by simp [hS])); go_simp; exact KeptR.store2' hu0 hu1)
  simp only [List.nil_append, List.cons_append]
  refine Free.Chain.ex ?_ [(0, 17), (1, 18), (2, 19), (3, 20), (4, 21), (5, 22), (6, 23), (7, 24), (8, 25), (9, 26), (10, 27), (11, 28), (12, 29), (13, 30)] [] (by kernel_rfl) (by kernel_rfl) rfl (KeptR.refl rb rb _) ?_ ?_
  rotate_left
  · (intro ev W hb hR hO hD; have hS := hF W hR; obtain ⟨hb1, hb2, hb3⟩ := hb; simp only [Free.AllDeps, Free.AllOuts, Free.At, List.getElem?_cons_succ, List.getElem?_cons_zero, Array.getD_eq_getD_getElem?, List.getElem?_toArray, Option.getD_some, and_true] at hO hD; go_simp; rfl)
  simp only [List.nil_append, List.cons_append]
  intro xs w' hR hV
  simp only [Free.AllV, Free.At, List.length_cons, List.length_nil, Nat.reduceAdd, List.getElem?_cons_succ, List.getElem?_cons_zero, true_and] at hV
  simp only [Free.putsFrom, Act.put, hV, List.setIfInBounds_toArray, List.set_cons_succ, List.set_cons_zero]
  go_wp2_with fail
  have hcell := hV.1.2
  refine bodyPost_ret (v := .tuple #[.agg #[.int .i64 px, .int .i64 py], .int .i64 0]) ?_ rfl ⟨?_, ?_⟩
  · simp [results, Try.results11, go_sem, hcell]
  · first | rw [HP0.out] | rw [HWA.out.1, HWA.out.2, HP0.out]
  · have hbb := HBB.out
    subst hbb
    have hrb := HRB.out
    have hsz := HB1.out.size
    exact ⟨hR.os.trans HB1.out.os, hR.tape.trans HB1.out.tape, hR.output.trans HB1.out.output, Nat.le_trans HB1.out.size hR.size, fun k hk => (hR.block k (Nat.lt_of_lt_of_le hk hsz) (by omega) (by omega)).trans (HB1.out.block k hk)⟩

theorem atmostR_any (N lo hi D o f : Int) (w : World) :
    Calls Try.prog 11 #[.agg #[.int .i64 N, .int .i64 lo, .int .i64 hi], .int .i64 D, .agg #[.int .i64 o, .int .i64 f]] w fun e w' => e = .returned (.tuple (if cargoB N lo hi = false then #[zeroPart, .int .i64 10] else if drawnE N lo hi D o f ≠ 0 then #[zeroPart, .int .i64 (drawnE N lo hi D o f)] else #[mostV N D o f, .int .i64 0])) ∧ Below w.heap.size w w' := by
  cases hc : cargoB N lo hi
  · simpa [zeroPart] using atmostR_b N lo hi D o f 10 w (by simp [Hid, drawnR, hc]) rfl
  · by_cases hz : drawnE N lo hi D o f = 0
    · have hd : drawB N o f = true := by
        cases h : drawB N o f
        · simp [drawnE, h, unlessV, firstE] at hz
        · rfl
      have hm : inB lo hi [D] = true := by
        cases h : inB lo hi [D]
        · simp [drawnE, hd, h, unlessV, firstE] at hz
        · rfl
      simpa [hz] using atmostR_c N lo hi D o f w hc hd hm
    · rw [if_neg (by simp), if_pos hz]
      exact atmostR_b N lo hi D o f _ w (by simp [Hid, drawnR, hc]) (by simpa using hz)
end Go.Proofs.Ytfdbegohjlijoaa
