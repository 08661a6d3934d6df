/- Rules: the chance that a rule accepts. -/
import Derived.Test.YthhallnkpbgomaaDoorSampExp
namespace Go.Proofs.YthhallnkpbgomaaDoor
set_option linter.unusedSimpArgs false
set_option linter.unusedVariables false
open Go.RowKit Go.Proofs.YthhallnkpbgomaaDoor.ML Go.Proofs.YthhallnkpbgomaaDoor.Samp

set_option maxRecDepth 100000 in
set_option maxHeartbeats 2000000 in
theorem accepts_any (hb : Nat) (N lo hi D o f : Int) (mb kb cb : Nat) (w : World) (v : Value) (hv : mostV N D o f = v) (hH : Hold hb N lo hi mb kb cb w) (hN : N ≤ 36) (h0 : 0 ≤ D) (h1 : D ≤ N) (ho : 0 ≤ o ∧ o ≤ N) :
    Calls Tryd.prog 56 #[.pointer (some ⟨hb, 0, none⟩), .agg #[.int .i64 o, .int .i64 f], .int .i64 D] w fun e w' => e = .returned v ∧ Kept mb w w' := by
  have K0 : Kept mb w ((w.alloc (.cells #[.int .i64 o, .int .i64 f] 27)).alloc (.cells #[.int .i64 0, .int .i64 0] 31)) := ((Kept.refl _ w).alloc _).alloc _
  have c0 : ((w.alloc (.cells #[.int .i64 o, .int .i64 f] 27)).alloc (.cells #[.int .i64 0, .int .i64 0] 31)).cell? ⟨w.heap.size, 0, none⟩ = some (.int .i64 o) := by simp [go_sem]
  have c1 : ((w.alloc (.cells #[.int .i64 o, .int .i64 f] 27)).alloc (.cells #[.int .i64 0, .int .i64 0] 31)).cell? ⟨w.heap.size, 1, none⟩ = some (.int .i64 f) := by simp [go_sem]
  have hT : Two (w.heap.size + 1) (.int .i64 0) (.int .i64 0) ((w.alloc (.cells #[.int .i64 o, .int .i64 f] 27)).alloc (.cells #[.int .i64 0, .int .i64 0] 31)) := ⟨by simp [go_sem], by simp [go_sem], by simp [go_sem], by simp [go_sem]⟩
  have H0 := hH.kept K0
  obtain ⟨px, py, hp⟩ : ∃ px py : Int, mostV N D o f = .agg #[.int .i64 px, .int .i64 py] := ⟨_, _, rfl⟩
  have hmost := Lib.hid (most_any hb N lo hi D o f mb kb cb ((w.alloc (.cells #[.int .i64 o, .int .i64 f] 27)).alloc (.cells #[.int .i64 0, .int .i64 0] 31)) H0 hN h0 h1 ho)
  rw [hp] at hmost hv
  subst hv
  have hne := H0.ctr.memo.ne hT.c0
  have HT := Lib.hid (And.intro hT hne)
  have HK0 := Lib.hid K0
  clear hT hne H0 K0 hH hp
  go_enter Tryd.func56, Tryd.ntmps56
  go_wp2_with fail
  refine hmost.out.mono ?_
  rintro e w5 ⟨rfl, hK5⟩
  have T5 := HT.out.1.kept hK5 HT.out.2
  have r0 := T5.c0
  have r1 := T5.c1
  have r2 := T5.f0
  have r3 := T5.f1
  have hne := HT.out.2
  have hst := Lib.hid (KeptR.store2 (mb := mb) (x := .int .i64 px) (y := .int .i64 py) (by simpa using hne) r0 r1)
  have HK5 := Lib.hid (HK0.out.trans hK5)
  clear hK5 hne T5
  go_wp2_with fail
  have hcell := hst.out.2
  refine bodyPost_ret (v := .agg #[.int .i64 px, .int .i64 py]) ?_ rfl ⟨rfl, ?_⟩
  · simp [results, Tryd.results56, go_sem, hcell]
  · exact KeptR.kept HK5.out hst.out.1 (by omega)

/-- The error of a rule and a number of dirty bags. -/
def ruledE (N lo hi D o f : Int) : Int := firstE [unlessV (drawB N o f) 13, unlessV (inB lo hi [D]) 2]

set_option maxRecDepth 100000 in
set_option maxHeartbeats 2000000 in
theorem accept_a (N lo hi D o f : Int) (w : World) (hc : cargoB N lo hi = false) :
    Calls Tryd.prog 15 #[.agg #[.int .i64 N, .int .i64 lo, .int .i64 hi], .agg #[.int .i64 o, .int .i64 f], .int .i64 D] w fun e w' => e = .returned (.tuple #[.agg #[.int .i64 0, .int .i64 0], .int .i64 10]) ∧ Below w.heap.size w w' := by
  have hB0 : Below w.heap.size w (((w.alloc (.cells #[.int .i64 N, .int .i64 lo, .int .i64 hi] 25)).alloc (.cells #[.int .i64 o, .int .i64 f] 27)).alloc (.cells #[.int .i64 0, .int .i64 0] 31)) := (((Below.refl _ w).alloc (Nat.le_refl _) _).alloc (by simp) _).alloc (by simp; omega) _
  have d0 : (((w.alloc (.cells #[.int .i64 N, .int .i64 lo, .int .i64 hi] 25)).alloc (.cells #[.int .i64 o, .int .i64 f] 27)).alloc (.cells #[.int .i64 0, .int .i64 0] 31)).cell? ⟨w.heap.size + 1, 0, none⟩ = some (.int .i64 o) := by simp [go_sem]
  have d1 : (((w.alloc (.cells #[.int .i64 N, .int .i64 lo, .int .i64 hi] 25)).alloc (.cells #[.int .i64 o, .int .i64 f] 27)).alloc (.cells #[.int .i64 0, .int .i64 0] 31)).cell? ⟨w.heap.size + 1, 1, none⟩ = some (.int .i64 f) := by simp [go_sem]
  have hT : Two (w.heap.size + 1 + 1) (.int .i64 0) (.int .i64 0) (((w.alloc (.cells #[.int .i64 N, .int .i64 lo, .int .i64 hi] 25)).alloc (.cells #[.int .i64 o, .int .i64 f] 27)).alloc (.cells #[.int .i64 0, .int .i64 0] 31)) := ⟨by simp [go_sem], by simp [go_sem], by simp [go_sem], by simp [go_sem]⟩
  have HT := Lib.hid (And.intro hT (And.intro d0 d1))
  have HB0 := Lib.hid hB0
  clear hT hB0 d0 d1
  go_enter Tryd.func15, Tryd.ntmps15
  go_wp2_with fail
  generalize (((w.alloc (.cells #[.int .i64 N, .int .i64 lo, .int .i64 hi] 25)).alloc (.cells #[.int .i64 o, .int .i64 f] 27)).alloc (.cells #[.int .i64 0, .int .i64 0] 31)) = W0 at *
  generalize hbb : w.heap.size = bb at *
  have HBB := Lib.hid hbb
  clear hbb
  have hs0 : bb + 1 + 1 < W0.heap.size := lt_of_cell HT.out.1.c0
  refine (begun_bad N lo hi _ hc).mono ?_
  rintro e w1 ⟨rfl, hB1⟩
  have T1 := HT.out.1.keeps hB1
  have HB1 := Lib.hid (HB0.out.trans (hB1.mono (by omega)))
  clear hB1
  have r0 := T1.c0
  have r1 := T1.c1
  have r2 := T1.f0
  have r3 := T1.f1
  obtain ⟨s0, s1⟩ := two_stores (w := w1) (b := bb + 1 + 1) (.int .i64 0) (.int .i64 0) r0 r1
  have hB9 := Lib.hid ((HB1.out.setCell (p := ⟨bb + 1 + 1, 0, none⟩) (by show bb ≤ bb + 1 + 1; omega) (.int .i64 0)).setCell (p := ⟨bb + 1 + 1, 1, none⟩) (by show bb ≤ bb + 1 + 1; omega) (.int .i64 0))
  go_wp2_with fail
  refine bodyPost_ret (v := .tuple #[.agg #[.int .i64 0, .int .i64 0], .int .i64 10]) ?_ rfl ⟨rfl, ?_⟩
  · simp [results, Tryd.results15, go_sem, s0, s1]
  · have hbb := HBB.out
    subst hbb
    exact hB9.out

set_option maxRecDepth 100000 in
set_option maxHeartbeats 2000000 in
theorem accept_b (N lo hi D o f : Int) (w : World) (hc : cargoB N lo hi = true) (x y z : Int) (hx : Hid (unlessV (drawB N o f) 13 = x)) (hy : Hid (unlessV (inB lo hi [D]) 2 = y)) (hz : Hid (firstE [x, y] = z)) (hz0 : (z != 0) = true) :
    Calls Tryd.prog 15 #[.agg #[.int .i64 N, .int .i64 lo, .int .i64 hi], .agg #[.int .i64 o, .int .i64 f], .int .i64 D] w fun e w' => e = .returned (.tuple #[.agg #[.int .i64 0, .int .i64 0], .int .i64 z]) ∧ Below w.heap.size w w' := by
  have hB0 : Below w.heap.size w (((w.alloc (.cells #[.int .i64 N, .int .i64 lo, .int .i64 hi] 25)).alloc (.cells #[.int .i64 o, .int .i64 f] 27)).alloc (.cells #[.int .i64 0, .int .i64 0] 31)) := (((Below.refl _ w).alloc (Nat.le_refl _) _).alloc (by simp) _).alloc (by simp; omega) _
  have d0 : (((w.alloc (.cells #[.int .i64 N, .int .i64 lo, .int .i64 hi] 25)).alloc (.cells #[.int .i64 o, .int .i64 f] 27)).alloc (.cells #[.int .i64 0, .int .i64 0] 31)).cell? ⟨w.heap.size + 1, 0, none⟩ = some (.int .i64 o) := by simp [go_sem]
  have d1 : (((w.alloc (.cells #[.int .i64 N, .int .i64 lo, .int .i64 hi] 25)).alloc (.cells #[.int .i64 o, .int .i64 f] 27)).alloc (.cells #[.int .i64 0, .int .i64 0] 31)).cell? ⟨w.heap.size + 1, 1, none⟩ = some (.int .i64 f) := by simp [go_sem]
  have hT : Two (w.heap.size + 1 + 1) (.int .i64 0) (.int .i64 0) (((w.alloc (.cells #[.int .i64 N, .int .i64 lo, .int .i64 hi] 25)).alloc (.cells #[.int .i64 o, .int .i64 f] 27)).alloc (.cells #[.int .i64 0, .int .i64 0] 31)) := ⟨by simp [go_sem], by simp [go_sem], by simp [go_sem], by simp [go_sem]⟩
  have HT := Lib.hid (And.intro hT (And.intro d0 d1))
  have HB0 := Lib.hid hB0
  clear hT hB0 d0 d1
  go_enter Tryd.func15, Tryd.ntmps15
  go_wp2_with fail
  generalize (((w.alloc (.cells #[.int .i64 N, .int .i64 lo, .int .i64 hi] 25)).alloc (.cells #[.int .i64 o, .int .i64 f] 27)).alloc (.cells #[.int .i64 0, .int .i64 0] 31)) = W0 at *
  generalize hbb : w.heap.size = bb at *
  have HBB := Lib.hid hbb
  clear hbb
  have hs0 : bb + 1 + 1 < W0.heap.size := lt_of_cell HT.out.1.c0
  refine (begun_ok N lo hi _ hc).mono ?_
  rintro e w1 ⟨hb, mb, kb, cb, rfl, hH, hmb, hhb, hB1⟩
  have HB1 := Lib.hid (HB0.out.trans (hB1.mono (by omega)))
  have HH := Lib.hid (And.intro hH (And.intro hmb hhb))
  have T1 := HT.out.1.keeps hB1
  have e0 := keepsB hB1 HT.out.2.1
  have e1 := keepsB hB1 HT.out.2.2
  have hs1 := hB1.size
  have b0 := hH.bags
  have b1 := hH.lo
  have b2 := hH.hi
  have HT1 := Lib.hid T1
  clear hB1 hH hmb hhb T1
  go_wp2_with fail
  refine (rule_any hb N o f x _ b0 hx.out).mono ?_
  rintro e w2 ⟨rfl, hB2⟩
  have HB2 := Lib.hid (HB1.out.trans (hB2.mono (by omega)))
  have HH2 := Lib.hid (HH.out.1.kept (.of_below hB2))
  have e0 := keepsB hB2 e0
  have e1 := keepsB hB2 e1
  have b1 := keepsB hB2 b1
  have b2 := keepsB hB2 b2
  have HT2 := Lib.hid (HT1.out.keeps hB2)
  have hs2 := hB2.size
  clear hB2 HT1
  go_wp2_with fail
  refine (may_any hb lo hi [D] _ y _ (by simp [maxLen]) (keepsB (belAlloc _ _) b1) (keepsB (belAlloc _ _) b2) (SlI.one _ _ _) hy.out).mono ?_
  rintro e w3 ⟨rfl, hB3⟩
  have hB3 := Below.trans (belAlloc w2 _) (hB3.mono (by simp))
  have HB3 := Lib.hid (HB2.out.trans (hB3.mono (by omega)))
  have HH3 := Lib.hid (HH2.out.kept (.of_below hB3))
  have e0 := keepsB hB3 e0
  have e1 := keepsB hB3 e1
  have HT3 := Lib.hid (HT2.out.keeps hB3)
  have hs3 := hB3.size
  clear hB3 HT2 b0 b1 b2
  go_wp2_with fail
  refine (first_sl [x, y] z _ _ (by simp [maxLen]) hz.out (SlI.two _ _ _ _)).mono ?_
  rintro e w4 ⟨rfl, rfl⟩
  have T1 := HT3.out.keeps (belAlloc w3 (.cells #[.int .i64 x, .int .i64 y] 32))
  have HB1 := Lib.hid (HB3.out.alloc (by omega) (.cells #[.int .i64 x, .int .i64 y] 32))
  have r0 := T1.c0
  have r1 := T1.c1
  have r2 := T1.f0
  have r3 := T1.f1
  obtain ⟨s0, s1⟩ := two_stores (w := w3.alloc (.cells #[.int .i64 x, .int .i64 y] 32)) (b := bb + 1 + 1) (.int .i64 0) (.int .i64 0) r0 r1
  have hB9 := Lib.hid ((HB1.out.setCell (p := ⟨bb + 1 + 1, 0, none⟩) (by show bb ≤ bb + 1 + 1; omega) (.int .i64 0)).setCell (p := ⟨bb + 1 + 1, 1, none⟩) (by show bb ≤ bb + 1 + 1; omega) (.int .i64 0))
  go_wp2_with fail
  refine bodyPost_ret (v := .tuple #[.agg #[.int .i64 0, .int .i64 0], .int .i64 z]) ?_ rfl ⟨rfl, ?_⟩
  · simp [results, Tryd.results15, go_sem, s0, s1]
  · have hbb := HBB.out
    subst hbb
    exact hB9.out

set_option maxRecDepth 100000 in
set_option maxHeartbeats 2000000 in
theorem accept_c (N lo hi D o f : Int) (w : World) (hc : cargoB N lo hi = true) (hd : drawB N o f = true) (hm : inB lo hi [D] = true) :
    Calls Tryd.prog 15 #[.agg #[.int .i64 N, .int .i64 lo, .int .i64 hi], .agg #[.int .i64 o, .int .i64 f], .int .i64 D] w fun e w' => e = .returned (.tuple #[mostV N D o f, .int .i64 0]) ∧ Below w.heap.size w w' := by
  have hN := (cargoB_iff N lo hi).1 hc
  have hD := (drawB_iff N o f).1 hd
  have hM : lo ≤ D ∧ D ≤ hi := by simpa [inB] using hm
  have hx : Hid (unlessV (drawB N o f) 13 = 0) := by simp [Hid, unlessV, hd]
  have hy : Hid (unlessV (inB lo hi [D]) 2 = 0) := by simp [Hid, unlessV, hm]
  have hz : Hid (firstE [0, 0] = 0) := by simp [Hid, firstE]
  have hB0 : Below w.heap.size w (((w.alloc (.cells #[.int .i64 N, .int .i64 lo, .int .i64 hi] 25)).alloc (.cells #[.int .i64 o, .int .i64 f] 27)).alloc (.cells #[.int .i64 0, .int .i64 0] 31)) := (((Below.refl _ w).alloc (Nat.le_refl _) _).alloc (by simp) _).alloc (by simp; omega) _
  have d0 : (((w.alloc (.cells #[.int .i64 N, .int .i64 lo, .int .i64 hi] 25)).alloc (.cells #[.int .i64 o, .int .i64 f] 27)).alloc (.cells #[.int .i64 0, .int .i64 0] 31)).cell? ⟨w.heap.size + 1, 0, none⟩ = some (.int .i64 o) := by simp [go_sem]
  have d1 : (((w.alloc (.cells #[.int .i64 N, .int .i64 lo, .int .i64 hi] 25)).alloc (.cells #[.int .i64 o, .int .i64 f] 27)).alloc (.cells #[.int .i64 0, .int .i64 0] 31)).cell? ⟨w.heap.size + 1, 1, none⟩ = some (.int .i64 f) := by simp [go_sem]
  have hT : Two (w.heap.size + 1 + 1) (.int .i64 0) (.int .i64 0) (((w.alloc (.cells #[.int .i64 N, .int .i64 lo, .int .i64 hi] 25)).alloc (.cells #[.int .i64 o, .int .i64 f] 27)).alloc (.cells #[.int .i64 0, .int .i64 0] 31)) := ⟨by simp [go_sem], by simp [go_sem], by simp [go_sem], by simp [go_sem]⟩
  have HT := Lib.hid (And.intro hT (And.intro d0 d1))
  have HB0 := Lib.hid hB0
  clear hT hB0 d0 d1
  go_enter Tryd.func15, Tryd.ntmps15
  go_wp2_with fail
  generalize (((w.alloc (.cells #[.int .i64 N, .int .i64 lo, .int .i64 hi] 25)).alloc (.cells #[.int .i64 o, .int .i64 f] 27)).alloc (.cells #[.int .i64 0, .int .i64 0] 31)) = W0 at *
  generalize hbb : w.heap.size = bb at *
  have HBB := Lib.hid hbb
  clear hbb
  have hs0 : bb + 1 + 1 < W0.heap.size := lt_of_cell HT.out.1.c0
  refine (begun_ok N lo hi _ hc).mono ?_
  rintro e w1 ⟨hb, mb, kb, cb, rfl, hH, hmb, hhb, hB1⟩
  have HB1 := Lib.hid (HB0.out.trans (hB1.mono (by omega)))
  have HH := Lib.hid (And.intro hH (And.intro hmb hhb))
  have T1 := HT.out.1.keeps hB1
  have e0 := keepsB hB1 HT.out.2.1
  have e1 := keepsB hB1 HT.out.2.2
  have hs1 := hB1.size
  have b0 := hH.bags
  have b1 := hH.lo
  have b2 := hH.hi
  have HT1 := Lib.hid T1
  clear hB1 hH hmb hhb T1
  go_wp2_with fail
  refine (rule_any hb N o f 0 _ b0 hx.out).mono ?_
  rintro e w2 ⟨rfl, hB2⟩
  have HB2 := Lib.hid (HB1.out.trans (hB2.mono (by omega)))
  have HH2 := Lib.hid (HH.out.1.kept (.of_below hB2))
  have e0 := keepsB hB2 e0
  have e1 := keepsB hB2 e1
  have b1 := keepsB hB2 b1
  have b2 := keepsB hB2 b2
  have HT2 := Lib.hid (HT1.out.keeps hB2)
  have hs2 := hB2.size
  clear hB2 HT1
  go_wp2_with fail
  refine (may_any hb lo hi [D] _ 0 _ (by simp [maxLen]) (keepsB (belAlloc _ _) b1) (keepsB (belAlloc _ _) b2) (SlI.one _ _ _) hy.out).mono ?_
  rintro e w3 ⟨rfl, hB3⟩
  have hB3 := Below.trans (belAlloc w2 _) (hB3.mono (by simp))
  have HB3 := Lib.hid (HB2.out.trans (hB3.mono (by omega)))
  have HH3 := Lib.hid (HH2.out.kept (.of_below hB3))
  have e0 := keepsB hB3 e0
  have e1 := keepsB hB3 e1
  have HT3 := Lib.hid (HT2.out.keeps hB3)
  have hs3 := hB3.size
  clear hB3 HT2 b0 b1 b2
  go_wp2_with fail
  refine (first_sl [0, 0] 0 _ _ (by simp [maxLen]) hz.out (SlI.two _ _ _ _)).mono ?_
  rintro e w4 ⟨rfl, rfl⟩
  obtain ⟨px, py, hp⟩ : ∃ px py : Int, mostV N D o f = .agg #[.int .i64 px, .int .i64 py] := ⟨_, _, rfl⟩
  have HP := Lib.hid hp
  clear hp
  have HK4 : Kept mb w3 (w3.alloc (.cells #[.int .i64 0, .int .i64 0] 32)) := (Kept.refl _ _).alloc _
  have HT4 := HT3.out.keeps (belAlloc w3 (.cells #[.int .i64 0, .int .i64 0] 32))
  have HB4 := Lib.hid (HB3.out.alloc (by omega) (.cells #[.int .i64 0, .int .i64 0] 32))
  have HH4 := Lib.hid (HH3.out.kept HK4)
  have e0 := HK4.cell e0 (HH3.out.ctr.memo.ne e0)
  have e1 := HK4.cell e1 (HH3.out.ctr.memo.ne e1)
  have g0 := HH4.out.bags
  have g3 := HH4.out.sets
  have nes : Hid (bb + 1 + 1 ≠ mb ∧ kb ≠ bb + 1 + 1 ∧ cb ≠ bb + 1 + 1 ∧ hb ≠ bb + 1 + 1 ∧ bb + 1 ≠ mb) := by
    have m := HH4.out.ctr.memo
    refine ⟨m.ne HT4.c0, ?_, ?_, ?_, m.ne e0⟩
    · intro e; have := HT4.c0; rw [← e, HH4.out.ctr.known] at this; cases this
    · intro e; have := HT4.c0; rw [← e, HH4.out.ctr.count] at this; cases this
    · have := HH.out.2.2; omega
  have hs4 : bb + 1 + 1 < (w3.alloc (.cells #[.int .i64 0, .int .i64 0] 32)).heap.size := lt_of_cell HT4.c0
  have HT5 := Lib.hid HT4
  clear HK4 HT4
  go_wp2_with fail
  have hmost : Hid (Calls Tryd.prog 56 #[.pointer (some ⟨hb, 0, none⟩), .agg #[.int .i64 o, .int .i64 f], .int .i64 D] (w3.alloc (.cells #[.int .i64 0, .int .i64 0] 32)) fun e w' => e = .returned (.agg #[.int .i64 px, .int .i64 py]) ∧ Kept mb (w3.alloc (.cells #[.int .i64 0, .int .i64 0] 32)) w') := by
    exact accepts_any hb N lo hi D o f mb kb cb _ _ HP.out HH4.out (by omega) (by omega) (by omega) (by omega)
  refine hmost.out.mono ?_
  rintro e w5 ⟨rfl, hK5⟩
  have T5 := HT5.out.kept hK5 nes.out.1
  have r0 := T5.c0
  have r1 := T5.c1
  have r2 := T5.f0
  have r3 := T5.f1
  have hst := Lib.hid (KeptR.store2 (mb := mb) (x := .int .i64 px) (y := .int .i64 py) nes.out.1 r0 r1)
  have HK5 := Lib.hid hK5
  clear hK5
  go_wp2_with fail
  have hcell := hst.out.2
  refine bodyPost_ret (v := .tuple #[.agg #[.int .i64 px, .int .i64 py], .int .i64 0]) ?_ rfl ⟨?_, ?_⟩
  · simp [results, Tryd.results15, go_sem, hcell]
  · rw [HP.out]
  · have hbb := HBB.out
    subst hbb
    have hR := hst.out.1
    have hsz := HB4.out.size
    have hsz5 := HK5.out.size
    have hm := HH.out.2.1
    exact ⟨hR.os.trans (HK5.out.os.trans HB4.out.os), hR.tape.trans (HK5.out.tape.trans HB4.out.tape), hR.output.trans (HK5.out.output.trans HB4.out.output), by have := hR.size; omega, fun k hk => (hR.block k (by omega) (by omega) (by omega)).trans ((HK5.out.block k (by omega) (by omega)).trans (HB4.out.block k hk))⟩

theorem accept_any (N lo hi D o f : Int) (w : World) :
    Calls Tryd.prog 15 #[.agg #[.int .i64 N, .int .i64 lo, .int .i64 hi], .agg #[.int .i64 o, .int .i64 f], .int .i64 D] w fun e w' => e = .returned (.tuple (if cargoB N lo hi = false then #[zeroPart, .int .i64 10] else if ruledE N lo hi D o f ≠ 0 then #[zeroPart, .int .i64 (ruledE N lo hi D o f)] else #[mostV N D o f, .int .i64 0])) ∧ Below w.heap.size w w' := by
  cases hc : cargoB N lo hi
  · simpa [zeroPart] using accept_a N lo hi D o f w hc
  · by_cases hz : ruledE N lo hi D o f = 0
    · have hd : drawB N o f = true := by
        cases h : drawB N o f
        · simp [ruledE, h, unlessV, firstE] at hz
        · rfl
      have hm : inB lo hi [D] = true := by
        cases h : inB lo hi [D]
        · simp [ruledE, hd, h, unlessV, firstE] at hz
        · rfl
      simpa [hz] using accept_c N lo hi D o f w hc hd hm
    · rw [if_neg (by simp), if_pos hz]
      exact accept_b N lo hi D o f w hc _ _ _ rfl rfl rfl (by show (ruledE N lo hi D o f != 0) = true; simpa using hz)

end Go.Proofs.YthhallnkpbgomaaDoor
