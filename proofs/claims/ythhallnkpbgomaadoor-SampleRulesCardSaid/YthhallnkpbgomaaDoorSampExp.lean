/- What package sample answers of chances. -/
import Derived.Test.YthhallnkpbgomaaDoorSampMost
namespace Go.Proofs.YthhallnkpbgomaaDoor
set_option linter.unusedSimpArgs false
set_option linter.unusedVariables false
open Go.RowKit Go.Proofs.YthhallnkpbgomaaDoor.ML Go.Proofs.YthhallnkpbgomaaDoor.Samp

/-- Two cells of a block that may be written. -/
structure Two (b : Nat) (x y : Value) (w : World) : Prop where
  c0 : w.cell? ⟨b, 0, none⟩ = some x
  c1 : w.cell? ⟨b, 1, none⟩ = some y
  f0 : w.frozen? ⟨b, 0, none⟩ = false
  f1 : w.frozen? ⟨b, 1, none⟩ = false
theorem Two.keeps {b : Nat} {x y : Value} {w w' : World} (h : Two b x y w) (hB : Below w.heap.size w w') : Two b x y w' :=
  have hlt : b < w.heap.size := lt_of_cell h.c0
  ⟨keepsB hB h.c0, keepsB hB h.c1, (hB.frozen (p := ⟨b, 0, none⟩) hlt).trans h.f0, (hB.frozen (p := ⟨b, 1, none⟩) hlt).trans h.f1⟩
theorem Two.kept {b mb : Nat} {x y : Value} {w w' : World} (h : Two b x y w) (hK : Kept mb w w') (hne : b ≠ mb) : Two b x y w' :=
  have hlt : b < w.heap.size := lt_of_cell h.c0
  have hb := hK.block b hlt hne
  ⟨hK.cell h.c0 hne, hK.cell h.c1 hne, (World.frozen?_of_block (w := w) (a := ⟨b, 0, none⟩) hb).trans h.f0, (World.frozen?_of_block (w := w) (a := ⟨b, 1, none⟩) hb).trans h.f1⟩

theorem results_two {w : World} {b : Nat} {x y : Value} (h : Two b x y w) : True := trivial

theorem chI_pos (N o : Int) (h0 : 0 ≤ N) (hN : N ≤ 36) (h1 : 0 ≤ o) (h2 : o ≤ N) : 1 ≤ chI N o ∧ chI N o ≤ 68719476736 := by
  refine ⟨?_, (chI_bound N o hN).2⟩
  obtain ⟨a, rfl⟩ := Int.eq_ofNat_of_zero_le h1
  obtain ⟨b, rfl⟩ := Int.eq_ofNat_of_zero_le h0
  show 1 ≤ chI ((b : Nat) : Int) ((a : Nat) : Int)
  rw [chI_nat]; have := nCk_pos b a (by omega); omega
def zeroPart : Value := .agg #[.int .i64 0, .int .i64 0]
/-- The error of a draw and a number of dirty bags. -/
def drawnE (N lo hi D o f : Int) : Int := firstE [unlessV (drawB N o f) 11, unlessV (inB lo hi [D]) 2]

set_option maxRecDepth 100000 in
set_option maxHeartbeats 2000000 in
theorem chance_a (N lo hi D o f : Int) (w : World) (hc : cargoB N lo hi = false) :
    Calls Tryd.prog 28 #[.agg #[.int .i64 N, .int .i64 lo, .int .i64 hi], .int .i64 D, .agg #[.int .i64 o, .int .i64 f]] w fun e w' => e = .returned (.tuple #[.agg #[.int .i64 0, .int .i64 0], .int .i64 10]) ∧ Below w.heap.size w w' := by
  have hB0 : Below w.heap.size w (((w.alloc (.cells #[.int .i64 N, .int .i64 lo, .int .i64 hi] 25)).alloc (.cells #[.int .i64 o, .int .i64 f] 60)).alloc (.cells #[.int .i64 0, .int .i64 0] 31)) := (((Below.refl _ w).alloc (Nat.le_refl _) _).alloc (by simp) _).alloc (by simp; omega) _
  have d0 : (((w.alloc (.cells #[.int .i64 N, .int .i64 lo, .int .i64 hi] 25)).alloc (.cells #[.int .i64 o, .int .i64 f] 60)).alloc (.cells #[.int .i64 0, .int .i64 0] 31)).cell? ⟨w.heap.size + 1, 0, none⟩ = some (.int .i64 o) := by simp [go_sem]
  have d1 : (((w.alloc (.cells #[.int .i64 N, .int .i64 lo, .int .i64 hi] 25)).alloc (.cells #[.int .i64 o, .int .i64 f] 60)).alloc (.cells #[.int .i64 0, .int .i64 0] 31)).cell? ⟨w.heap.size + 1, 1, none⟩ = some (.int .i64 f) := by simp [go_sem]
  have hT : Two (w.heap.size + 1 + 1) (.int .i64 0) (.int .i64 0) (((w.alloc (.cells #[.int .i64 N, .int .i64 lo, .int .i64 hi] 25)).alloc (.cells #[.int .i64 o, .int .i64 f] 60)).alloc (.cells #[.int .i64 0, .int .i64 0] 31)) := ⟨by simp [go_sem], by simp [go_sem], by simp [go_sem], by simp [go_sem]⟩
  have HT := Lib.hid (And.intro hT (And.intro d0 d1))
  have HB0 := Lib.hid hB0
  clear hT hB0 d0 d1
  go_enter Tryd.func28, Tryd.ntmps28
  go_wp2_with fail
  generalize (((w.alloc (.cells #[.int .i64 N, .int .i64 lo, .int .i64 hi] 25)).alloc (.cells #[.int .i64 o, .int .i64 f] 60)).alloc (.cells #[.int .i64 0, .int .i64 0] 31)) = W0 at *
  generalize hbb : w.heap.size = bb at *
  have HBB := Lib.hid hbb
  clear hbb
  have hs0 : bb + 1 + 1 < W0.heap.size := lt_of_cell HT.out.1.c0
  refine (begun_bad N lo hi _ hc).mono ?_
  rintro e w1 ⟨rfl, hB1⟩
  have T1 := HT.out.1.keeps hB1
  have HB1 := Lib.hid (HB0.out.trans (hB1.mono (by omega)))
  clear hB1
  have r0 := T1.c0
  have r1 := T1.c1
  have r2 := T1.f0
  have r3 := T1.f1
  obtain ⟨s0, s1⟩ := two_stores (w := w1) (b := bb + 1 + 1) (.int .i64 0) (.int .i64 0) r0 r1
  have hB9 := Lib.hid ((HB1.out.setCell (p := ⟨bb + 1 + 1, 0, none⟩) (by show bb ≤ bb + 1 + 1; omega) (.int .i64 0)).setCell (p := ⟨bb + 1 + 1, 1, none⟩) (by show bb ≤ bb + 1 + 1; omega) (.int .i64 0))
  go_wp2_with fail
  refine bodyPost_ret (v := .tuple #[.agg #[.int .i64 0, .int .i64 0], .int .i64 10]) ?_ rfl ⟨rfl, ?_⟩
  · simp [results, Tryd.results28, go_sem, s0, s1]
  · have hbb := HBB.out
    subst hbb
    exact hB9.out

set_option maxRecDepth 100000 in
set_option maxHeartbeats 2000000 in
theorem chance_b (N lo hi D o f : Int) (w : World) (hc : cargoB N lo hi = true) (x y z : Int) (hx : Hid (unlessV (drawB N o f) 11 = x)) (hy : Hid (unlessV (inB lo hi [D]) 2 = y)) (hz : Hid (firstE [x, y] = z)) (hz0 : (z != 0) = true) :
    Calls Tryd.prog 28 #[.agg #[.int .i64 N, .int .i64 lo, .int .i64 hi], .int .i64 D, .agg #[.int .i64 o, .int .i64 f]] w fun e w' => e = .returned (.tuple #[.agg #[.int .i64 0, .int .i64 0], .int .i64 z]) ∧ Below w.heap.size w w' := by
  have hB0 : Below w.heap.size w (((w.alloc (.cells #[.int .i64 N, .int .i64 lo, .int .i64 hi] 25)).alloc (.cells #[.int .i64 o, .int .i64 f] 60)).alloc (.cells #[.int .i64 0, .int .i64 0] 31)) := (((Below.refl _ w).alloc (Nat.le_refl _) _).alloc (by simp) _).alloc (by simp; omega) _
  have d0 : (((w.alloc (.cells #[.int .i64 N, .int .i64 lo, .int .i64 hi] 25)).alloc (.cells #[.int .i64 o, .int .i64 f] 60)).alloc (.cells #[.int .i64 0, .int .i64 0] 31)).cell? ⟨w.heap.size + 1, 0, none⟩ = some (.int .i64 o) := by simp [go_sem]
  have d1 : (((w.alloc (.cells #[.int .i64 N, .int .i64 lo, .int .i64 hi] 25)).alloc (.cells #[.int .i64 o, .int .i64 f] 60)).alloc (.cells #[.int .i64 0, .int .i64 0] 31)).cell? ⟨w.heap.size + 1, 1, none⟩ = some (.int .i64 f) := by simp [go_sem]
  have hT : Two (w.heap.size + 1 + 1) (.int .i64 0) (.int .i64 0) (((w.alloc (.cells #[.int .i64 N, .int .i64 lo, .int .i64 hi] 25)).alloc (.cells #[.int .i64 o, .int .i64 f] 60)).alloc (.cells #[.int .i64 0, .int .i64 0] 31)) := ⟨by simp [go_sem], by simp [go_sem], by simp [go_sem], by simp [go_sem]⟩
  have HT := Lib.hid (And.intro hT (And.intro d0 d1))
  have HB0 := Lib.hid hB0
  clear hT hB0 d0 d1
  go_enter Tryd.func28, Tryd.ntmps28
  go_wp2_with fail
  generalize (((w.alloc (.cells #[.int .i64 N, .int .i64 lo, .int .i64 hi] 25)).alloc (.cells #[.int .i64 o, .int .i64 f] 60)).alloc (.cells #[.int .i64 0, .int .i64 0] 31)) = W0 at *
  generalize hbb : w.heap.size = bb at *
  have HBB := Lib.hid hbb
  clear hbb
  have hs0 : bb + 1 + 1 < W0.heap.size := lt_of_cell HT.out.1.c0
  refine (begun_ok N lo hi _ hc).mono ?_
  rintro e w1 ⟨hb, mb, kb, cb, rfl, hH, hmb, hhb, hB1⟩
  have HB1 := Lib.hid (HB0.out.trans (hB1.mono (by omega)))
  have HH := Lib.hid (And.intro hH (And.intro hmb hhb))
  have T1 := HT.out.1.keeps hB1
  have e0 := keepsB hB1 HT.out.2.1
  have e1 := keepsB hB1 HT.out.2.2
  have hs1 := hB1.size
  have b0 := hH.bags
  have b1 := hH.lo
  have b2 := hH.hi
  have HT1 := Lib.hid T1
  clear hB1 hH hmb hhb T1
  go_wp2_with fail
  refine (draw_any hb N o f x _ b0 hx.out).mono ?_
  rintro e w2 ⟨rfl, hB2⟩
  have HB2 := Lib.hid (HB1.out.trans (hB2.mono (by omega)))
  have HH2 := Lib.hid (HH.out.1.kept (.of_below hB2))
  have e0 := keepsB hB2 e0
  have e1 := keepsB hB2 e1
  have b1 := keepsB hB2 b1
  have b2 := keepsB hB2 b2
  have HT2 := Lib.hid (HT1.out.keeps hB2)
  have hs2 := hB2.size
  clear hB2 HT1
  go_wp2_with fail
  refine (may_any hb lo hi [D] _ y _ (by simp [maxLen]) (keepsB (belAlloc _ _) b1) (keepsB (belAlloc _ _) b2) (SlI.one _ _ _) hy.out).mono ?_
  rintro e w3 ⟨rfl, hB3⟩
  have hB3 := Below.trans (belAlloc w2 _) (hB3.mono (by simp))
  have HB3 := Lib.hid (HB2.out.trans (hB3.mono (by omega)))
  have HH3 := Lib.hid (HH2.out.kept (.of_below hB3))
  have e0 := keepsB hB3 e0
  have e1 := keepsB hB3 e1
  have HT3 := Lib.hid (HT2.out.keeps hB3)
  have hs3 := hB3.size
  clear hB3 HT2 b0 b1 b2
  go_wp2_with fail
  refine (first_sl [x, y] z _ _ (by simp [maxLen]) hz.out (SlI.two _ _ _ _)).mono ?_
  rintro e w4 ⟨rfl, rfl⟩
  have T1 := HT3.out.keeps (belAlloc w3 (.cells #[.int .i64 x, .int .i64 y] 32))
  have HB1 := Lib.hid (HB3.out.alloc (by omega) (.cells #[.int .i64 x, .int .i64 y] 32))
  have r0 := T1.c0
  have r1 := T1.c1
  have r2 := T1.f0
  have r3 := T1.f1
  obtain ⟨s0, s1⟩ := two_stores (w := w3.alloc (.cells #[.int .i64 x, .int .i64 y] 32)) (b := bb + 1 + 1) (.int .i64 0) (.int .i64 0) r0 r1
  have hB9 := Lib.hid ((HB1.out.setCell (p := ⟨bb + 1 + 1, 0, none⟩) (by show bb ≤ bb + 1 + 1; omega) (.int .i64 0)).setCell (p := ⟨bb + 1 + 1, 1, none⟩) (by show bb ≤ bb + 1 + 1; omega) (.int .i64 0))
  go_wp2_with fail
  refine bodyPost_ret (v := .tuple #[.agg #[.int .i64 0, .int .i64 0], .int .i64 z]) ?_ rfl ⟨rfl, ?_⟩
  · simp [results, Tryd.results28, go_sem, s0, s1]
  · have hbb := HBB.out
    subst hbb
    exact hB9.out

set_option maxRecDepth 100000 in
set_option maxHeartbeats 2000000 in
theorem chance_c (N lo hi D o f : Int) (w : World) (hc : cargoB N lo hi = true) (hd : drawB N o f = true) (hm : inB lo hi [D] = true) :
    Calls Tryd.prog 28 #[.agg #[.int .i64 N, .int .i64 lo, .int .i64 hi], .int .i64 D, .agg #[.int .i64 o, .int .i64 f]] w fun e w' => e = .returned (.tuple #[partV (waysI N D o f).toNat (chI N o).toNat, .int .i64 0]) ∧ Below w.heap.size w w' := by
  have hN := (cargoB_iff N lo hi).1 hc
  have hD := (drawB_iff N o f).1 hd
  have hM : lo ≤ D ∧ D ≤ hi := by simpa [inB] using hm
  have hx : Hid (unlessV (drawB N o f) 11 = 0) := by simp [Hid, unlessV, hd]
  have hy : Hid (unlessV (inB lo hi [D]) 2 = 0) := by simp [Hid, unlessV, hm]
  have hz : Hid (firstE [0, 0] = 0) := by simp [Hid, firstE]
  have hB0 : Below w.heap.size w (((w.alloc (.cells #[.int .i64 N, .int .i64 lo, .int .i64 hi] 25)).alloc (.cells #[.int .i64 o, .int .i64 f] 60)).alloc (.cells #[.int .i64 0, .int .i64 0] 31)) := (((Below.refl _ w).alloc (Nat.le_refl _) _).alloc (by simp) _).alloc (by simp; omega) _
  have d0 : (((w.alloc (.cells #[.int .i64 N, .int .i64 lo, .int .i64 hi] 25)).alloc (.cells #[.int .i64 o, .int .i64 f] 60)).alloc (.cells #[.int .i64 0, .int .i64 0] 31)).cell? ⟨w.heap.size + 1, 0, none⟩ = some (.int .i64 o) := by simp [go_sem]
  have d1 : (((w.alloc (.cells #[.int .i64 N, .int .i64 lo, .int .i64 hi] 25)).alloc (.cells #[.int .i64 o, .int .i64 f] 60)).alloc (.cells #[.int .i64 0, .int .i64 0] 31)).cell? ⟨w.heap.size + 1, 1, none⟩ = some (.int .i64 f) := by simp [go_sem]
  have hT : Two (w.heap.size + 1 + 1) (.int .i64 0) (.int .i64 0) (((w.alloc (.cells #[.int .i64 N, .int .i64 lo, .int .i64 hi] 25)).alloc (.cells #[.int .i64 o, .int .i64 f] 60)).alloc (.cells #[.int .i64 0, .int .i64 0] 31)) := ⟨by simp [go_sem], by simp [go_sem], by simp [go_sem], by simp [go_sem]⟩
  have HT := Lib.hid (And.intro hT (And.intro d0 d1))
  have HB0 := Lib.hid hB0
  clear hT hB0 d0 d1
  go_enter Tryd.func28, Tryd.ntmps28
  go_wp2_with fail
  generalize (((w.alloc (.cells #[.int .i64 N, .int .i64 lo, .int .i64 hi] 25)).alloc (.cells #[.int .i64 o, .int .i64 f] 60)).alloc (.cells #[.int .i64 0, .int .i64 0] 31)) = W0 at *
  generalize hbb : w.heap.size = bb at *
  have HBB := Lib.hid hbb
  clear hbb
  have hs0 : bb + 1 + 1 < W0.heap.size := lt_of_cell HT.out.1.c0
  refine (begun_ok N lo hi _ hc).mono ?_
  rintro e w1 ⟨hb, mb, kb, cb, rfl, hH, hmb, hhb, hB1⟩
  have HB1 := Lib.hid (HB0.out.trans (hB1.mono (by omega)))
  have HH := Lib.hid (And.intro hH (And.intro hmb hhb))
  have T1 := HT.out.1.keeps hB1
  have e0 := keepsB hB1 HT.out.2.1
  have e1 := keepsB hB1 HT.out.2.2
  have hs1 := hB1.size
  have b0 := hH.bags
  have b1 := hH.lo
  have b2 := hH.hi
  have HT1 := Lib.hid T1
  clear hB1 hH hmb hhb T1
  go_wp2_with fail
  refine (draw_any hb N o f 0 _ b0 hx.out).mono ?_
  rintro e w2 ⟨rfl, hB2⟩
  have HB2 := Lib.hid (HB1.out.trans (hB2.mono (by omega)))
  have HH2 := Lib.hid (HH.out.1.kept (.of_below hB2))
  have e0 := keepsB hB2 e0
  have e1 := keepsB hB2 e1
  have b1 := keepsB hB2 b1
  have b2 := keepsB hB2 b2
  have HT2 := Lib.hid (HT1.out.keeps hB2)
  have hs2 := hB2.size
  clear hB2 HT1
  go_wp2_with fail
  refine (may_any hb lo hi [D] _ 0 _ (by simp [maxLen]) (keepsB (belAlloc _ _) b1) (keepsB (belAlloc _ _) b2) (SlI.one _ _ _) hy.out).mono ?_
  rintro e w3 ⟨rfl, hB3⟩
  have hB3 := Below.trans (belAlloc w2 _) (hB3.mono (by simp))
  have HB3 := Lib.hid (HB2.out.trans (hB3.mono (by omega)))
  have HH3 := Lib.hid (HH2.out.kept (.of_below hB3))
  have e0 := keepsB hB3 e0
  have e1 := keepsB hB3 e1
  have HT3 := Lib.hid (HT2.out.keeps hB3)
  have hs3 := hB3.size
  clear hB3 HT2 b0 b1 b2
  go_wp2_with fail
  refine (first_sl [0, 0] 0 _ _ (by simp [maxLen]) hz.out (SlI.two _ _ _ _)).mono ?_
  rintro e w4 ⟨rfl, rfl⟩
  obtain ⟨px, py, hp⟩ : ∃ px py : Int, partV (waysI N D o f).toNat (chI N o).toNat = .agg #[.int .i64 px, .int .i64 py] := ⟨_, _, rfl⟩
  have HP := Lib.hid hp
  clear hp
  have HK4 : Kept mb w3 (w3.alloc (.cells #[.int .i64 0, .int .i64 0] 32)) := (Kept.refl _ _).alloc _
  have HT4 := HT3.out.keeps (belAlloc w3 (.cells #[.int .i64 0, .int .i64 0] 32))
  have HB4 := Lib.hid (HB3.out.alloc (by omega) (.cells #[.int .i64 0, .int .i64 0] 32))
  have HH4 := Lib.hid (HH3.out.kept HK4)
  have e0 := HK4.cell e0 (HH3.out.ctr.memo.ne e0)
  have e1 := HK4.cell e1 (HH3.out.ctr.memo.ne e1)
  have g0 := HH4.out.bags
  have g3 := HH4.out.sets
  have nes : Hid (bb + 1 + 1 ≠ mb ∧ kb ≠ bb + 1 + 1 ∧ cb ≠ bb + 1 + 1 ∧ hb ≠ bb + 1 + 1 ∧ bb + 1 ≠ mb) := by
    have m := HH4.out.ctr.memo
    refine ⟨m.ne HT4.c0, ?_, ?_, ?_, m.ne e0⟩
    · intro e; have := HT4.c0; rw [← e, HH4.out.ctr.known] at this; cases this
    · intro e; have := HT4.c0; rw [← e, HH4.out.ctr.count] at this; cases this
    · have := HH.out.2.2; omega
  have hs4 : bb + 1 + 1 < (w3.alloc (.cells #[.int .i64 0, .int .i64 0] 32)).heap.size := lt_of_cell HT4.c0
  have HT5 := Lib.hid HT4
  clear HK4 HT4
  go_wp2_with fail
  generalize w3.alloc (.cells #[.int .i64 0, .int .i64 0] 32) = W4 at *
  generalize hrb : bb + 1 + 1 = rb at *
  have HRB := Lib.hid hrb
  clear hrb
  have hF : ∀ W, KeptR mb rb [.int .i64 px, .int .i64 py] W4.drew W → W.cell? ⟨bb + 1, 0, none⟩ = some (.int .i64 o) ∧ W.cell? ⟨bb + 1, 1, none⟩ = some (.int .i64 f) ∧ W.cell? ⟨hb, 0, none⟩ = some (.int .i64 N) ∧ W.cell? ⟨hb, 3, none⟩ = some (setsV kb cb) ∧ (W.cell? ⟨rb, 0, none⟩).isSome = true ∧ (W.cell? ⟨rb, 1, none⟩).isSome = true ∧ W.frozen? ⟨rb, 0, none⟩ = false ∧ W.frozen? ⟨rb, 1, none⟩ = false :=
    fun W hW => ⟨hW.cell e0 nes.out.2.2.2.2 (by have := HRB.out; show bb + 1 ≠ rb; omega), hW.cell e1 nes.out.2.2.2.2 (by have := HRB.out; show bb + 1 ≠ rb; omega),
      hW.cell g0 (HH4.out.ctr.memo.ne g0) nes.out.2.2.2.1, hW.cell g3 (HH4.out.ctr.memo.ne g3) nes.out.2.2.2.1,
      hW.there 0 (by simpa using congrArg Option.isSome HT5.out.c0), hW.there 1 (by simpa using congrArg Option.isSome HT5.out.c1), (hW.frozen 0).trans HT5.out.f0, (hW.frozen 1).trans HT5.out.f1⟩
  have hC : Hid (∀ W, KeptR mb rb [.int .i64 px, .int .i64 py] W4.drew W → Hold hb N lo hi mb kb cb W ∧ rb < W.heap.size) := fun W hW =>
    ⟨KeptR.hold (HH4.out.kept (Kept.refl _ _).drew) hW nes.out.2.1 nes.out.2.2.1 nes.out.2.2.2.1, Nat.lt_of_lt_of_le hs4 hW.size⟩
  have hwc : Hid (∀ W, Hold hb N lo hi mb kb cb W → Calls Tryd.prog 64 #[.pointer (some ⟨hb, 0, none⟩), .int .i64 D, .agg #[.int .i64 o, .int .i64 f]] W fun e w' => e = .returned (.int .i64 (waysI N D o f)) ∧ Kept mb W w') :=
    fun W hW => ways_any hb N lo hi D o f mb kb cb W hW (by omega) (by omega) (by omega) (by omega) (by omega)
  have hcc : Hid (∀ W, Ctr mb kb cb W → Calls Tryd.prog 107 #[.int .i64 N, .int .i64 o, .pointer (some ⟨kb, 0, none⟩), .pointer (some ⟨cb, 0, none⟩)] W fun e w' => e = .returned (.int .i64 (chI N o)) ∧ Kept mb W w') :=
    fun W hW => count_call N o mb kb cb W (by omega) hW
  have hways := Lib.hid (waysI_bound N D o f (by omega) (by omega) (by omega))
  have hA : Hid (1 ≤ chI N o ∧ chI N o ≤ 68719476736) := chI_pos N o (by omega) hN.2.1 hD.1 hD.2.1
  generalize hWe : waysI N D o f = WV at *
  generalize hAe : chI N o = A at *
  have HWA := Lib.hid (And.intro hWe hAe)
  clear hWe hAe
  refine Free.wp_free (R := KeptR mb rb [.int .i64 px, .int .i64 py]) (by kernel_rfl) (by kernel_rfl) (KeptR.refl mb rb _) (fun _ _ _ h k => h.trans k) ?_
  refine Free.Chain.ex ?_ [] [8] (by kernel_rfl) (by kernel_rfl) rfl (KeptR.refl mb rb _) ?_ ?_
  rotate_left
  · (intro ev W hb hR hO hD; have hS := hF W hR; obtain ⟨hb1, hb2, hb3⟩ := hb; simp only [Free.AllDeps, Free.AllOuts, Free.At, List.getElem?_cons_succ, List.getElem?_cons_zero, Array.getD_eq_getD_getElem?, List.getElem?_toArray, Option.getD_some, and_true] at hO hD; go_simp; rfl)
  simp only [List.nil_append, List.cons_append]
  refine Free.Chain.ex ?_ [] [1] (by kernel_rfl) (by kernel_rfl) rfl (KeptR.refl mb rb _) ?_ ?_
  rotate_left
  · (intro ev W hb hR hO hD; have hS := hF W hR; obtain ⟨hb1, hb2, hb3⟩ := hb; simp only [Free.AllDeps, Free.AllOuts, Free.At, List.getElem?_cons_succ, List.getElem?_cons_zero, Array.getD_eq_getD_getElem?, List.getElem?_toArray, Option.getD_some, and_true] at hO hD; go_simp; rfl)
  simp only [List.nil_append, List.cons_append]
  refine Free.Chain.ex ?_ [] [5] (by kernel_rfl) (by kernel_rfl) rfl (KeptR.refl mb rb _) ?_ ?_
  rotate_left
  · (intro ev W hb hR hO hD; have hS := hF W hR; obtain ⟨hb1, hb2, hb3⟩ := hb; simp only [Free.AllDeps, Free.AllOuts, Free.At, List.getElem?_cons_succ, List.getElem?_cons_zero, Array.getD_eq_getD_getElem?, List.getElem?_toArray, Option.getD_some, and_true] at hO hD; go_simp; rfl)
  simp only [List.nil_append, List.cons_append]
  refine Free.Chain.pr (fun v _ => v = .int .i64 WV) [(0, 33), (1, 34), (2, 35)] [] (by kernel_rfl) (by kernel_rfl) rfl (fun _ _ _ _ h => h) ?_ ?_
  · (intro ev W hb hR hO hD; have hS := hF W hR; obtain ⟨hb1, hb2, hb3⟩ := hb; simp only [Free.AllDeps, Free.AllOuts, Free.At, List.getElem?_cons_succ, List.getElem?_cons_zero, Array.getD_eq_getD_getElem?, List.getElem?_toArray, Option.getD_some, and_true] at hO hD; go_simp; refine (hwc.out _ (hC.out _ hR).1).mono ?_; rintro e W1 ⟨rfl, hB1⟩; exact ⟨_, rfl, KeptR.of_kept hB1 nes.out.1 (hC.out _ hR).2, rfl⟩)
  simp only [List.nil_append, List.cons_append]
  refine Free.Chain.ex ?_ [] [8] (by kernel_rfl) (by kernel_rfl) rfl (KeptR.refl mb rb _) ?_ ?_
  rotate_left
  · (intro ev W hb hR hO hD; have hS := hF W hR; obtain ⟨hb1, hb2, hb3⟩ := hb; simp only [Free.AllDeps, Free.AllOuts, Free.At, List.getElem?_cons_succ, List.getElem?_cons_zero, Array.getD_eq_getD_getElem?, List.getElem?_toArray, Option.getD_some, and_true] at hO hD; go_simp; rfl)
  simp only [List.nil_append, List.cons_append]
  refine Free.Chain.ex ?_ [(4, 37)] [] (by kernel_rfl) (by kernel_rfl) rfl (KeptR.refl mb rb _) ?_ ?_
  rotate_left
  · (intro ev W hb hR hO hD; have hS := hF W hR; obtain ⟨hb1, hb2, hb3⟩ := hb; simp only [Free.AllDeps, Free.AllOuts, Free.At, List.getElem?_cons_succ, List.getElem?_cons_zero, Array.getD_eq_getD_getElem?, List.getElem?_toArray, Option.getD_some, and_true] at hO hD; go_simp; rfl)
  simp only [List.nil_append, List.cons_append]
  refine Free.Chain.ex ?_ [(5, 38)] [] (by kernel_rfl) (by kernel_rfl) rfl (KeptR.refl mb rb _) ?_ ?_
  rotate_left
  · (intro ev W hb hR hO hD; have hS := hF W hR; obtain ⟨hb1, hb2, hb3⟩ := hb; simp only [Free.AllDeps, Free.AllOuts, Free.At, List.getElem?_cons_succ, List.getElem?_cons_zero, Array.getD_eq_getD_getElem?, List.getElem?_toArray, Option.getD_some, and_true] at hO hD; go_simp; rfl)
  simp only [List.nil_append, List.cons_append]
  refine Free.Chain.ex ?_ [(6, 39)] [] (by kernel_rfl) (by kernel_rfl) rfl (KeptR.refl mb rb _) ?_ ?_
  rotate_left
  · (intro ev W hb hR hO hD; have hS := hF W hR; obtain ⟨hb1, hb2, hb3⟩ := hb; simp only [Free.AllDeps, Free.AllOuts, Free.At, List.getElem?_cons_succ, List.getElem?_cons_zero, Array.getD_eq_getD_getElem?, List.getElem?_toArray, Option.getD_some, and_true] at hO hD; go_simp; rfl)
  simp only [List.nil_append, List.cons_append]
  refine Free.Chain.ex ?_ [] [8] (by kernel_rfl) (by kernel_rfl) rfl (KeptR.refl mb rb _) ?_ ?_
  rotate_left
  · (intro ev W hb hR hO hD; have hS := hF W hR; obtain ⟨hb1, hb2, hb3⟩ := hb; simp only [Free.AllDeps, Free.AllOuts, Free.At, List.getElem?_cons_succ, List.getElem?_cons_zero, Array.getD_eq_getD_getElem?, List.getElem?_toArray, Option.getD_some, and_true] at hO hD; go_simp; rfl)
  simp only [List.nil_append, List.cons_append]
  refine Free.Chain.ex ?_ [(8, 41)] [] (by kernel_rfl) (by kernel_rfl) rfl (KeptR.refl mb rb _) ?_ ?_
  rotate_left
  · (intro ev W hb hR hO hD; have hS := hF W hR; obtain ⟨hb1, hb2, hb3⟩ := hb; simp only [Free.AllDeps, Free.AllOuts, Free.At, List.getElem?_cons_succ, List.getElem?_cons_zero, Array.getD_eq_getD_getElem?, List.getElem?_toArray, Option.getD_some, and_true] at hO hD; go_simp; rfl)
  simp only [List.nil_append, List.cons_append]
  refine Free.Chain.ex ?_ [(9, 42)] [] (by kernel_rfl) (by kernel_rfl) rfl (KeptR.refl mb rb _) ?_ ?_
  rotate_left
  · (intro ev W hb hR hO hD; have hS := hF W hR; obtain ⟨hb1, hb2, hb3⟩ := hb; simp only [Free.AllDeps, Free.AllOuts, Free.At, List.getElem?_cons_succ, List.getElem?_cons_zero, Array.getD_eq_getD_getElem?, List.getElem?_toArray, Option.getD_some, and_true] at hO hD; go_simp; rfl)
  simp only [List.nil_append, List.cons_append]
  refine Free.Chain.ex ?_ [(10, 43)] [] (by kernel_rfl) (by kernel_rfl) rfl (KeptR.refl mb rb _) ?_ ?_
  rotate_left
  · (intro ev W hb hR hO hD; have hS := hF W hR; obtain ⟨hb1, hb2, hb3⟩ := hb; simp only [Free.AllDeps, Free.AllOuts, Free.At, List.getElem?_cons_succ, List.getElem?_cons_zero, Array.getD_eq_getD_getElem?, List.getElem?_toArray, Option.getD_some, and_true] at hO hD; go_simp; rfl)
  simp only [List.nil_append, List.cons_append]
  refine Free.Chain.ex ?_ [(11, 44)] [] (by kernel_rfl) (by kernel_rfl) rfl (KeptR.refl mb rb _) ?_ ?_
  rotate_left
  · (intro ev W hb hR hO hD; have hS := hF W hR; obtain ⟨hb1, hb2, hb3⟩ := hb; simp only [Free.AllDeps, Free.AllOuts, Free.At, List.getElem?_cons_succ, List.getElem?_cons_zero, Array.getD_eq_getD_getElem?, List.getElem?_toArray, Option.getD_some, and_true] at hO hD; go_simp; rfl)
  simp only [List.nil_append, List.cons_append]
  refine Free.Chain.ex ?_ [] [5] (by kernel_rfl) (by kernel_rfl) rfl (KeptR.refl mb rb _) ?_ ?_
  rotate_left
  · (intro ev W hb hR hO hD; have hS := hF W hR; obtain ⟨hb1, hb2, hb3⟩ := hb; simp only [Free.AllDeps, Free.AllOuts, Free.At, List.getElem?_cons_succ, List.getElem?_cons_zero, Array.getD_eq_getD_getElem?, List.getElem?_toArray, Option.getD_some, and_true] at hO hD; go_simp; rfl)
  simp only [List.nil_append, List.cons_append]
  refine Free.Chain.ex ?_ [(13, 46)] [] (by kernel_rfl) (by kernel_rfl) rfl (KeptR.refl mb rb _) ?_ ?_
  rotate_left
  · (intro ev W hb hR hO hD; have hS := hF W hR; obtain ⟨hb1, hb2, hb3⟩ := hb; simp only [Free.AllDeps, Free.AllOuts, Free.At, List.getElem?_cons_succ, List.getElem?_cons_zero, Array.getD_eq_getD_getElem?, List.getElem?_toArray, Option.getD_some, and_true] at hO hD; go_simp; rfl)
  simp only [List.nil_append, List.cons_append]
  refine Free.Chain.pr (fun v _ => v = .int .i64 A) [(7, 40), (12, 45), (14, 47), (3, 36)] [] (by kernel_rfl) (by kernel_rfl) rfl (fun _ _ _ _ h => h) ?_ ?_
  · (intro ev W hb hR hO hD; have hS := hF W hR; obtain ⟨hb1, hb2, hb3⟩ := hb; simp only [Free.AllDeps, Free.AllOuts, Free.At, List.getElem?_cons_succ, List.getElem?_cons_zero, Array.getD_eq_getD_getElem?, List.getElem?_toArray, Option.getD_some, and_true] at hO hD; go_simp; refine (hcc.out _ (hC.out _ hR).1.ctr).mono ?_; rintro e W1 ⟨rfl, hB1⟩; exact ⟨_, rfl, KeptR.of_kept hB1 nes.out.1 (hC.out _ hR).2, rfl⟩)
  simp only [List.nil_append, List.cons_append]
  refine Free.Chain.pr (fun v _ => v = .agg #[.int .i64 px, .int .i64 py]) [(3, 36), (15, 48), (15, 48)] [] (by kernel_rfl) (by kernel_rfl) rfl (fun _ _ _ _ h => h) ?_ ?_
  · (intro ev W hb hR hO hD; have hS := hF W hR; obtain ⟨hb1, hb2, hb3⟩ := hb; simp only [Free.AllDeps, Free.AllOuts, Free.At, List.getElem?_cons_succ, List.getElem?_cons_zero, Array.getD_eq_getD_getElem?, List.getElem?_toArray, Option.getD_some, and_true] at hO hD; go_simp; refine (part_int WV A hways.out.1 (by have := hA.out; omega) (by have := hways.out; omega) (by have := hA.out; omega) _ HP.out _).mono ?_; rintro e W1 ⟨rfl, hB1⟩; exact ⟨_, rfl, KeptR.of_kept (.of_below hB1) nes.out.1 (hC.out _ hR).2, rfl⟩)
  simp only [List.nil_append, List.cons_append]
  refine Free.Chain.pr (fun _ w => w.cell? ⟨rb, 0, none⟩ = some (.int .i64 px) ∧ w.cell? ⟨rb, 1, none⟩ = some (.int .i64 py)) [(16, 49), (16, 49), (0, 33), (1, 34), (2, 35), (3, 36), (4, 37), (5, 38), (6, 39), (7, 40), (8, 41), (9, 42), (10, 43), (11, 44), (12, 45), (13, 46), (14, 47), (15, 48), (16, 49)] [6] (by kernel_rfl) (by kernel_rfl) rfl (KeptR.stable2) ?_ ?_
  · (intro ev W hb hR hO hD; have hS := hF W hR; obtain ⟨hb1, hb2, hb3⟩ := hb; simp only [Free.AllDeps, Free.AllOuts, Free.At, List.getElem?_cons_succ, List.getElem?_cons_zero, Array.getD_eq_getD_getElem?, List.getElem?_toArray, Option.getD_some, and_true] at hO hD; (obtain ⟨u0, hu0⟩ := Option.isSome_iff_exists.1 (show (W.cell? ⟨rb, 0, none⟩).isSome = true by simp [hS])); (obtain ⟨u1, hu1⟩ := Option.isSome_iff_exists.1 (show (W.cell? ⟨rb, 1, none⟩).isSome = true by simp [hS])); go_simp; exact KeptR.store2 nes.out.1 hu0 hu1)
  simp only [List.nil_append, List.cons_append]
  refine Free.Chain.ex ?_ [(0, 33), (1, 34), (2, 35), (3, 36), (4, 37), (5, 38), (6, 39), (7, 40), (8, 41), (9, 42), (10, 43), (11, 44), (12, 45), (13, 46), (14, 47), (15, 48), (16, 49)] [] (by kernel_rfl) (by kernel_rfl) rfl (KeptR.refl mb rb _) ?_ ?_
  rotate_left
  · (intro ev W hb hR hO hD; have hS := hF W hR; obtain ⟨hb1, hb2, hb3⟩ := hb; simp only [Free.AllDeps, Free.AllOuts, Free.At, List.getElem?_cons_succ, List.getElem?_cons_zero, Array.getD_eq_getD_getElem?, List.getElem?_toArray, Option.getD_some, and_true] at hO hD; go_simp; rfl)
  simp only [List.nil_append, List.cons_append]
  intro xs w' hR hV
  simp only [Free.AllV, Free.At, List.length_cons, List.length_nil, Nat.reduceAdd, List.getElem?_cons_succ, List.getElem?_cons_zero, true_and] at hV
  simp only [Free.putsFrom, Act.put, hV, List.setIfInBounds_toArray, List.set_cons_succ, List.set_cons_zero]
  go_wp2_with fail
  have hcell := hV.1.2
  refine bodyPost_ret (v := .tuple #[.agg #[.int .i64 px, .int .i64 py], .int .i64 0]) ?_ rfl ⟨?_, ?_⟩
  · simp [results, Tryd.results28, go_sem, hcell]
  · rw [HWA.out.1, HWA.out.2, HP.out]
  · have hbb := HBB.out
    subst hbb
    have hsz := HB4.out.size
    exact ⟨hR.os.trans HB4.out.os, hR.tape.trans HB4.out.tape, hR.output.trans HB4.out.output, Nat.le_trans HB4.out.size hR.size, fun k hk => (hR.block k (Nat.lt_of_lt_of_le hk hsz) (by have := HH.out.2.1; have := HRB.out; omega) (by have := HRB.out; omega)).trans (HB4.out.block k hk)⟩

theorem chance_any (N lo hi D o f : Int) (w : World) :
    Calls Tryd.prog 28 #[.agg #[.int .i64 N, .int .i64 lo, .int .i64 hi], .int .i64 D, .agg #[.int .i64 o, .int .i64 f]] w fun e w' => e = .returned (.tuple (if cargoB N lo hi = false then #[zeroPart, .int .i64 10] else if drawnE N lo hi D o f ≠ 0 then #[zeroPart, .int .i64 (drawnE N lo hi D o f)] else #[partV (waysI N D o f).toNat (chI N o).toNat, .int .i64 0])) ∧ Below w.heap.size w w' := by
  cases hc : cargoB N lo hi
  · simpa [zeroPart] using chance_a N lo hi D o f w hc
  · by_cases hz : drawnE N lo hi D o f = 0
    · have hd : drawB N o f = true := by
        cases h : drawB N o f
        · simp [drawnE, h, unlessV, firstE] at hz
        · rfl
      have hm : inB lo hi [D] = true := by
        cases h : inB lo hi [D]
        · simp [drawnE, hd, h, unlessV, firstE] at hz
        · rfl
      simpa [hz] using chance_c N lo hi D o f w hc hd hm
    · rw [if_neg (by simp), if_pos hz]
      exact chance_b N lo hi D o f w hc _ _ _ rfl rfl rfl (by show (drawnE N lo hi D o f != 0) = true; simpa using hz)

set_option maxRecDepth 100000 in
set_option maxHeartbeats 2000000 in
theorem atmost_a (N lo hi D o f : Int) (w : World) (hc : cargoB N lo hi = false) :
    Calls Tryd.prog 30 #[.agg #[.int .i64 N, .int .i64 lo, .int .i64 hi], .int .i64 D, .agg #[.int .i64 o, .int .i64 f]] w fun e w' => e = .returned (.tuple #[.agg #[.int .i64 0, .int .i64 0], .int .i64 10]) ∧ Below w.heap.size w w' := by
  have hB0 : Below w.heap.size w (((w.alloc (.cells #[.int .i64 N, .int .i64 lo, .int .i64 hi] 25)).alloc (.cells #[.int .i64 o, .int .i64 f] 60)).alloc (.cells #[.int .i64 0, .int .i64 0] 31)) := (((Below.refl _ w).alloc (Nat.le_refl _) _).alloc (by simp) _).alloc (by simp; omega) _
  have d0 : (((w.alloc (.cells #[.int .i64 N, .int .i64 lo, .int .i64 hi] 25)).alloc (.cells #[.int .i64 o, .int .i64 f] 60)).alloc (.cells #[.int .i64 0, .int .i64 0] 31)).cell? ⟨w.heap.size + 1, 0, none⟩ = some (.int .i64 o) := by simp [go_sem]
  have d1 : (((w.alloc (.cells #[.int .i64 N, .int .i64 lo, .int .i64 hi] 25)).alloc (.cells #[.int .i64 o, .int .i64 f] 60)).alloc (.cells #[.int .i64 0, .int .i64 0] 31)).cell? ⟨w.heap.size + 1, 1, none⟩ = some (.int .i64 f) := by simp [go_sem]
  have hT : Two (w.heap.size + 1 + 1) (.int .i64 0) (.int .i64 0) (((w.alloc (.cells #[.int .i64 N, .int .i64 lo, .int .i64 hi] 25)).alloc (.cells #[.int .i64 o, .int .i64 f] 60)).alloc (.cells #[.int .i64 0, .int .i64 0] 31)) := ⟨by simp [go_sem], by simp [go_sem], by simp [go_sem], by simp [go_sem]⟩
  have HT := Lib.hid (And.intro hT (And.intro d0 d1))
  have HB0 := Lib.hid hB0
  clear hT hB0 d0 d1
  go_enter Tryd.func30, Tryd.ntmps30
  go_wp2_with fail
  generalize (((w.alloc (.cells #[.int .i64 N, .int .i64 lo, .int .i64 hi] 25)).alloc (.cells #[.int .i64 o, .int .i64 f] 60)).alloc (.cells #[.int .i64 0, .int .i64 0] 31)) = W0 at *
  generalize hbb : w.heap.size = bb at *
  have HBB := Lib.hid hbb
  clear hbb
  have hs0 : bb + 1 + 1 < W0.heap.size := lt_of_cell HT.out.1.c0
  refine (begun_bad N lo hi _ hc).mono ?_
  rintro e w1 ⟨rfl, hB1⟩
  have T1 := HT.out.1.keeps hB1
  have HB1 := Lib.hid (HB0.out.trans (hB1.mono (by omega)))
  clear hB1
  have r0 := T1.c0
  have r1 := T1.c1
  have r2 := T1.f0
  have r3 := T1.f1
  obtain ⟨s0, s1⟩ := two_stores (w := w1) (b := bb + 1 + 1) (.int .i64 0) (.int .i64 0) r0 r1
  have hB9 := Lib.hid ((HB1.out.setCell (p := ⟨bb + 1 + 1, 0, none⟩) (by show bb ≤ bb + 1 + 1; omega) (.int .i64 0)).setCell (p := ⟨bb + 1 + 1, 1, none⟩) (by show bb ≤ bb + 1 + 1; omega) (.int .i64 0))
  go_wp2_with fail
  refine bodyPost_ret (v := .tuple #[.agg #[.int .i64 0, .int .i64 0], .int .i64 10]) ?_ rfl ⟨rfl, ?_⟩
  · simp [results, Tryd.results30, go_sem, s0, s1]
  · have hbb := HBB.out
    subst hbb
    exact hB9.out

set_option maxRecDepth 100000 in
set_option maxHeartbeats 2000000 in
theorem atmost_b (N lo hi D o f : Int) (w : World) (hc : cargoB N lo hi = true) (x y z : Int) (hx : Hid (unlessV (drawB N o f) 11 = x)) (hy : Hid (unlessV (inB lo hi [D]) 2 = y)) (hz : Hid (firstE [x, y] = z)) (hz0 : (z != 0) = true) :
    Calls Tryd.prog 30 #[.agg #[.int .i64 N, .int .i64 lo, .int .i64 hi], .int .i64 D, .agg #[.int .i64 o, .int .i64 f]] w fun e w' => e = .returned (.tuple #[.agg #[.int .i64 0, .int .i64 0], .int .i64 z]) ∧ Below w.heap.size w w' := by
  have hB0 : Below w.heap.size w (((w.alloc (.cells #[.int .i64 N, .int .i64 lo, .int .i64 hi] 25)).alloc (.cells #[.int .i64 o, .int .i64 f] 60)).alloc (.cells #[.int .i64 0, .int .i64 0] 31)) := (((Below.refl _ w).alloc (Nat.le_refl _) _).alloc (by simp) _).alloc (by simp; omega) _
  have d0 : (((w.alloc (.cells #[.int .i64 N, .int .i64 lo, .int .i64 hi] 25)).alloc (.cells #[.int .i64 o, .int .i64 f] 60)).alloc (.cells #[.int .i64 0, .int .i64 0] 31)).cell? ⟨w.heap.size + 1, 0, none⟩ = some (.int .i64 o) := by simp [go_sem]
  have d1 : (((w.alloc (.cells #[.int .i64 N, .int .i64 lo, .int .i64 hi] 25)).alloc (.cells #[.int .i64 o, .int .i64 f] 60)).alloc (.cells #[.int .i64 0, .int .i64 0] 31)).cell? ⟨w.heap.size + 1, 1, none⟩ = some (.int .i64 f) := by simp [go_sem]
  have hT : Two (w.heap.size + 1 + 1) (.int .i64 0) (.int .i64 0) (((w.alloc (.cells #[.int .i64 N, .int .i64 lo, .int .i64 hi] 25)).alloc (.cells #[.int .i64 o, .int .i64 f] 60)).alloc (.cells #[.int .i64 0, .int .i64 0] 31)) := ⟨by simp [go_sem], by simp [go_sem], by simp [go_sem], by simp [go_sem]⟩
  have HT := Lib.hid (And.intro hT (And.intro d0 d1))
  have HB0 := Lib.hid hB0
  clear hT hB0 d0 d1
  go_enter Tryd.func30, Tryd.ntmps30
  go_wp2_with fail
  generalize (((w.alloc (.cells #[.int .i64 N, .int .i64 lo, .int .i64 hi] 25)).alloc (.cells #[.int .i64 o, .int .i64 f] 60)).alloc (.cells #[.int .i64 0, .int .i64 0] 31)) = W0 at *
  generalize hbb : w.heap.size = bb at *
  have HBB := Lib.hid hbb
  clear hbb
  have hs0 : bb + 1 + 1 < W0.heap.size := lt_of_cell HT.out.1.c0
  refine (begun_ok N lo hi _ hc).mono ?_
  rintro e w1 ⟨hb, mb, kb, cb, rfl, hH, hmb, hhb, hB1⟩
  have HB1 := Lib.hid (HB0.out.trans (hB1.mono (by omega)))
  have HH := Lib.hid (And.intro hH (And.intro hmb hhb))
  have T1 := HT.out.1.keeps hB1
  have e0 := keepsB hB1 HT.out.2.1
  have e1 := keepsB hB1 HT.out.2.2
  have hs1 := hB1.size
  have b0 := hH.bags
  have b1 := hH.lo
  have b2 := hH.hi
  have HT1 := Lib.hid T1
  clear hB1 hH hmb hhb T1
  go_wp2_with fail
  refine (draw_any hb N o f x _ b0 hx.out).mono ?_
  rintro e w2 ⟨rfl, hB2⟩
  have HB2 := Lib.hid (HB1.out.trans (hB2.mono (by omega)))
  have HH2 := Lib.hid (HH.out.1.kept (.of_below hB2))
  have e0 := keepsB hB2 e0
  have e1 := keepsB hB2 e1
  have b1 := keepsB hB2 b1
  have b2 := keepsB hB2 b2
  have HT2 := Lib.hid (HT1.out.keeps hB2)
  have hs2 := hB2.size
  clear hB2 HT1
  go_wp2_with fail
  refine (may_any hb lo hi [D] _ y _ (by simp [maxLen]) (keepsB (belAlloc _ _) b1) (keepsB (belAlloc _ _) b2) (SlI.one _ _ _) hy.out).mono ?_
  rintro e w3 ⟨rfl, hB3⟩
  have hB3 := Below.trans (belAlloc w2 _) (hB3.mono (by simp))
  have HB3 := Lib.hid (HB2.out.trans (hB3.mono (by omega)))
  have HH3 := Lib.hid (HH2.out.kept (.of_below hB3))
  have e0 := keepsB hB3 e0
  have e1 := keepsB hB3 e1
  have HT3 := Lib.hid (HT2.out.keeps hB3)
  have hs3 := hB3.size
  clear hB3 HT2 b0 b1 b2
  go_wp2_with fail
  refine (first_sl [x, y] z _ _ (by simp [maxLen]) hz.out (SlI.two _ _ _ _)).mono ?_
  rintro e w4 ⟨rfl, rfl⟩
  have T1 := HT3.out.keeps (belAlloc w3 (.cells #[.int .i64 x, .int .i64 y] 32))
  have HB1 := Lib.hid (HB3.out.alloc (by omega) (.cells #[.int .i64 x, .int .i64 y] 32))
  have r0 := T1.c0
  have r1 := T1.c1
  have r2 := T1.f0
  have r3 := T1.f1
  obtain ⟨s0, s1⟩ := two_stores (w := w3.alloc (.cells #[.int .i64 x, .int .i64 y] 32)) (b := bb + 1 + 1) (.int .i64 0) (.int .i64 0) r0 r1
  have hB9 := Lib.hid ((HB1.out.setCell (p := ⟨bb + 1 + 1, 0, none⟩) (by show bb ≤ bb + 1 + 1; omega) (.int .i64 0)).setCell (p := ⟨bb + 1 + 1, 1, none⟩) (by show bb ≤ bb + 1 + 1; omega) (.int .i64 0))
  go_wp2_with fail
  refine bodyPost_ret (v := .tuple #[.agg #[.int .i64 0, .int .i64 0], .int .i64 z]) ?_ rfl ⟨rfl, ?_⟩
  · simp [results, Tryd.results30, go_sem, s0, s1]
  · have hbb := HBB.out
    subst hbb
    exact hB9.out

set_option maxRecDepth 100000 in
set_option maxHeartbeats 2000000 in
theorem atmost_c (N lo hi D o f : Int) (w : World) (hc : cargoB N lo hi = true) (hd : drawB N o f = true) (hm : inB lo hi [D] = true) :
    Calls Tryd.prog 30 #[.agg #[.int .i64 N, .int .i64 lo, .int .i64 hi], .int .i64 D, .agg #[.int .i64 o, .int .i64 f]] w fun e w' => e = .returned (.tuple #[mostV N D o f, .int .i64 0]) ∧ Below w.heap.size w w' := by
  have hN := (cargoB_iff N lo hi).1 hc
  have hD := (drawB_iff N o f).1 hd
  have hM : lo ≤ D ∧ D ≤ hi := by simpa [inB] using hm
  have hx : Hid (unlessV (drawB N o f) 11 = 0) := by simp [Hid, unlessV, hd]
  have hy : Hid (unlessV (inB lo hi [D]) 2 = 0) := by simp [Hid, unlessV, hm]
  have hz : Hid (firstE [0, 0] = 0) := by simp [Hid, firstE]
  have hB0 : Below w.heap.size w (((w.alloc (.cells #[.int .i64 N, .int .i64 lo, .int .i64 hi] 25)).alloc (.cells #[.int .i64 o, .int .i64 f] 60)).alloc (.cells #[.int .i64 0, .int .i64 0] 31)) := (((Below.refl _ w).alloc (Nat.le_refl _) _).alloc (by simp) _).alloc (by simp; omega) _
  have d0 : (((w.alloc (.cells #[.int .i64 N, .int .i64 lo, .int .i64 hi] 25)).alloc (.cells #[.int .i64 o, .int .i64 f] 60)).alloc (.cells #[.int .i64 0, .int .i64 0] 31)).cell? ⟨w.heap.size + 1, 0, none⟩ = some (.int .i64 o) := by simp [go_sem]
  have d1 : (((w.alloc (.cells #[.int .i64 N, .int .i64 lo, .int .i64 hi] 25)).alloc (.cells #[.int .i64 o, .int .i64 f] 60)).alloc (.cells #[.int .i64 0, .int .i64 0] 31)).cell? ⟨w.heap.size + 1, 1, none⟩ = some (.int .i64 f) := by simp [go_sem]
  have hT : Two (w.heap.size + 1 + 1) (.int .i64 0) (.int .i64 0) (((w.alloc (.cells #[.int .i64 N, .int .i64 lo, .int .i64 hi] 25)).alloc (.cells #[.int .i64 o, .int .i64 f] 60)).alloc (.cells #[.int .i64 0, .int .i64 0] 31)) := ⟨by simp [go_sem], by simp [go_sem], by simp [go_sem], by simp [go_sem]⟩
  have HT := Lib.hid (And.intro hT (And.intro d0 d1))
  have HB0 := Lib.hid hB0
  clear hT hB0 d0 d1
  go_enter Tryd.func30, Tryd.ntmps30
  go_wp2_with fail
  generalize (((w.alloc (.cells #[.int .i64 N, .int .i64 lo, .int .i64 hi] 25)).alloc (.cells #[.int .i64 o, .int .i64 f] 60)).alloc (.cells #[.int .i64 0, .int .i64 0] 31)) = W0 at *
  generalize hbb : w.heap.size = bb at *
  have HBB := Lib.hid hbb
  clear hbb
  have hs0 : bb + 1 + 1 < W0.heap.size := lt_of_cell HT.out.1.c0
  refine (begun_ok N lo hi _ hc).mono ?_
  rintro e w1 ⟨hb, mb, kb, cb, rfl, hH, hmb, hhb, hB1⟩
  have HB1 := Lib.hid (HB0.out.trans (hB1.mono (by omega)))
  have HH := Lib.hid (And.intro hH (And.intro hmb hhb))
  have T1 := HT.out.1.keeps hB1
  have e0 := keepsB hB1 HT.out.2.1
  have e1 := keepsB hB1 HT.out.2.2
  have hs1 := hB1.size
  have b0 := hH.bags
  have b1 := hH.lo
  have b2 := hH.hi
  have HT1 := Lib.hid T1
  clear hB1 hH hmb hhb T1
  go_wp2_with fail
  refine (draw_any hb N o f 0 _ b0 hx.out).mono ?_
  rintro e w2 ⟨rfl, hB2⟩
  have HB2 := Lib.hid (HB1.out.trans (hB2.mono (by omega)))
  have HH2 := Lib.hid (HH.out.1.kept (.of_below hB2))
  have e0 := keepsB hB2 e0
  have e1 := keepsB hB2 e1
  have b1 := keepsB hB2 b1
  have b2 := keepsB hB2 b2
  have HT2 := Lib.hid (HT1.out.keeps hB2)
  have hs2 := hB2.size
  clear hB2 HT1
  go_wp2_with fail
  refine (may_any hb lo hi [D] _ 0 _ (by simp [maxLen]) (keepsB (belAlloc _ _) b1) (keepsB (belAlloc _ _) b2) (SlI.one _ _ _) hy.out).mono ?_
  rintro e w3 ⟨rfl, hB3⟩
  have hB3 := Below.trans (belAlloc w2 _) (hB3.mono (by simp))
  have HB3 := Lib.hid (HB2.out.trans (hB3.mono (by omega)))
  have HH3 := Lib.hid (HH2.out.kept (.of_below hB3))
  have e0 := keepsB hB3 e0
  have e1 := keepsB hB3 e1
  have HT3 := Lib.hid (HT2.out.keeps hB3)
  have hs3 := hB3.size
  clear hB3 HT2 b0 b1 b2
  go_wp2_with fail
  refine (first_sl [0, 0] 0 _ _ (by simp [maxLen]) hz.out (SlI.two _ _ _ _)).mono ?_
  rintro e w4 ⟨rfl, rfl⟩
  obtain ⟨px, py, hp⟩ : ∃ px py : Int, mostV N D o f = .agg #[.int .i64 px, .int .i64 py] := ⟨_, _, rfl⟩
  have HP := Lib.hid hp
  clear hp
  have HK4 : Kept mb w3 (w3.alloc (.cells #[.int .i64 0, .int .i64 0] 32)) := (Kept.refl _ _).alloc _
  have HT4 := HT3.out.keeps (belAlloc w3 (.cells #[.int .i64 0, .int .i64 0] 32))
  have HB4 := Lib.hid (HB3.out.alloc (by omega) (.cells #[.int .i64 0, .int .i64 0] 32))
  have HH4 := Lib.hid (HH3.out.kept HK4)
  have e0 := HK4.cell e0 (HH3.out.ctr.memo.ne e0)
  have e1 := HK4.cell e1 (HH3.out.ctr.memo.ne e1)
  have g0 := HH4.out.bags
  have g3 := HH4.out.sets
  have nes : Hid (bb + 1 + 1 ≠ mb ∧ kb ≠ bb + 1 + 1 ∧ cb ≠ bb + 1 + 1 ∧ hb ≠ bb + 1 + 1 ∧ bb + 1 ≠ mb) := by
    have m := HH4.out.ctr.memo
    refine ⟨m.ne HT4.c0, ?_, ?_, ?_, m.ne e0⟩
    · intro e; have := HT4.c0; rw [← e, HH4.out.ctr.known] at this; cases this
    · intro e; have := HT4.c0; rw [← e, HH4.out.ctr.count] at this; cases this
    · have := HH.out.2.2; omega
  have hs4 : bb + 1 + 1 < (w3.alloc (.cells #[.int .i64 0, .int .i64 0] 32)).heap.size := lt_of_cell HT4.c0
  have HT5 := Lib.hid HT4
  clear HK4 HT4
  go_wp2_with fail
  have hmost : Hid (Calls Tryd.prog 72 #[.pointer (some ⟨hb, 0, none⟩), .int .i64 D, .agg #[.int .i64 o, .int .i64 f]] (w3.alloc (.cells #[.int .i64 0, .int .i64 0] 32)) fun e w' => e = .returned (.agg #[.int .i64 px, .int .i64 py]) ∧ Kept mb (w3.alloc (.cells #[.int .i64 0, .int .i64 0] 32)) w') := by
    have := most_any hb N lo hi D o f mb kb cb _ HH4.out (by omega) (by omega) (by omega) (by omega)
    rw [HP.out] at this
    exact this
  refine hmost.out.mono ?_
  rintro e w5 ⟨rfl, hK5⟩
  have T5 := HT5.out.kept hK5 nes.out.1
  have r0 := T5.c0
  have r1 := T5.c1
  have r2 := T5.f0
  have r3 := T5.f1
  have hst := Lib.hid (KeptR.store2 (mb := mb) (x := .int .i64 px) (y := .int .i64 py) nes.out.1 r0 r1)
  have HK5 := Lib.hid hK5
  clear hK5
  go_wp2_with fail
  have hcell := hst.out.2
  refine bodyPost_ret (v := .tuple #[.agg #[.int .i64 px, .int .i64 py], .int .i64 0]) ?_ rfl ⟨?_, ?_⟩
  · simp [results, Tryd.results30, go_sem, hcell]
  · rw [HP.out]
  · have hbb := HBB.out
    subst hbb
    have hR := hst.out.1
    have hsz := HB4.out.size
    have hsz5 := HK5.out.size
    have hm := HH.out.2.1
    exact ⟨hR.os.trans (HK5.out.os.trans HB4.out.os), hR.tape.trans (HK5.out.tape.trans HB4.out.tape), hR.output.trans (HK5.out.output.trans HB4.out.output), by have := hR.size; omega, fun k hk => (hR.block k (by omega) (by omega) (by omega)).trans ((HK5.out.block k (by omega) (by omega)).trans (HB4.out.block k hk))⟩

theorem atmost_any (N lo hi D o f : Int) (w : World) :
    Calls Tryd.prog 30 #[.agg #[.int .i64 N, .int .i64 lo, .int .i64 hi], .int .i64 D, .agg #[.int .i64 o, .int .i64 f]] w fun e w' => e = .returned (.tuple (if cargoB N lo hi = false then #[zeroPart, .int .i64 10] else if drawnE N lo hi D o f ≠ 0 then #[zeroPart, .int .i64 (drawnE N lo hi D o f)] else #[mostV N D o f, .int .i64 0])) ∧ Below w.heap.size w w' := by
  cases hc : cargoB N lo hi
  · simpa [zeroPart] using atmost_a N lo hi D o f w hc
  · by_cases hz : drawnE N lo hi D o f = 0
    · have hd : drawB N o f = true := by
        cases h : drawB N o f
        · simp [drawnE, h, unlessV, firstE] at hz
        · rfl
      have hm : inB lo hi [D] = true := by
        cases h : inB lo hi [D]
        · simp [drawnE, hd, h, unlessV, firstE] at hz
        · rfl
      simpa [hz] using atmost_c N lo hi D o f w hc hd hm
    · rw [if_neg (by simp), if_pos hz]
      exact atmost_b N lo hi D o f w hc _ _ _ rfl rfl rfl (by show (drawnE N lo hi D o f != 0) = true; simpa using hz)

set_option maxRecDepth 100000 in
set_option maxHeartbeats 2000000 in
theorem check_any (N lo hi : Int) (w : World) :
    Calls Tryd.prog 51 #[.agg #[.int .i64 N, .int .i64 lo, .int .i64 hi]] w fun e w' => e = .returned (.int .i64 (unlessV (cargoB N lo hi) 10)) ∧ Below w.heap.size w w' := by
  cases hc : cargoB N lo hi
  · go_enter Tryd.func51, Tryd.ntmps51
    go_wp2_with fail
    refine (begun_bad N lo hi _ hc).mono ?_
    rintro e w1 ⟨rfl, hB1⟩
    have HB1 := Lib.hid (((Below.refl _ w).alloc (Nat.le_refl _) _).trans (hB1.mono (by simp)))
    clear hB1
    go_wp2_with fail
    go_ret
    exact ⟨rfl, HB1.out⟩
  · go_enter Tryd.func51, Tryd.ntmps51
    go_wp2_with fail
    refine (begun_ok N lo hi _ hc).mono ?_
    rintro e w1 ⟨hb, mb, kb, cb, rfl, hH, hmb, hhb, hB1⟩
    have HB1 := Lib.hid (((Below.refl _ w).alloc (Nat.le_refl _) _).trans (hB1.mono (by simp)))
    clear hB1 hH hmb hhb
    go_wp2_with fail
    go_ret
    exact ⟨rfl, HB1.out⟩
/-- Whether two numbers are those of things and of sets of them. -/
def nkB (n k : Int) : Bool := inB 0 36 [n] && inB 0 n [k]
theorem nkB_iff (n k : Int) : nkB n k = true ↔ 0 ≤ n ∧ n ≤ 36 ∧ 0 ≤ k ∧ k ≤ n := by
  simp [nkB, inB]; omega
set_option maxRecDepth 100000 in
set_option maxHeartbeats 2000000 in
theorem ways2_bad (n k : Int) (w : World) (h : nkB n k = false) :
    Calls Tryd.prog 68 #[.int .i64 n, .int .i64 k] w fun e w' => e = .returned (.tuple #[.int .i64 0, .int .i64 2]) ∧ Below w.heap.size w w' := by
  cases h1 : inB 0 36 [n]
  · go_enter Tryd.func68, Tryd.ntmps68
    go_wp2_with fail
    refine (in_sl _ _ [n] false _ _ (by simp [maxLen]) h1 (SlI.one _ _ _)).mono ?_
    rintro e w1 ⟨rfl, hB1⟩
    have HB1 := Lib.hid (Below.trans (belAlloc w _) (hB1.mono (by simp)))
    clear hB1
    go_wp2_with fail
    go_ret2
    exact ⟨rfl, HB1.out⟩
  · have h2 : inB 0 n [k] = false := by simpa [nkB, h1] using h
    go_enter Tryd.func68, Tryd.ntmps68
    go_wp2_with fail
    refine (in_sl _ _ [n] true _ _ (by simp [maxLen]) h1 (SlI.one _ _ _)).mono ?_
    rintro e w1 ⟨rfl, hB1⟩
    have HB1 := Lib.hid (Below.trans (belAlloc w _) (hB1.mono (by simp)))
    have hs1 := HB1.out.size
    clear hB1
    go_wp2_with fail
    refine (in_sl _ _ [k] false _ _ (by simp [maxLen]) h2 (SlI.one _ _ _)).mono ?_
    rintro e w2 ⟨rfl, hB2⟩
    have HB2 := Lib.hid (HB1.out.trans ((Below.trans (belAlloc w1 _) (hB2.mono (by simp))).mono hs1))
    clear hB2
    go_wp2_with fail
    go_ret2
    exact ⟨rfl, HB2.out⟩
set_option maxRecDepth 100000 in
set_option maxHeartbeats 2000000 in
theorem ways2_ok (n k : Int) (w : World) (h : nkB n k = true) :
    Calls Tryd.prog 68 #[.int .i64 n, .int .i64 k] w fun e w' => e = .returned (.tuple #[.int .i64 (chI n k), .int .i64 0]) ∧ Below w.heap.size w w' := by
  have hn := (nkB_iff n k).1 h
  simp only [nkB, Bool.and_eq_true] at h
  obtain ⟨h1, h2⟩ := h
  have H1 := Lib.hid h1
  have H2 := Lib.hid h2
  clear h1 h2
  go_enter Tryd.func68, Tryd.ntmps68
  go_wp2_with fail
  refine (in_sl _ _ [n] true _ _ (by simp [maxLen]) H1.out (SlI.one _ _ _)).mono ?_
  rintro e w1 ⟨rfl, hB1⟩
  have HB1 := Lib.hid (Below.trans (belAlloc w _) (hB1.mono (by simp)))
  have hs1 := HB1.out.size
  clear hB1
  go_wp2_with fail
  refine (in_sl _ _ [k] true _ _ (by simp [maxLen]) H2.out (SlI.one _ _ _)).mono ?_
  rintro e w2 ⟨rfl, hB2⟩
  have HB2 := Lib.hid (HB1.out.trans ((Below.trans (belAlloc w1 _) (hB2.mono (by simp))).mono hs1))
  have hs2 := HB2.out.size
  clear hB2
  go_wp2_with fail
  refine (counter_any _).mono ?_
  rintro e w3 ⟨mb, kb, cb, rfl, hC, hmb, hB3⟩
  have HB3 := Lib.hid (HB2.out.trans (hB3.mono hs2))
  have HC := Lib.hid hC
  have HM := Lib.hid hmb
  clear hB3 hC hmb
  go_wp2_with fail
  refine (count_call n k mb kb cb _ (by omega) HC.out).mono ?_
  rintro e w4 ⟨rfl, hK⟩
  have HB4 := Lib.hid (Kept.below HB3.out hK (by have := HM.out; omega))
  clear hK
  go_wp2_with fail
  go_ret2
  exact ⟨rfl, HB4.out⟩
end Go.Proofs.YthhallnkpbgomaaDoor
