/- For every input the law RoundChanges returns true, and its arguments read behind the call as they read before; what a watch is asked lies in the table as the program's text lays it (tied). Condition: that table. -/
/- RoundPlays: days that are played. -/
import Derived.Test.YtknpglgpkkhhiaaDoorB5
namespace Go.Proofs.YtknpglgpkkhhiaaDoor
set_option linter.unusedSimpArgs false
set_option linter.unusedVariables false
open Go.RowKit Go.Proofs.YtknpglgpkkhhiaaDoor.Free2

theorem greatD_false {ds : List (List Int)} (h : greatD ds = false) : ds.length ≤ 80 ∧ ∀ d ∈ ds, d.length ≤ 10 := by
  simp [greatD] at h
  refine ⟨by omega, fun d hd => ?_⟩
  have := h.2 d hd
  omega

set_option maxRecDepth 100000 in
set_option maxHeartbeats 16000000 in
theorem playsL_walk (h : Int) (xs : List Rk) (ds : List (List Int)) (u v : Value) (w : World) (hT : TabR w) (hu : RL xs u w) (hz : NZ u) (hv : DZ ds v w) :
    Calls Tryd.prog 3 #[.agg #[.int .i64 h, u], v] w fun e w' => e = .returned (.bool true) ∧ Below w.heap.size w w' := by
  have HU := Lib.hid hu
  have HV := Lib.hid hv
  obtain ⟨p, cp, rfl, _, _⟩ := hu
  obtain ⟨q, cq, rfl, hm, _, _⟩ := hv
  have KB : Free.Bel w (w.alloc (.cells #[.int .i64 h, .slice p xs.length cp] 24)) := belAlloc _ _
  have FA : ∀ W, Free.Bel (w.alloc (.cells #[.int .i64 h, .slice p xs.length cp] 24)) W → W.cell? ⟨w.heap.size, 0, none⟩ = some (.int .i64 h) ∧ W.cell? ⟨w.heap.size, 1, none⟩ = some (.slice p xs.length cp) := fun W hW => ⟨keepsB hW (by simp [go_sem]), keepsB hW (by simp [go_sem])⟩
  have KE : Free.Bel (w.alloc (.cells #[.int .i64 h, .slice p xs.length cp] 24)) (w.alloc (.cells #[.int .i64 h, .slice p xs.length cp] 24)) := Free.Bel.refl _
  have HTAB := Lib.hid hT
  have HNZ := Lib.hid hz
  have HGR := Lib.hid (great_any h xs.length cp p (w.alloc (.cells #[.int .i64 h, .slice p xs.length cp] 24)))
  clear hT hz
  by_cases h10 : xs.length ≤ 10
  · have g0 : decide (10 < (xs.length : Int)) = false := decide_eq_false (by omega)
    rw [g0] at HGR
    obtain ⟨gd, hgd⟩ : ∃ r, greatD ds = r := ⟨_, rfl⟩
    have HGD := Lib.hid hgd
    cases gd
    · obtain ⟨hd80, hd10⟩ := greatD_false hgd
      have HD10 := Lib.hid hd10
      have HD80 := Lib.hid hd80
      clear hgd hd10 hd80 g0
      go_enter Tryd.func3, Tryd.ntmps3
      go_wp2_with fail
      refine HGR.out.mono ?_
      rintro e w1 ⟨rfl, hB1⟩
      have K1 : Free.Bel (w.alloc (.cells #[.int .i64 h, .slice p xs.length cp] 24)) w1 := hB1
      clear hB1 KE HGR
      go_wp2_with fail
      refine (greatD_any ds _ w1 (HV.out.dl.keeps (bt KB K1)) false HGD).mono ?_
      rintro e w2 ⟨rfl, hB2⟩
      have K2 : Free.Bel (w.alloc (.cells #[.int .i64 h, .slice p xs.length cp] 24)) w2 := bt K1 hB2
      clear hB2 K1
      go_wp2_with fail
      refine (twin_any h xs _ w2 (HU.out.keeps (bt KB K2)) HNZ.out (by omega)).mono ?_
      rintro e w3 ⟨v1, rfl, hr1, hB3⟩
      obtain ⟨p1, c1, rfl⟩ := row_slice hr1
      have K3 : Free.Bel (w.alloc (.cells #[.int .i64 h, .slice p xs.length cp] 24)) w3 := bt K2 hB3
      have HNZ1 := Lib.hid (NZ.row hr1)
      have HR1 := Lib.hid (RL.of_row (xs := xs) rfl (by unfold maxLen; omega) hr1)
      clear hB3 K2 hr1
      go_wp2_with fail
      refine (twinD_any ds _ w3 (HV.out.keeps (bt KB K3)) HD80.out HD10.out).mono ?_
      rintro e w4 ⟨⟨v4, rfl, hdl⟩, hB4⟩
      have HDL := Lib.hid hdl
      obtain ⟨q4, c4, rfl, _, _⟩ := hdl
      have hr4 := Lib.hid (HR1.out.keeps hB4)
      have K4 : Free.Bel (w.alloc (.cells #[.int .i64 h, .slice p xs.length cp] 24)) w4 := bt K3 hB4
      have KA : Free.Bel w4 (w4.alloc (.cells #[.int .i64 h, .slice p1 xs.length c1] 24)) := belAlloc _ _
      have FB : ∀ W, Free.Bel (w4.alloc (.cells #[.int .i64 h, .slice p1 xs.length c1] 24)) W → W.cell? ⟨w.heap.size, 0, none⟩ = some (.int .i64 h) ∧ W.cell? ⟨w.heap.size, 1, none⟩ = some (.slice p xs.length cp) ∧ W.cell? ⟨w4.heap.size, 0, none⟩ = some (.int .i64 h) ∧ W.cell? ⟨w4.heap.size, 1, none⟩ = some (.slice p1 xs.length c1) := fun W hW =>
        ⟨(FA W (bt K4 (bt KA hW))).1, (FA W (bt K4 (bt KA hW))).2, keepsB hW (by simp [go_sem]), keepsB hW (by simp [go_sem])⟩
      have K5 : Free.Bel w (w4.alloc (.cells #[.int .i64 h, .slice p1 xs.length c1] 24)) := bt KB (bt K4 KA)
      have H5 := Lib.hid (And.intro (HDL.out.keeps KA) (hr4.out.keeps KA))
      have hb5 : Hid (w4.heap.size < (w4.alloc (.cells #[.int .i64 h, .slice p1 xs.length c1] 24)).heap.size) := by show _ < _; simp
      have KE := Free.Bel.refl (w4.alloc (.cells #[.int .i64 h, .slice p1 xs.length c1] 24))
      have HHOT := Lib.hid (hotP_any h xs ds _ _ _ (HTAB.out.bel K5) H5.out.2 H5.out.1 (by have := HD80.out; omega))
      clear K4 K3 KA hB4 FA HR1
      generalize hw5 : (w4.alloc (.cells #[.int .i64 h, .slice p1 xs.length c1] 24)) = w5 at *
      obtain ⟨EC, hEC⟩ : ∃ x, askE h xs ds = x := ⟨_, rfl⟩
      have HEC := Lib.hid hEC
      obtain ⟨HO, hHO⟩ : ∃ x, hotOut h xs ds = x := ⟨_, rfl⟩
      rw [hEC, hHO] at HHOT
      have HHO := Lib.hid hHO
      clear hEC hHO
      go_wp2_with fail
      refine HHOT.out.mono ?_
      rintro e w6 ⟨⟨v6, rfl, hp6⟩, hB6⟩
      have K6 : Free.Bel w5 w6 := hB6
      have HP6 := Lib.hid hp6
      obtain ⟨p6, c6, rfl, _, _⟩ := hp6
      clear hB6 KE HHOT
      go_wp2_with fail
      have hcon := hotRef_v h xs ds _ _ w6 (HU.out.keeps (bt K5 K6)) HNZ.out (HV.out.dl.keeps (bt K5 K6)) EC HEC
      rw [HHO.out] at hcon
      refine hcon.mono ?_
      clear hcon
      rintro e w7 ⟨⟨v7, rfl, hp7⟩, hB7⟩
      have K7 : Free.Bel w5 w7 := bt K6 hB7
      have HPP := Lib.hid (And.intro (HP6.out.keeps hB7) hp7)
      obtain ⟨p7, c7, rfl, _, _⟩ := hp7
      clear hB7 K6 HP6
      go_wp2_with fail
      have hcon := aftP_any h xs ds _ _ w7 (HTAB.out.bel (bt K5 K7)) (H5.out.2.keeps K7) HNZ1.out (H5.out.1.keeps K7) (by have := HD80.out; omega)
      have hcon2 := fun W hW => aftRef_v h xs ds _ _ W (HU.out.keeps hW) HNZ.out (HV.out.dl.keeps hW)
      obtain ⟨E, hE⟩ : ∃ x, aftE h xs ds = x := ⟨_, rfl⟩
      obtain ⟨Hh, hHh⟩ : ∃ x, aftH h xs ds = x := ⟨_, rfl⟩
      obtain ⟨LL, hLL⟩ : ∃ x, aftL h xs ds = x := ⟨_, rfl⟩
      have hLl : LL.length ≤ 10 := by
        rw [← hLL, aftL]
        split
        · rw [endR_length]; exact h10
        · simp
      rw [hE, hHh, hLL] at hcon hcon2
      have HC2 := Lib.hid hcon2
      clear hcon2 hE hHh hLL
      refine hcon.mono ?_
      clear hcon
      rintro e w8 ⟨⟨va, rfl, hra⟩, hB8⟩
      obtain ⟨pa, ca, rfl⟩ := row_slice hra
      have KA : Free.Bel w8 (w8.alloc (.cells #[.int .i64 Hh, .slice pa LL.length ca] 24)) := belAlloc _ _
      have K9 : Free.Bel w5 (w8.alloc (.cells #[.int .i64 Hh, .slice pa LL.length ca] 24)) := bt K7 (bt hB8 KA)
      have K79 : Free.Bel w7 (w8.alloc (.cells #[.int .i64 Hh, .slice pa LL.length ca] 24)) := bt hB8 KA
      have H9 := Lib.hid (bel_row hra KA)
      have HRA := Lib.hid hra
      have hbx : (w8.alloc (.cells #[.int .i64 Hh, .slice pa LL.length ca] 24)).heap[w8.heap.size]? = some (.cells #[.int .i64 Hh, .slice pa LL.length ca] 24 (0, 0)) := World.alloc_heap_new _ _
      have HBX := Lib.hid hbx
      have KE := Free.Bel.refl (w8.alloc (.cells #[.int .i64 Hh, .slice pa LL.length ca] 24))
      have FC : ∀ W, Free.Bel (w8.alloc (.cells #[.int .i64 Hh, .slice pa LL.length ca] 24)) W → W.cell? ⟨w.heap.size, 0, none⟩ = some (.int .i64 h) ∧ W.cell? ⟨w.heap.size, 1, none⟩ = some (.slice p xs.length cp) ∧ W.cell? ⟨w4.heap.size, 0, none⟩ = some (.int .i64 h) ∧ W.cell? ⟨w4.heap.size, 1, none⟩ = some (.slice p1 xs.length c1) ∧ W.cell? ⟨w8.heap.size, 0, none⟩ = some (.int .i64 Hh) ∧ W.cell? ⟨w8.heap.size, 1, none⟩ = some (.slice pa LL.length ca) := fun W hW => by
        obtain ⟨z0, z1, z2, z3⟩ := FB W (bt K9 hW)
        exact ⟨z0, z1, z2, z3, keepsB hW (cell_of_heap hbx rfl), keepsB hW (cell_of_heap hbx rfl)⟩
      have hw79 := K7.size
      have HFB := Lib.hid FB
      clear hra hB8 KA hbx FB
      generalize hw9 : (w8.alloc (.cells #[.int .i64 Hh, .slice pa LL.length ca] 24)) = w9 at *
      go_wp2_with fail
      refine (HC2.out w9 (bt K5 K9)).mono ?_
      rintro e w10 ⟨⟨vb, rfl, hrb⟩, hB10⟩
      have HRB := Lib.hid hrb
      obtain ⟨pb, cb, rfl, _, _⟩ := hrb
      have KA : Free.Bel w10 (w10.alloc (.cells #[.int .i64 Hh, .slice pb LL.length cb] 24)) := belAlloc _ _
      have K11 : Free.Bel w9 (w10.alloc (.cells #[.int .i64 Hh, .slice pb LL.length cb] 24)) := bt hB10 KA
      have HRB11 := Lib.hid (HRB.out.keeps KA)
      have FD : ∀ W, Free.Bel (w10.alloc (.cells #[.int .i64 Hh, .slice pb LL.length cb] 24)) W → (W.cell? ⟨w.heap.size, 0, none⟩ = some (.int .i64 h) ∧ W.cell? ⟨w.heap.size, 1, none⟩ = some (.slice p xs.length cp) ∧ W.cell? ⟨w4.heap.size, 0, none⟩ = some (.int .i64 h) ∧ W.cell? ⟨w4.heap.size, 1, none⟩ = some (.slice p1 xs.length c1) ∧ W.cell? ⟨w8.heap.size, 0, none⟩ = some (.int .i64 Hh) ∧ W.cell? ⟨w8.heap.size, 1, none⟩ = some (.slice pa LL.length ca)) ∧ W.cell? ⟨w10.heap.size, 0, none⟩ = some (.int .i64 Hh) ∧ W.cell? ⟨w10.heap.size, 1, none⟩ = some (.slice pb LL.length cb) := fun W hW => ⟨FC W (bt K11 hW), keepsB hW (by simp [go_sem]), keepsB hW (by simp [go_sem])⟩
      have KE2 := Free.Bel.refl (w10.alloc (.cells #[.int .i64 Hh, .slice pb LL.length cb] 24))
      clear hB10 KA HRB HC2 KE FC
      generalize hw11 : (w10.alloc (.cells #[.int .i64 Hh, .slice pb LL.length cb] 24)) = w11 at *
      obtain ⟨RC, hRC⟩ : ∃ x, repE h xs ds = x := ⟨_, rfl⟩
      obtain ⟨RB, hRB⟩ : ∃ x, repB h xs ds = x := ⟨_, rfl⟩
      have HRCB := Lib.hid (And.intro hRC hRB)
      clear hRC hRB
      go_wp2_with fail
      refine (repP_v h xs ds _ _ w11 (HTAB.out.bel (bt K5 (bt K9 K11))) (H5.out.2.keeps (bt K9 K11)) HNZ1.out (H5.out.1.keeps (bt K9 K11)) (by have := HD80.out; omega) RC RB HRCB).mono ?_
      rintro e w12 ⟨rfl, hB12⟩
      have K12 : Free.Bel w11 w12 := hB12
      clear hB12 KE2
      go_wp2_with fail
      refine (repRef_v h xs ds _ _ w12 (HU.out.keeps (bt K5 (bt K9 (bt K11 K12)))) HNZ.out (HV.out.dl.keeps (bt K5 (bt K9 (bt K11 K12)))) RC RB HRCB).mono ?_
      rintro e w13 ⟨rfl, hB13⟩
      have K13 : Free.Bel w11 w13 := bt K12 hB13
      have H13 := Lib.hid (And.intro (HPP.out.1.keeps (bt K79 (bt K11 K13))) (HPP.out.2.keeps (bt K79 (bt K11 K13))))
      clear hB13 K12
      go_wp2_with fail
      refine (sameH_any HO _ _ w13 H13.out.1 H13.out.2).mono ?_
      rintro e w14 ⟨rfl, hB14⟩
      have K14 : Free.Bel w11 w14 := bt K13 hB14
      have hrl14 := RL.of_row (xs := LL) rfl (by unfold maxLen; omega) (bel_row H9.out (bt K11 K14))
      have H14 := Lib.hid (And.intro hrl14 (HRB11.out.keeps K14))
      clear hB14 K13 hrl14
      go_wp2_with fail
      refine (sameW_any Hh LL _ _ w14 H14.out.1 H14.out.2).mono ?_
      rintro e w15 ⟨rfl, hB15⟩
      have K15 : Free.Bel w11 w15 := bt K14 hB15
      clear hB15 K14
      go_wp2_with fail
      have hI15 : Below w7.heap.size w7 w15 ∧ w15.heap[w8.heap.size]? = some (.cells #[.int .i64 Hh, .slice pa LL.length ca] 24 (0, 0)) ∧ w15.ownsRow w7.heap.size 47 3 (.slice pa LL.length ca) LL.length (cellsR LL) := ⟨bt K79 (bt K11 K15), ((bt K11 K15).block _ (lt_of_heap HBX.out)).trans HBX.out, bel_row H9.out (bt K11 K15)⟩
      have HI15 := Lib.hid hI15
      have HK7 := Lib.hid (And.intro K5 K7)
      have hsz := K7.size
      have hsz0 := K5.size
      have hgb : Hid (∀ g n c, Value.slice pa LL.length ca = .slice (some g) n c → g.block < w8.heap.size) := by
        intro g n c he
        rcases HRA.out.2 with ⟨h9, _⟩ | ⟨g2, cap, cur, h9, hb9, hg9, _⟩
        · rw [h9] at he; cases he
        · rw [h9] at he; cases he; exact lt_of_heap hg9
      clear hI15 K15 K11 K9 K79 FD K5 K7
      go_loopw [98] (fun i wr => ∃ (k : Nat) (ys : List Value), k ≤ LL.length ∧ i = .int .i64 k ∧ Below w7.heap.size w7 wr ∧ wr.heap[w8.heap.size]? = some (.cells #[.int .i64 Hh, .slice pa LL.length ca] 24 (0, 0)) ∧ wr.ownsRow w7.heap.size 47 3 (.slice pa LL.length ca) LL.length ys) (fun i _ => LL.length - (intOf i).toNat)
      case atStart => exact ⟨0, _, Nat.zero_le _, rfl, HI15.out.1, HI15.out.2.1, HI15.out.2.2⟩
      case round =>
        obtain ⟨k, ys, hk, rfl, hB, hbx, hrow⟩ := hrel
        have z1 := cell_of_heap (o := 1) hbx rfl
        by_cases hlt : k < LL.length
        · have hklt : (k : Int) < LL.length := by omega
          obtain ⟨g, hg1, hg2⟩ : ∃ g, pa = some ⟨g, 0, none⟩ ∧ w7.heap.size ≤ g := by
            rcases hrow.2 with ⟨_, h8⟩ | ⟨g, cap, cur, h8, hb8, _⟩
            · omega
            · simp only [Value.slice.injEq] at h8
              exact ⟨g, h8.1, hb8⟩
          subst hg1
          have hg3 := hgb.out _ _ _ rfl
          have hjl : k * 3 + 1 < ys.length := by rw [hrow.1]; omega
          obtain ⟨yy, c1⟩ : ∃ yy, wr.cell? ⟨g, k * 3 + 1, none⟩ = some yy := ⟨_, (hrow.cellAt (k * 3 + 1) (by omega)).trans (List.getElem?_eq_getElem hjl)⟩
          have c2 := hrow.frozenAt (k * 3 + 1)
          have hst := (hrow.stored (k * 3 + 1) (.int .i64 (-7))).1
          have HST := Lib.hid hst
          have HBB := Lib.hid hB
          have HBX2 := Lib.hid hbx
          simp only at hg3
          clear hst hrow hB hbx hjl
          go_wp2_with fail
          go_roundw
          case rel => exact ⟨k + 1, _, by omega, by go_num, HBB.out.setCell (by simpa using hg2) _, heap_other HBX2.out (by simp; omega), HST.out⟩
          case measure => simp [intOf]; omega
        · obtain rfl : k = LL.length := by omega
          have hB5 : Below w5.heap.size w5 wr := (show Below w5.heap.size w5 w7 from HK7.out.2).trans (hB.mono hsz)
          obtain ⟨y0, y1, y2, y3⟩ := HFB.out wr hB5
          have hBw : Below w.heap.size w wr := (show Below w.heap.size w w5 from HK7.out.1).trans (hB5.mono hsz0)
          have HBW := Lib.hid hBw
          clear hbx hrow hB hBw
          go_wp2_with fail
          refine (sameW_any h xs _ _ wr (H5.out.2.keeps hB5) (HU.out.keeps HBW.out)).mono ?_
          rintro e w16 ⟨rfl, hB16⟩
          have HB16 := Lib.hid hB16
          clear hB16
          go_wp2_with fail
          refine (sameD_any ds _ _ w16 ((H5.out.1.keeps hB5).keeps HB16.out) ((HV.out.dl.keeps HBW.out).keeps HB16.out)).mono ?_
          rintro e w17 ⟨rfl, hB17⟩
          go_wp2_with fail
          go_ret
          exact ⟨rfl, bt HBW.out (bt HB16.out hB17)⟩
    · clear hgd g0
      go_enter Tryd.func3, Tryd.ntmps3
      go_wp2_with fail
      refine HGR.out.mono ?_
      rintro e w1 ⟨rfl, hB1⟩
      go_wp2_with fail
      refine (greatD_any ds _ w1 (HV.out.dl.keeps (bt KB hB1)) true HGD).mono ?_
      rintro e w2 ⟨rfl, hB2⟩
      go_wp2_with fail
      go_ret
      exact ⟨rfl, bt KB (bt hB1 hB2)⟩
  · have g0 : decide (10 < (xs.length : Int)) = true := decide_eq_true (by omega)
    rw [g0] at HGR
    clear g0
    go_enter Tryd.func3, Tryd.ntmps3
    go_wp2_with fail
    refine HGR.out.mono ?_
    rintro e w1 ⟨rfl, hB1⟩
    go_wp2_with fail
    go_ret
    exact ⟨rfl, bt KB hB1⟩
end Go.Proofs.YtknpglgpkkhhiaaDoor

/- RoundChanges: watches with a rick more, and without one. -/
namespace Go.Proofs.YtknpglgpkkhhiaaDoor
set_option linter.unusedSimpArgs false
set_option linter.unusedVariables false
open Go.RowKit Go.Proofs.YtknpglgpkkhhiaaDoor.Free2

/-- A slice that is an argument is not longer than its room. -/
theorem slice_open_cap {H : Type} {enc : TypeId × Value → H} {W : World} {sp : Nat → Bool} {held : Bool} {t e : TypeId} {v : Value} {y : DataW H × List MemPlace} {n : Nat} (ht : Tryd.prog.underlying t = some (.slice e))
    (h : DataW.trod enc Tryd.prog W 0 sp held n t [v] = some y) : Cap v := by
  rcases Deep.open_slice ht h with ⟨h0, _⟩ | ⟨a, len, cap, m, n', D, Pl, h0, _, hl, _⟩
  · simp at h0
    subst h0
    intro p m c h
    cases h
    exact Nat.le_refl _
  · simp at h0
    subst h0
    intro p m c h
    cases h
    exact hl
/-- Two rows of one's own that do not meet, whatever they hold. -/
structure TwoR (s : Nat) (va : Value) (na : Nat) (vc : Value) (nc : Nat) (w : World) : Prop where
  a : ∃ ys, w.ownsRow s 47 3 va na ys
  c : ∃ ys, w.ownsRow s 47 3 vc nc ys
theorem TwoR.bel {s : Nat} {va vc : Value} {na nc : Nat} {w w' : World} (h : TwoR s va na vc nc w) (hB : Free.Bel w w') : TwoR s va na vc nc w' :=
  ⟨let ⟨ys, h1⟩ := h.a; ⟨ys, bel_row h1 hB⟩, let ⟨ys, h1⟩ := h.c; ⟨ys, bel_row h1 hB⟩⟩
theorem row_setG {s b o n size : Nat} {e : TypeId} {v x : Value} {xs : List Value} {w : World} (h : w.ownsRow s e size v n xs) : ∃ ys, (w.setCell ⟨b, o, none⟩ x).ownsRow s e size v n ys := by
  by_cases hb : v.ownBlock = some b
  · rcases h.2 with ⟨rfl, _⟩ | ⟨g, cap, cur, rfl, _⟩
    · simp [Value.ownBlock] at hb
    · simp [Value.ownBlock] at hb
      subst hb
      exact ⟨_, (h.stored o x).1⟩
  · exact ⟨xs, row_block h fun k hk hl => heap_setCell_other (by rintro rfl; exact hb hk)⟩
theorem TwoR.set {s b o : Nat} {va vc x : Value} {na nc : Nat} {w : World} (h : TwoR s va na vc nc w) : TwoR s va na vc nc (w.setCell ⟨b, o, none⟩ x) :=
  ⟨let ⟨ys, h1⟩ := h.a; row_setG h1, let ⟨ys, h1⟩ := h.c; row_setG h1⟩

set_option maxRecDepth 100000 in
set_option maxHeartbeats 16000000 in
theorem changesL_walk (h : Int) (xs : List Rk) (x1 x2 x3 id : Int) (u : Value) (w : World) (hT : TabR w) (hu : RL xs u w) (hz : NZ u) (hcap : Cap u) :
    Calls Tryd.prog 5 #[.agg #[.int .i64 h, u], .agg #[.int .i64 x1, .int .i64 x2, .int .i64 x3], .int .i64 id] w fun e w' => e = .returned (.bool true) ∧ Below w.heap.size w w' := by
  have HU := Lib.hid hu
  obtain ⟨p, cp, rfl, _, _⟩ := hu
  have KB : Free.Bel w ((w.alloc (.cells #[.int .i64 h, .slice p xs.length cp] 24)).alloc (.cells #[.int .i64 x1, .int .i64 x2, .int .i64 x3] 47)) := bt (belAlloc _ _) (belAlloc _ _)
  have FA : ∀ W, Free.Bel ((w.alloc (.cells #[.int .i64 h, .slice p xs.length cp] 24)).alloc (.cells #[.int .i64 x1, .int .i64 x2, .int .i64 x3] 47)) W → W.cell? ⟨w.heap.size, 0, none⟩ = some (.int .i64 h) ∧ W.cell? ⟨w.heap.size, 1, none⟩ = some (.slice p xs.length cp) ∧ W.cell? ⟨w.heap.size + 1, 0, none⟩ = some (.int .i64 x1) ∧ W.cell? ⟨w.heap.size + 1, 1, none⟩ = some (.int .i64 x2) ∧ W.cell? ⟨w.heap.size + 1, 2, none⟩ = some (.int .i64 x3) := fun W hW => ⟨keepsB hW (by simp [go_sem]), keepsB hW (by simp [go_sem]), keepsB hW (by simp [go_sem]), keepsB hW (by simp [go_sem]), keepsB hW (by simp [go_sem])⟩
  have KE : Free.Bel ((w.alloc (.cells #[.int .i64 h, .slice p xs.length cp] 24)).alloc (.cells #[.int .i64 x1, .int .i64 x2, .int .i64 x3] 47)) ((w.alloc (.cells #[.int .i64 h, .slice p xs.length cp] 24)).alloc (.cells #[.int .i64 x1, .int .i64 x2, .int .i64 x3] 47)) := Free.Bel.refl _
  have HTAB := Lib.hid hT
  have HNZ := Lib.hid hz
  have HCAP := Lib.hid hcap
  have HGR := Lib.hid (great_any h xs.length cp p ((w.alloc (.cells #[.int .i64 h, .slice p xs.length cp] 24)).alloc (.cells #[.int .i64 x1, .int .i64 x2, .int .i64 x3] 47)))
  clear hT hz hcap
  by_cases h10 : xs.length ≤ 10
  · have g0 : decide (10 < (xs.length : Int)) = false := decide_eq_false (by omega)
    rw [g0] at HGR
    have H10 := Lib.hid h10
    clear g0 h10
    go_enter Tryd.func5, Tryd.ntmps5
    go_wp2_with fail
    refine HGR.out.mono ?_
    rintro e w1 ⟨rfl, hB1⟩
    have K1 : Free.Bel ((w.alloc (.cells #[.int .i64 h, .slice p xs.length cp] 24)).alloc (.cells #[.int .i64 x1, .int .i64 x2, .int .i64 x3] 47)) w1 := hB1
    clear hB1 KE HGR
    go_wp2_with fail
    refine (twin_any h xs _ w1 (HU.out.keeps (bt KB K1)) HNZ.out (by have := H10.out; omega)).mono ?_
    rintro e w2 ⟨v1, rfl, hr1, hB2⟩
    obtain ⟨p1, c1, rfl⟩ := row_slice hr1
    have HNZ1 := Lib.hid (NZ.row hr1)
    have HCAP1 := Lib.hid (Cap.row hr1)
    have KA : Free.Bel w2 (w2.alloc (.cells #[.int .i64 h, .slice p1 xs.length c1] 24)) := belAlloc _ _
    have K3 : Free.Bel w (w2.alloc (.cells #[.int .i64 h, .slice p1 xs.length c1] 24)) := bt KB (bt K1 (bt hB2 KA))
    have hrl1 := RL.of_row (xs := xs) rfl (by have := H10.out; unfold maxLen; omega) (bel_row hr1 KA)
    have HR1 := Lib.hid (fun (W : World) (hW : Free.Bel (w2.alloc (.cells #[.int .i64 h, .slice p1 xs.length c1] 24)) W) => hrl1.keeps hW)
    have FB : ∀ W, Free.Bel (w2.alloc (.cells #[.int .i64 h, .slice p1 xs.length c1] 24)) W → W.cell? ⟨w.heap.size, 0, none⟩ = some (.int .i64 h) ∧ W.cell? ⟨w.heap.size, 1, none⟩ = some (.slice p xs.length cp) ∧ W.cell? ⟨w.heap.size + 1, 0, none⟩ = some (.int .i64 x1) ∧ W.cell? ⟨w.heap.size + 1, 1, none⟩ = some (.int .i64 x2) ∧ W.cell? ⟨w.heap.size + 1, 2, none⟩ = some (.int .i64 x3) ∧ W.cell? ⟨w2.heap.size, 0, none⟩ = some (.int .i64 h) ∧ W.cell? ⟨w2.heap.size, 1, none⟩ = some (.slice p1 xs.length c1) := fun W hW => by
      obtain ⟨z0, z1, z2, z3, z4⟩ := FA W (bt K1 (bt hB2 (bt KA hW)))
      exact ⟨z0, z1, z2, z3, z4, keepsB hW (by simp [go_sem]), keepsB hW (by simp [go_sem])⟩
    have KE := Free.Bel.refl (w2.alloc (.cells #[.int .i64 h, .slice p1 xs.length c1] 24))
    have hb3 : Hid (w2.heap.size < (w2.alloc (.cells #[.int .i64 h, .slice p1 xs.length c1] 24)).heap.size) := by show _ < _; simp
    clear hr1 hB2 K1 KA FA hrl1
    generalize hw3 : (w2.alloc (.cells #[.int .i64 h, .slice p1 xs.length c1] 24)) = w3 at *
    have HK3 := Lib.hid K3
    obtain ⟨EA, hEA⟩ : ∃ y, putE h xs (x1, x2, x3) = y := ⟨_, rfl⟩
    obtain ⟨HA, hHA⟩ : ∃ y, putH h xs (x1, x2, x3) = y := ⟨_, rfl⟩
    have HEA := Lib.hid hEA
    have HHA := Lib.hid hHA
    obtain ⟨LA, hLA⟩ : ∃ y, putL h xs (x1, x2, x3) = y := ⟨_, rfl⟩
    have hpp := putP_v h x1 x2 x3 xs _ w3 (HTAB.out.bel K3) (HR1.out w3 KE) HNZ1.out EA HA HEA HHA
    have hpr := fun (W : World) (hW : Free.Bel w W) => putR_v h x1 x2 x3 xs _ W (HU.out.keeps hW) HNZ.out HCAP.out EA HA HEA HHA
    have hLAl : LA.length ≤ 100 := by
      rw [← hLA, putL]
      split
      · have h9 := (insR_perm (x1, x2, x3) xs).length_eq; have := H10.out; simp at h9; omega
      · simp
    rw [hLA] at hpp hpr
    obtain ⟨r, hr⟩ := RickIs.some xs id
    have HRI := Lib.hid hr
    obtain ⟨EC, hEC⟩ : ∃ y, dropE h xs r = y := ⟨_, rfl⟩
    obtain ⟨HC, hHC⟩ : ∃ y, dropH h xs r = y := ⟨_, rfl⟩
    have HEC := Lib.hid hEC
    have HHC := Lib.hid hHC
    obtain ⟨LC, hLC⟩ : ∃ y, dropL h xs r = y := ⟨_, rfl⟩
    have hdp := fun (W : World) (hW : Free.Bel w3 W) => dropP_v h id xs _ W (HTAB.out.bel (bt K3 hW)) (HR1.out W hW) HNZ1.out (by have := H10.out; omega) r HRI EC HC HEC HHC
    have hdr := fun (W : World) (hW : Free.Bel w W) => dropR_v h id xs _ W (HU.out.keeps hW) HNZ.out HCAP.out (by have := H10.out; omega) r HRI EC HC HEC HHC
    have hLCl : LC.length ≤ 100 := by
      rw [← hLC, dropL]
      split
      · have := H10.out; simp; omega
      · simp
    rw [hLC] at hdp hdr
    have HPR := Lib.hid hpr
    have HDP := Lib.hid hdp
    have HDR := Lib.hid hdr
    have HPP := Lib.hid hpp
    have HLL := Lib.hid (And.intro hLAl hLCl)
    have HFB := Lib.hid FB
    clear hEA hHA hLA hpp hpr hr hEC hHC hLC hdp hdr hLAl hLCl K3
    go_wp2_with fail
    refine (HPP.out).mono ?_
    rintro e w4 ⟨⟨va, rfl, hra⟩, hB4⟩
    obtain ⟨pa, ca, rfl⟩ := row_slice hra
    have KA : Free.Bel w4 (w4.alloc (.cells #[.int .i64 HA, .slice pa LA.length ca] 24)) := belAlloc _ _
    have KS : Free.Bel w3 (w4.alloc (.cells #[.int .i64 HA, .slice pa LA.length ca] 24)) := bt hB4 KA
    have KC : Free.Bel w3 (w4.alloc (.cells #[.int .i64 HA, .slice pa LA.length ca] 24)) := KS
    have HROWa := Lib.hid (fun (W : World) (hW : Free.Bel (w4.alloc (.cells #[.int .i64 HA, .slice pa LA.length ca] 24)) W) => bel_row hra (bt KA hW))
    have HRLa := Lib.hid (fun (W : World) (hW : Free.Bel (w4.alloc (.cells #[.int .i64 HA, .slice pa LA.length ca] 24)) W) => RL.of_row (xs := LA) rfl (by have := HLL.out; unfold maxLen; omega) (HROWa.out W hW))
    have HGa : Hid (∀ g n c, Value.slice pa LA.length ca = .slice (some g) n c → g.block < (w4.alloc (.cells #[.int .i64 HA, .slice pa LA.length ca] 24)).heap.size) := by
      intro g n c he
      rcases hra.2 with ⟨h9, _⟩ | ⟨g2, cap, cur, h9, hb9, hg9, _⟩
      · rw [h9] at he; cases he
      · rw [h9] at he; cases he; have h8 := lt_of_heap hg9; simp; omega
    have FN : ∀ W, Free.Bel (w4.alloc (.cells #[.int .i64 HA, .slice pa LA.length ca] 24)) W → W.cell? ⟨w.heap.size, 0, none⟩ = some (.int .i64 h) ∧ W.cell? ⟨w.heap.size, 1, none⟩ = some (.slice p xs.length cp) ∧ W.cell? ⟨w.heap.size + 1, 0, none⟩ = some (.int .i64 x1) ∧ W.cell? ⟨w.heap.size + 1, 1, none⟩ = some (.int .i64 x2) ∧ W.cell? ⟨w.heap.size + 1, 2, none⟩ = some (.int .i64 x3) ∧ W.cell? ⟨w2.heap.size, 0, none⟩ = some (.int .i64 h) ∧ W.cell? ⟨w2.heap.size, 1, none⟩ = some (.slice p1 xs.length c1) ∧ W.cell? ⟨w4.heap.size, 0, none⟩ = some (.int .i64 HA) ∧ W.cell? ⟨w4.heap.size, 1, none⟩ = some (.slice pa LA.length ca) := fun W hW => by
      obtain ⟨z0, z1, z2, z3, z4, z5, z6⟩ := FB W (bt KS hW)
      exact ⟨z0, z1, z2, z3, z4, z5, z6, keepsB hW (by simp [go_sem]), keepsB hW (by simp [go_sem])⟩
    have KE := Free.Bel.refl (w4.alloc (.cells #[.int .i64 HA, .slice pa LA.length ca] 24))
    have hsz5 := KS.size
    clear hra hB4 KA KS FB
    generalize hw5 : (w4.alloc (.cells #[.int .i64 HA, .slice pa LA.length ca] 24)) = w5 at *
    have HSZ5 := Lib.hid hsz5
    clear hsz5
    have F5 := FN
    clear FN
    go_wp2_with fail
    refine (HPR.out w5 (bt HK3.out KC)).mono ?_
    rintro e w6 ⟨⟨vb, rfl, hrb⟩, hB6⟩
    have HRb := Lib.hid hrb
    obtain ⟨pb, cb, rfl, _, _⟩ := hrb
    have KA : Free.Bel w6 (w6.alloc (.cells #[.int .i64 HA, .slice pb LA.length cb] 24)) := belAlloc _ _
    have KS : Free.Bel w5 (w6.alloc (.cells #[.int .i64 HA, .slice pb LA.length cb] 24)) := bt hB6 KA
    have KC2 : Free.Bel w3 (w6.alloc (.cells #[.int .i64 HA, .slice pb LA.length cb] 24)) := bt KC KS
    clear KC
    have KC := KC2
    clear KC2
    have HRLb := Lib.hid (fun (W : World) (hW : Free.Bel (w6.alloc (.cells #[.int .i64 HA, .slice pb LA.length cb] 24)) W) => HRb.out.keeps (bt KA hW))
    have FN : ∀ W, Free.Bel (w6.alloc (.cells #[.int .i64 HA, .slice pb LA.length cb] 24)) W → W.cell? ⟨w.heap.size, 0, none⟩ = some (.int .i64 h) ∧ W.cell? ⟨w.heap.size, 1, none⟩ = some (.slice p xs.length cp) ∧ W.cell? ⟨w.heap.size + 1, 0, none⟩ = some (.int .i64 x1) ∧ W.cell? ⟨w.heap.size + 1, 1, none⟩ = some (.int .i64 x2) ∧ W.cell? ⟨w.heap.size + 1, 2, none⟩ = some (.int .i64 x3) ∧ W.cell? ⟨w2.heap.size, 0, none⟩ = some (.int .i64 h) ∧ W.cell? ⟨w2.heap.size, 1, none⟩ = some (.slice p1 xs.length c1) ∧ W.cell? ⟨w4.heap.size, 0, none⟩ = some (.int .i64 HA) ∧ W.cell? ⟨w4.heap.size, 1, none⟩ = some (.slice pa LA.length ca) ∧ W.cell? ⟨w6.heap.size, 0, none⟩ = some (.int .i64 HA) ∧ W.cell? ⟨w6.heap.size, 1, none⟩ = some (.slice pb LA.length cb) := fun W hW => by
      obtain ⟨z0, z1, z2, z3, z4, z5, z6, z7, z8⟩ := F5 W (bt KS hW)
      exact ⟨z0, z1, z2, z3, z4, z5, z6, z7, z8, keepsB hW (by simp [go_sem]), keepsB hW (by simp [go_sem])⟩
    have HRLaN := Lib.hid (fun (W : World) (hW : Free.Bel (w6.alloc (.cells #[.int .i64 HA, .slice pb LA.length cb] 24)) W) => HRLa.out W (bt KS hW))
    clear HRLa
    have HRLa := HRLaN
    clear HRLaN
    have HROWaN := Lib.hid (fun (W : World) (hW : Free.Bel (w6.alloc (.cells #[.int .i64 HA, .slice pb LA.length cb] 24)) W) => HROWa.out W (bt KS hW))
    clear HROWa
    have HROWa := HROWaN
    clear HROWaN
    have KE := Free.Bel.refl (w6.alloc (.cells #[.int .i64 HA, .slice pb LA.length cb] 24))
    have hsz7 := KS.size
    clear HRb hB6 KA KS F5
    generalize hw7 : (w6.alloc (.cells #[.int .i64 HA, .slice pb LA.length cb] 24)) = w7 at *
    have HSZ7 := Lib.hid hsz7
    clear hsz7
    have F7 := FN
    clear FN
    go_wp2_with fail
    refine (HDP.out w7 KC).mono ?_
    rintro e w8 ⟨⟨vc, rfl, hrc⟩, hB8⟩
    obtain ⟨pc, cc, rfl⟩ := row_slice hrc
    have KA : Free.Bel w8 (w8.alloc (.cells #[.int .i64 HC, .slice pc LC.length cc] 24)) := belAlloc _ _
    have KS : Free.Bel w7 (w8.alloc (.cells #[.int .i64 HC, .slice pc LC.length cc] 24)) := bt hB8 KA
    have KC2 : Free.Bel w3 (w8.alloc (.cells #[.int .i64 HC, .slice pc LC.length cc] 24)) := bt KC KS
    clear KC
    have KC := KC2
    clear KC2
    have HROWc := Lib.hid (fun (W : World) (hW : Free.Bel (w8.alloc (.cells #[.int .i64 HC, .slice pc LC.length cc] 24)) W) => bel_row hrc (bt KA hW))
    have HRLc := Lib.hid (fun (W : World) (hW : Free.Bel (w8.alloc (.cells #[.int .i64 HC, .slice pc LC.length cc] 24)) W) => RL.of_row (xs := LC) rfl (by have := HLL.out; unfold maxLen; omega) (HROWc.out W hW))
    have HGc : Hid (∀ g n c, Value.slice pc LC.length cc = .slice (some g) n c → g.block < (w8.alloc (.cells #[.int .i64 HC, .slice pc LC.length cc] 24)).heap.size) := by
      intro g n c he
      rcases hrc.2 with ⟨h9, _⟩ | ⟨g2, cap, cur, h9, hb9, hg9, _⟩
      · rw [h9] at he; cases he
      · rw [h9] at he; cases he; have h8 := lt_of_heap hg9; simp; omega
    have FN : ∀ W, Free.Bel (w8.alloc (.cells #[.int .i64 HC, .slice pc LC.length cc] 24)) W → W.cell? ⟨w.heap.size, 0, none⟩ = some (.int .i64 h) ∧ W.cell? ⟨w.heap.size, 1, none⟩ = some (.slice p xs.length cp) ∧ W.cell? ⟨w.heap.size + 1, 0, none⟩ = some (.int .i64 x1) ∧ W.cell? ⟨w.heap.size + 1, 1, none⟩ = some (.int .i64 x2) ∧ W.cell? ⟨w.heap.size + 1, 2, none⟩ = some (.int .i64 x3) ∧ W.cell? ⟨w2.heap.size, 0, none⟩ = some (.int .i64 h) ∧ W.cell? ⟨w2.heap.size, 1, none⟩ = some (.slice p1 xs.length c1) ∧ W.cell? ⟨w4.heap.size, 0, none⟩ = some (.int .i64 HA) ∧ W.cell? ⟨w4.heap.size, 1, none⟩ = some (.slice pa LA.length ca) ∧ W.cell? ⟨w6.heap.size, 0, none⟩ = some (.int .i64 HA) ∧ W.cell? ⟨w6.heap.size, 1, none⟩ = some (.slice pb LA.length cb) ∧ W.cell? ⟨w8.heap.size, 0, none⟩ = some (.int .i64 HC) ∧ W.cell? ⟨w8.heap.size, 1, none⟩ = some (.slice pc LC.length cc) := fun W hW => by
      obtain ⟨z0, z1, z2, z3, z4, z5, z6, z7, z8, z9, z10⟩ := F7 W (bt KS hW)
      exact ⟨z0, z1, z2, z3, z4, z5, z6, z7, z8, z9, z10, keepsB hW (by simp [go_sem]), keepsB hW (by simp [go_sem])⟩
    have HRLaN := Lib.hid (fun (W : World) (hW : Free.Bel (w8.alloc (.cells #[.int .i64 HC, .slice pc LC.length cc] 24)) W) => HRLa.out W (bt KS hW))
    clear HRLa
    have HRLa := HRLaN
    clear HRLaN
    have HRLbN := Lib.hid (fun (W : World) (hW : Free.Bel (w8.alloc (.cells #[.int .i64 HC, .slice pc LC.length cc] 24)) W) => HRLb.out W (bt KS hW))
    clear HRLb
    have HRLb := HRLbN
    clear HRLbN
    have HROWaN := Lib.hid (fun (W : World) (hW : Free.Bel (w8.alloc (.cells #[.int .i64 HC, .slice pc LC.length cc] 24)) W) => HROWa.out W (bt KS hW))
    clear HROWa
    have HROWa := HROWaN
    clear HROWaN
    have KE := Free.Bel.refl (w8.alloc (.cells #[.int .i64 HC, .slice pc LC.length cc] 24))
    have hsz9 := KS.size
    clear hrc hB8 KA KS F7
    generalize hw9 : (w8.alloc (.cells #[.int .i64 HC, .slice pc LC.length cc] 24)) = w9 at *
    have HSZ9 := Lib.hid hsz9
    clear hsz9
    have F9 := FN
    clear FN
    go_wp2_with fail
    refine (HDR.out w9 (bt HK3.out KC)).mono ?_
    rintro e w10 ⟨⟨vd, rfl, hrd⟩, hB10⟩
    have HRd := Lib.hid hrd
    obtain ⟨pd, cd, rfl, _, _⟩ := hrd
    have KA : Free.Bel w10 (w10.alloc (.cells #[.int .i64 HC, .slice pd LC.length cd] 24)) := belAlloc _ _
    have KS : Free.Bel w9 (w10.alloc (.cells #[.int .i64 HC, .slice pd LC.length cd] 24)) := bt hB10 KA
    have KC2 : Free.Bel w3 (w10.alloc (.cells #[.int .i64 HC, .slice pd LC.length cd] 24)) := bt KC KS
    clear KC
    have KC := KC2
    clear KC2
    have HRLd := Lib.hid (fun (W : World) (hW : Free.Bel (w10.alloc (.cells #[.int .i64 HC, .slice pd LC.length cd] 24)) W) => HRd.out.keeps (bt KA hW))
    have FN : ∀ W, Free.Bel (w10.alloc (.cells #[.int .i64 HC, .slice pd LC.length cd] 24)) W → W.cell? ⟨w.heap.size, 0, none⟩ = some (.int .i64 h) ∧ W.cell? ⟨w.heap.size, 1, none⟩ = some (.slice p xs.length cp) ∧ W.cell? ⟨w.heap.size + 1, 0, none⟩ = some (.int .i64 x1) ∧ W.cell? ⟨w.heap.size + 1, 1, none⟩ = some (.int .i64 x2) ∧ W.cell? ⟨w.heap.size + 1, 2, none⟩ = some (.int .i64 x3) ∧ W.cell? ⟨w2.heap.size, 0, none⟩ = some (.int .i64 h) ∧ W.cell? ⟨w2.heap.size, 1, none⟩ = some (.slice p1 xs.length c1) ∧ W.cell? ⟨w4.heap.size, 0, none⟩ = some (.int .i64 HA) ∧ W.cell? ⟨w4.heap.size, 1, none⟩ = some (.slice pa LA.length ca) ∧ W.cell? ⟨w6.heap.size, 0, none⟩ = some (.int .i64 HA) ∧ W.cell? ⟨w6.heap.size, 1, none⟩ = some (.slice pb LA.length cb) ∧ W.cell? ⟨w8.heap.size, 0, none⟩ = some (.int .i64 HC) ∧ W.cell? ⟨w8.heap.size, 1, none⟩ = some (.slice pc LC.length cc) ∧ W.cell? ⟨w10.heap.size, 0, none⟩ = some (.int .i64 HC) ∧ W.cell? ⟨w10.heap.size, 1, none⟩ = some (.slice pd LC.length cd) := fun W hW => by
      obtain ⟨z0, z1, z2, z3, z4, z5, z6, z7, z8, z9, z10, z11, z12⟩ := F9 W (bt KS hW)
      exact ⟨z0, z1, z2, z3, z4, z5, z6, z7, z8, z9, z10, z11, z12, keepsB hW (by simp [go_sem]), keepsB hW (by simp [go_sem])⟩
    have HRLaN := Lib.hid (fun (W : World) (hW : Free.Bel (w10.alloc (.cells #[.int .i64 HC, .slice pd LC.length cd] 24)) W) => HRLa.out W (bt KS hW))
    clear HRLa
    have HRLa := HRLaN
    clear HRLaN
    have HRLbN := Lib.hid (fun (W : World) (hW : Free.Bel (w10.alloc (.cells #[.int .i64 HC, .slice pd LC.length cd] 24)) W) => HRLb.out W (bt KS hW))
    clear HRLb
    have HRLb := HRLbN
    clear HRLbN
    have HRLcN := Lib.hid (fun (W : World) (hW : Free.Bel (w10.alloc (.cells #[.int .i64 HC, .slice pd LC.length cd] 24)) W) => HRLc.out W (bt KS hW))
    clear HRLc
    have HRLc := HRLcN
    clear HRLcN
    have HROWaN := Lib.hid (fun (W : World) (hW : Free.Bel (w10.alloc (.cells #[.int .i64 HC, .slice pd LC.length cd] 24)) W) => HROWa.out W (bt KS hW))
    clear HROWa
    have HROWa := HROWaN
    clear HROWaN
    have HROWcN := Lib.hid (fun (W : World) (hW : Free.Bel (w10.alloc (.cells #[.int .i64 HC, .slice pd LC.length cd] 24)) W) => HROWc.out W (bt KS hW))
    clear HROWc
    have HROWc := HROWcN
    clear HROWcN
    have KE := Free.Bel.refl (w10.alloc (.cells #[.int .i64 HC, .slice pd LC.length cd] 24))
    have hsz11 := KS.size
    clear HRd hB10 KA KS F9
    generalize hw11 : (w10.alloc (.cells #[.int .i64 HC, .slice pd LC.length cd] 24)) = w11 at *
    have HSZ11 := Lib.hid hsz11
    clear hsz11
    have F11 := FN
    clear FN
    go_wp2_with fail
    refine (sameW_any HA LA _ _ w11 (HRLa.out w11 KE) (HRLb.out w11 KE)).mono ?_
    rintro e w12 ⟨rfl, hB12⟩
    have K12 : Free.Bel w11 w12 := hB12
    clear hB12 KE
    go_wp2_with fail
    refine (sameW_any HC LC _ _ w12 (HRLc.out w12 K12) (HRLd.out w12 K12)).mono ?_
    rintro e w13 ⟨rfl, hB13⟩
    have K13 : Free.Bel w11 w13 := bt K12 hB13
    clear hB13 K12
    obtain ⟨s3, hs3⟩ : ∃ y, w3.heap.size = y := ⟨_, rfl⟩
    have hlt3 : w3.heap.size ≤ w5.heap.size ∧ w5.heap.size ≤ w7.heap.size ∧ w7.heap.size ≤ w9.heap.size ∧ w9.heap.size ≤ w11.heap.size := ⟨HSZ5.out, HSZ7.out, HSZ9.out, HSZ11.out⟩
    have HLT := Lib.hid hlt3
    have HTWO := Lib.hid (fun (W : World) (hW : Free.Bel w11 W) => TwoR.mk (s := w3.heap.size) (va := .slice pa LA.length ca) (vc := .slice pc LC.length cc) ⟨_, HROWa.out W hW⟩ ⟨_, row_mono (HROWc.out W hW) (Nat.le_trans hlt3.1 hlt3.2.1)⟩)
    clear hlt3 hs3
    have KA : Free.Bel w13 (w13.alloc (.cells #[.int .i64 HA, .slice pa LA.length ca, .int .i64 HC, .slice pc LC.length cc] 24)) := belAlloc _ _
    have hI0 : Free.Bel w3 (w13.alloc (.cells #[.int .i64 HA, .slice pa LA.length ca, .int .i64 HC, .slice pc LC.length cc] 24)) ∧ TwoR w3.heap.size (.slice pa LA.length ca) LA.length (.slice pc LC.length cc) LC.length (w13.alloc (.cells #[.int .i64 HA, .slice pa LA.length ca, .int .i64 HC, .slice pc LC.length cc] 24)) ∧ (w13.alloc (.cells #[.int .i64 HA, .slice pa LA.length ca, .int .i64 HC, .slice pc LC.length cc] 24)).heap[w13.heap.size]? = some (.cells #[.int .i64 HA, .slice pa LA.length ca, .int .i64 HC, .slice pc LC.length cc] 24 (0, 0)) := ⟨bt KC (bt K13 KA), HTWO.out _ (bt K13 KA), World.alloc_heap_new _ _⟩
    have HI0 := Lib.hid hI0
    have hgb : Hid ((∀ g n c, Value.slice pa LA.length ca = .slice (some g) n c → g.block < w13.heap.size) ∧ ∀ g n c, Value.slice pc LC.length cc = .slice (some g) n c → g.block < w13.heap.size) := by
      have h1 := HLT.out
      have h2 := K13.size
      refine ⟨fun g n c he => ?_, fun g n c he => ?_⟩
      · have := HGa.out g n c he
        omega
      · have := HGc.out g n c he
        omega
    have hls3 : Hid (w3.heap.size ≤ w13.heap.size) := by
      have h1 := HLT.out
      have h2 := K13.size
      show _ ≤ _
      omega
    clear hI0 KA KC
    go_wp2_with fail
    clear F11 K13
    go_loopw [70] (fun i wr => ∃ k : Nat, k ≤ 2 ∧ i = .int .i64 k ∧ Free.Bel w3 wr ∧ TwoR w3.heap.size (.slice pa LA.length ca) LA.length (.slice pc LC.length cc) LC.length wr ∧ wr.heap[w13.heap.size]? = some (.cells #[.int .i64 HA, .slice pa LA.length ca, .int .i64 HC, .slice pc LC.length cc] 24 (0, 0))) (fun i _ => 2 - (intOf i).toNat)
    case atStart => exact ⟨0, by omega, rfl, HI0.out⟩
    case round =>
      obtain ⟨k, hk, rfl, hB, hTwo, hlit⟩ := hrel
      by_cases hlt : k < 2
      · have hklt : (k : Int) < 2 := by omega
        obtain ⟨Hz, pz, nz, cz, y0, y1, hzz⟩ : ∃ Hz pz nz cz, wr.cell? ⟨w13.heap.size, k * 2, none⟩ = some (.int .i64 Hz) ∧ wr.cell? ⟨w13.heap.size, k * 2 + 1, none⟩ = some (.slice pz nz cz) ∧ nz ≤ 100 ∧ (∀ g n c, Value.slice pz nz cz = .slice (some g) n c → g.block < w13.heap.size) ∧ ∀ W, TwoR w3.heap.size (.slice pa LA.length ca) LA.length (.slice pc LC.length cc) LC.length W → ∃ ys, W.ownsRow w3.heap.size 47 3 (.slice pz nz cz) nz ys := by
          rcases (show k = 0 ∨ k = 1 by omega) with rfl | rfl
          · exact ⟨HA, pa, LA.length, ca, cell_of_heap hlit rfl, cell_of_heap hlit rfl, HLL.out.1, hgb.out.1, fun W h => h.a⟩
          · exact ⟨HC, pc, LC.length, cc, cell_of_heap hlit rfl, cell_of_heap hlit rfl, HLL.out.2, hgb.out.2, fun W h => h.c⟩
        have HZZ := Lib.hid hzz
        have KA : Free.Bel wr (wr.alloc (.cells #[.int .i64 Hz, .slice pz nz cz] 24)) := belAlloc _ _
        have hI1 : Free.Bel w3 (wr.alloc (.cells #[.int .i64 Hz, .slice pz nz cz] 24)) ∧ TwoR w3.heap.size (.slice pa LA.length ca) LA.length (.slice pc LC.length cc) LC.length (wr.alloc (.cells #[.int .i64 Hz, .slice pz nz cz] 24)) ∧ (wr.alloc (.cells #[.int .i64 Hz, .slice pz nz cz] 24)).heap[w13.heap.size]? = some (.cells #[.int .i64 HA, .slice pa LA.length ca, .int .i64 HC, .slice pc LC.length cc] 24 (0, 0)) ∧ (wr.alloc (.cells #[.int .i64 Hz, .slice pz nz cz] 24)).heap[wr.heap.size]? = some (.cells #[.int .i64 Hz, .slice pz nz cz] 24 (0, 0)) := ⟨bt hB KA, hTwo.bel KA, (KA.block _ (lt_of_heap hlit)).trans hlit, World.alloc_heap_new _ _⟩
        have HI1 := Lib.hid hI1
        have hzb : Hid (w13.heap.size < wr.heap.size) := lt_of_heap hlit
        clear hI1 KA hzz hlit hTwo hB
        go_wp2_with fail
        obtain ⟨wo, hwo⟩ : ∃ x, x = wr := ⟨_, rfl⟩
        subst hwo
        clear y0 y1
        go_loopw [77] (fun i wr => ∃ j : Nat, j ≤ nz ∧ i = .int .i64 j ∧ Free.Bel w3 wr ∧ TwoR w3.heap.size (.slice pa LA.length ca) LA.length (.slice pc LC.length cc) LC.length wr ∧ wr.heap[w13.heap.size]? = some (.cells #[.int .i64 HA, .slice pa LA.length ca, .int .i64 HC, .slice pc LC.length cc] 24 (0, 0)) ∧ wr.heap[wo.heap.size]? = some (.cells #[.int .i64 Hz, .slice pz nz cz] 24 (0, 0))) (fun i _ => nz - (intOf i).toNat)
        case atStart => exact ⟨0, Nat.zero_le _, rfl, HI1.out⟩
        case round =>
          obtain ⟨j, hj, rfl, hB, hTwo, hlit, hbx⟩ := hrel
          have z1 := cell_of_heap (o := 1) hbx rfl
          by_cases hjt : j < nz
          · have hjlt : (j : Int) < nz := by omega
            obtain ⟨ys, hrow⟩ := HZZ.out.2.2 wr hTwo
            obtain ⟨g, hg1, hg2⟩ : ∃ g, pz = some ⟨g, 0, none⟩ ∧ w3.heap.size ≤ g := by
              rcases hrow.2 with ⟨_, h8⟩ | ⟨g, cap, cur, h8, hb8, _⟩
              · omega
              · simp only [Value.slice.injEq] at h8
                exact ⟨g, h8.1, hb8⟩
            subst hg1
            have hg3 := HZZ.out.2.1 _ _ _ rfl
            have hjl : j * 3 + 1 < ys.length := by rw [hrow.1]; omega
            obtain ⟨yy, c1⟩ : ∃ yy, wr.cell? ⟨g, j * 3 + 1, none⟩ = some yy := ⟨_, (hrow.cellAt (j * 3 + 1) (by omega)).trans (List.getElem?_eq_getElem hjl)⟩
            have c2 := hrow.frozenAt (j * 3 + 1)
            have HBB := Lib.hid (And.intro hB (And.intro hTwo (And.intro hlit hbx)))
            have HGG := Lib.hid (And.intro hg2 hg3)
            have hn100 := HZZ.out.1
            clear hrow hB hTwo hlit hbx hjl hg2 hg3
            go_wp2_with fail
            go_roundw
            case rel =>
              have hg2 := HGG.out.1
              have hg3 : g < w13.heap.size := HGG.out.2
              have hzb2 : w13.heap.size < wo.heap.size := hzb.out
              exact ⟨j + 1, by omega, by go_num, HBB.out.1.setCell (by simpa using hg2) _, HBB.out.2.1.set, heap_other HBB.out.2.2.1 (by simp; omega), heap_other HBB.out.2.2.2 (by simp; omega)⟩
            case measure => simp [intOf]; omega
          · obtain rfl : j = nz := by omega
            have HBB := Lib.hid (And.intro hB (And.intro hTwo hlit))
            clear hB hTwo hlit hbx
            go_wp2_with fail
            go_roundw
            case rel => exact ⟨k + 1, by omega, by go_num, HBB.out⟩
            case measure => simp [intOf]; omega
      · obtain rfl : k = 2 := by omega
        obtain ⟨y0, y1, y2, y3, y4, y5, y6⟩ := HFB.out wr hB
        have HB := Lib.hid hB
        clear hB hTwo hlit
        go_wp2_with fail
        refine (sameW_any h xs _ _ wr (HR1.out wr HB.out) (HU.out.keeps (bt HK3.out HB.out))).mono ?_
        rintro e w16 ⟨rfl, hB16⟩
        go_wp2_with fail
        go_ret
        exact ⟨rfl, bt HK3.out (bt HB.out hB16)⟩
  · have g0 : decide (10 < (xs.length : Int)) = true := decide_eq_true (by omega)
    rw [g0] at HGR
    clear g0
    go_enter Tryd.func5, Tryd.ntmps5
    go_wp2_with fail
    refine HGR.out.mono ?_
    rintro e w1 ⟨rfl, hB1⟩
    go_wp2_with fail
    go_ret
    exact ⟨rfl, bt KB hB1⟩
end Go.Proofs.YtknpglgpkkhhiaaDoor

/- For every input the law RoundChanges returns true, and its arguments read behind the call as they read before; what a watch is asked lies in the table as the program's text lays it (tied). Condition: that table. -/
namespace Go.Proofs.YtknpglgpkkhhiaaDoor.lawRoundChanges
open Go Go.ChangeShapes Go.WideShapes Go.ChangeAt Go.RowKit
set_option linter.unusedVariables false
set_option linter.unusedSimpArgs false

set_option maxRecDepth 100000 in
theorem contract (H : Type) (enc : TypeId × Value → H) (W : World) (base : Nat) (args : Array Value) (ds gs : List (DataW H)) (before : List MemPlace)
    (hval : ∀ (j : Nat) t v, Tryd.f5.params[j]? = some t → args[j]? = some v → Value.okWide Tryd.prog W .any base t v)
    (hW : DataW.Whole enc Tryd.prog Tryd.f5.params.toList Rows.roundChangesSpec.vars false W args.toList ds gs before) (hL : laidMetH Tryd.prog Rows.roundChangesRow.laid W) :
    Calls Tryd.prog 5 args W fun e W' => ∃ v, e = .returned v ∧ Rows.roundChangesSpec.post enc Tryd.prog Tryd.f5 false true false false W args v W' := by
  have hW' := hW
  obtain ⟨p, q, hA0, hV, rfl, hfz, hnd⟩ := hW
  have hA : DataW.TrodAll enc Tryd.prog W 0 (fun _ => true) true Tryd.f5.params.toList args.toList ds p := hA0
  have hAk := hA
  rw [Tryd.params5] at hA hval
  obtain ⟨v0, vs0, d0, ds0, p0, q0, hargs, rfl, rfl, h0, r0⟩ := trodAll_cons hA
  obtain ⟨v1, vs1, d1, ds1, p1, q1, rfl, rfl, rfl, h1, r1⟩ := trodAll_cons r0
  obtain ⟨v2, vs2, d2, ds2, p2, q2, rfl, rfl, rfl, h2, r2⟩ := trodAll_cons r1
  obtain ⟨rfl, rfl, rfl⟩ := trodAll_nil r2
  obtain rfl : args = #[v0, v1, v2] := by cases args; simp_all
  obtain ⟨rfl, rfl⟩ := trodVars_none hV
  have hlt : ∀ x ∈ p0 ++ (p1 ++ (p2 ++ ([]))), x.block < W.heap.size := fun x hx => by
    have := hW'.lt x (by simpa using hx)
    simpa using this
  obtain ⟨a0, b0, y0, z0, n0, rfl, _, _, g0, k0⟩ := Joins.open_agg2 Tryd.underlying24 (by kernel_rfl) (by kernel_rfl) (hval 0 24 _ rfl rfl) h0
  obtain ⟨h, ea0, _, _⟩ := DataW.trod_int Tryd.underlying3 g0
  simp at ea0
  subst ea0
  have hcp0 := slice_open_cap Tryd.underlying22 k0
  obtain ⟨xs, pp0, cap0, eb0, hrl0, hnz0⟩ := ricks_open Tryd.underlying22 Tryd.underlying47 (by kernel_rfl) rfl rfl rfl (by kernel_rfl) (by kernel_rfl) (by kernel_rfl) Tryd.underlying3 Tryd.underlying3 Tryd.underlying3 k0
  obtain ⟨x1, x2, x3, rfl⟩ := shape3 Tryd.underlying47 (by kernel_rfl) (by kernel_rfl) Tryd.underlying3 Tryd.underlying3 Tryd.underlying3 (hval 1 47 _ rfl rfl) h1
  obtain ⟨id, rfl, _, hwf2⟩ := open_int Tryd.underlying3 (hval 2 3 _ rfl rfl) h2
  refine (changesL_walk h xs x1 x2 x3 id _ W (Tab.of_laid hL) hrl0 hnz0 hcp0).mono fun e W' ⟨he, hg⟩ => ?_
  subst he
  refine ⟨_, rfl, _, _, _, [], p0 ++ (p1 ++ (p2 ++ ([]))), [], hW', ?_, ?_, ?_, hg.frame _, fun h => by cases h⟩
  · exact trodAll_cons_mk (shut_bool Tryd.underlying4 true) trodAll_mk0
  · exact Law.args_below Tab.laidOut (by kernel_rfl) hg hAk hlt
  · rfl

set_option maxRecDepth 100000 in
theorem lifted (os : Os) (started : os.Started) (H : Type) (enc : TypeId × Value → H) :
    ReturnsInHanded {} Tryd.checked os 5 .any (fun w args => (Rows.roundChangesSpec.pre enc Tryd.prog Tryd.f5 [] false w args ∧ laidMetH Tryd.prog Rows.roundChangesRow.laid w) ∧ sizedMet enc Tryd.prog Tryd.f5 (OpenSpec.ofChange Rows.roundChangesSpec) false w args) (Rows.roundChangesSpec.post enc Tryd.prog Tryd.f5 false true false false) := by
  refine returnsInHanded_of_change_and (C := Tryd.checked) (X := fun w _ => laidMetH Tryd.prog Rows.roundChangesRow.laid w) (fun _ _ _ hh h => h.of_heap hh) Tab.own started (by kernel_rfl) Tryd.func5
    (ChangeSpec.witness_shaped (enc := enc) (C := Tryd.checked) (os := os) (X := fun w _ => laidMetH Tryd.prog Rows.roundChangesRow.laid w) false (World.doorLaid Tryd.prog 17 os) #[.agg #[.int .i64 0, .slice none 0 0], .agg #[.int .i64 0, .int .i64 0, .int .i64 0], .int .i64 0] 8 rfl (World.shaped_of_RefB (by kernel_rfl) (by kernel_rfl)) (by kernel_rfl) (by kernel_rfl) (by kernel_rfl) (Tab.door_met os _)) ?_
  intro W base args ds gs before hval hW _ _ hL _
  exact contract H enc W base args ds gs before hval hW hL

theorem said : Rows.RoundChangesSaid :=
  OpenClaim.holds_of_wide 5 Tryd.f5 rfl rfl rfl rfl rfl rfl rfl ⟨rfl, rfl, rfl, rfl, rfl⟩ rfl rfl rfl rfl rfl (by kernel_rfl) Tryd.func5 (by kernel_rfl)
    (of_decide_eq_true (by kernel_rfl)) (by unfold Func.isWrapper; first | (rw [if_pos (by decide +kernel)]; kernel_rfl) | (rw [if_neg (by decide +kernel)]; exact ⟨rfl, rfl⟩))
    (fun os started H enc _ => lifted os started H enc)

theorem plain (f : FuncId) (fn : Func) (hf : Tryd.pinned.checked.prog.funcNamed "oilcake/oilcakelaw07.RoundChanges" = some f) (hfn : Tryd.pinned.checked.prog.funcs[f]? = some fn) :
    false = Tryd.pinned.checked.prog.looks [] ∧ ∀ (j : Nat) t, fn.params[j]? = some t → Tryd.pinned.checked.prog.wantsStandIn t = false := by
  obtain rfl : f = 5 := Option.some.inj ((show Tryd.prog.funcNamed "oilcake/oilcakelaw07.RoundChanges" = some 5 by kernel_rfl).symm.trans hf) |>.symm
  obtain rfl : fn = Tryd.f5 := (Option.some.inj (Tryd.func5.symm.trans hfn)).symm
  refine ⟨by kernel_rfl, fun j t ht => ?_⟩
  rw [Tryd.params5] at ht
  have hm := Array.mem_of_getElem? ht
  have hall : (Tryd.f5.params.toList.all fun u => !Tryd.prog.wantsStandIn u) = true := by kernel_rfl
  rw [Tryd.params5] at hall
  exact (show Tryd.prog.wantsStandIn t = false by simpa using List.all_eq_true.1 hall t (by simpa using hm))

theorem card : Rows.RoundChangesCardSaid :=
  Claim7.holds_tied_plain_at .later [] _ _ _ _ said (fun _ h => by cases h) (by kernel_rfl) (fun _ h => by cases h) roundChanges_row_tie rfl ⟨rfl, rfl⟩ (by kernel_rfl) rfl plain (by kernel_rfl)
#print axioms card
end Go.Proofs.YtknpglgpkkhhiaaDoor.lawRoundChanges

