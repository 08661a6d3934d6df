/- For every input the law RoundPlays returns true, and its arguments read behind the call as they read before; what a watch is asked lies in the table as the program's text lays it (tied). Condition: that table. -/
/- RoundPlays: days that are played. -/
import Derived.Test.YtknpglgpkkhhiaaDoorB5
namespace Go.Proofs.YtknpglgpkkhhiaaDoor
set_option linter.unusedSimpArgs false
set_option linter.unusedVariables false
open Go.RowKit Go.Proofs.YtknpglgpkkhhiaaDoor.Free2

theorem greatD_false {ds : List (List Int)} (h : greatD ds = false) : ds.length ≤ 80 ∧ ∀ d ∈ ds, d.length ≤ 10 := by
  simp [greatD] at h
  refine ⟨by omega, fun d hd => ?_⟩
  have := h.2 d hd
  omega

set_option maxRecDepth 100000 in
set_option maxHeartbeats 16000000 in
theorem playsL_walk (h : Int) (xs : List Rk) (ds : List (List Int)) (u v : Value) (w : World) (hT : TabR w) (hu : RL xs u w) (hz : NZ u) (hv : DZ ds v w) :
    Calls Tryd.prog 3 #[.agg #[.int .i64 h, u], v] w fun e w' => e = .returned (.bool true) ∧ Below w.heap.size w w' := by
  have HU := Lib.hid hu
  have HV := Lib.hid hv
  obtain ⟨p, cp, rfl, _, _⟩ := hu
  obtain ⟨q, cq, rfl, hm, _, _⟩ := hv
  have KB : Free.Bel w (w.alloc (.cells #[.int .i64 h, .slice p xs.length cp] 24)) := belAlloc _ _
  have FA : ∀ W, Free.Bel (w.alloc (.cells #[.int .i64 h, .slice p xs.length cp] 24)) W → W.cell? ⟨w.heap.size, 0, none⟩ = some (.int .i64 h) ∧ W.cell? ⟨w.heap.size, 1, none⟩ = some (.slice p xs.length cp) := fun W hW => ⟨keepsB hW (by simp [go_sem]), keepsB hW (by simp [go_sem])⟩
  have KE : Free.Bel (w.alloc (.cells #[.int .i64 h, .slice p xs.length cp] 24)) (w.alloc (.cells #[.int .i64 h, .slice p xs.length cp] 24)) := Free.Bel.refl _
  have HTAB := Lib.hid hT
  have HNZ := Lib.hid hz
  have HGR := Lib.hid (great_any h xs.length cp p (w.alloc (.cells #[.int .i64 h, .slice p xs.length cp] 24)))
  clear hT hz
  by_cases h10 : xs.length ≤ 10
  · have g0 : decide (10 < (xs.length : Int)) = false := decide_eq_false (by omega)
    rw [g0] at HGR
    obtain ⟨gd, hgd⟩ : ∃ r, greatD ds = r := ⟨_, rfl⟩
    have HGD := Lib.hid hgd
    cases gd
    · obtain ⟨hd80, hd10⟩ := greatD_false hgd
      have HD10 := Lib.hid hd10
      have HD80 := Lib.hid hd80
      clear hgd hd10 hd80 g0
      go_enter Tryd.func3, Tryd.ntmps3
      go_wp2_with fail
      refine HGR.out.mono ?_
      rintro e w1 ⟨rfl, hB1⟩
      have K1 : Free.Bel (w.alloc (.cells #[.int .i64 h, .slice p xs.length cp] 24)) w1 := hB1
      clear hB1 KE HGR
      go_wp2_with fail
      refine (greatD_any ds _ w1 (HV.out.dl.keeps (bt KB K1)) false HGD).mono ?_
      rintro e w2 ⟨rfl, hB2⟩
      have K2 : Free.Bel (w.alloc (.cells #[.int .i64 h, .slice p xs.length cp] 24)) w2 := bt K1 hB2
      clear hB2 K1
      go_wp2_with fail
      refine (twin_any h xs _ w2 (HU.out.keeps (bt KB K2)) HNZ.out (by omega)).mono ?_
      rintro e w3 ⟨v1, rfl, hr1, hB3⟩
      obtain ⟨p1, c1, rfl⟩ := row_slice hr1
      have K3 : Free.Bel (w.alloc (.cells #[.int .i64 h, .slice p xs.length cp] 24)) w3 := bt K2 hB3
      have HNZ1 := Lib.hid (NZ.row hr1)
      have HR1 := Lib.hid (RL.of_row (xs := xs) rfl (by unfold maxLen; omega) hr1)
      clear hB3 K2 hr1
      go_wp2_with fail
      refine (twinD_any ds _ w3 (HV.out.keeps (bt KB K3)) HD80.out HD10.out).mono ?_
      rintro e w4 ⟨⟨v4, rfl, hdl⟩, hB4⟩
      have HDL := Lib.hid hdl
      obtain ⟨q4, c4, rfl, _, _⟩ := hdl
      have hr4 := Lib.hid (HR1.out.keeps hB4)
      have K4 : Free.Bel (w.alloc (.cells #[.int .i64 h, .slice p xs.length cp] 24)) w4 := bt K3 hB4
      have KA : Free.Bel w4 (w4.alloc (.cells #[.int .i64 h, .slice p1 xs.length c1] 24)) := belAlloc _ _
      have FB : ∀ W, Free.Bel (w4.alloc (.cells #[.int .i64 h, .slice p1 xs.length c1] 24)) W → W.cell? ⟨w.heap.size, 0, none⟩ = some (.int .i64 h) ∧ W.cell? ⟨w.heap.size, 1, none⟩ = some (.slice p xs.length cp) ∧ W.cell? ⟨w4.heap.size, 0, none⟩ = some (.int .i64 h) ∧ W.cell? ⟨w4.heap.size, 1, none⟩ = some (.slice p1 xs.length c1) := fun W hW =>
        ⟨(FA W (bt K4 (bt KA hW))).1, (FA W (bt K4 (bt KA hW))).2, keepsB hW (by simp [go_sem]), keepsB hW (by simp [go_sem])⟩
      have K5 : Free.Bel w (w4.alloc (.cells #[.int .i64 h, .slice p1 xs.length c1] 24)) := bt KB (bt K4 KA)
      have H5 := Lib.hid (And.intro (HDL.out.keeps KA) (hr4.out.keeps KA))
      have hb5 : Hid (w4.heap.size < (w4.alloc (.cells #[.int .i64 h, .slice p1 xs.length c1] 24)).heap.size) := by show _ < _; simp
      have KE := Free.Bel.refl (w4.alloc (.cells #[.int .i64 h, .slice p1 xs.length c1] 24))
      have HHOT := Lib.hid (hotP_any h xs ds _ _ _ (HTAB.out.bel K5) H5.out.2 H5.out.1 (by have := HD80.out; omega))
      clear K4 K3 KA hB4 FA HR1
      generalize hw5 : (w4.alloc (.cells #[.int .i64 h, .slice p1 xs.length c1] 24)) = w5 at *
      obtain ⟨EC, hEC⟩ : ∃ x, askE h xs ds = x := ⟨_, rfl⟩
      have HEC := Lib.hid hEC
      obtain ⟨HO, hHO⟩ : ∃ x, hotOut h xs ds = x := ⟨_, rfl⟩
      rw [hEC, hHO] at HHOT
      have HHO := Lib.hid hHO
      clear hEC hHO
      go_wp2_with fail
      refine HHOT.out.mono ?_
      rintro e w6 ⟨⟨v6, rfl, hp6⟩, hB6⟩
      have K6 : Free.Bel w5 w6 := hB6
      have HP6 := Lib.hid hp6
      obtain ⟨p6, c6, rfl, _, _⟩ := hp6
      clear hB6 KE HHOT
      go_wp2_with fail
      have hcon := hotRef_v h xs ds _ _ w6 (HU.out.keeps (bt K5 K6)) HNZ.out (HV.out.dl.keeps (bt K5 K6)) EC HEC
      rw [HHO.out] at hcon
      refine hcon.mono ?_
      clear hcon
      rintro e w7 ⟨⟨v7, rfl, hp7⟩, hB7⟩
      have K7 : Free.Bel w5 w7 := bt K6 hB7
      have HPP := Lib.hid (And.intro (HP6.out.keeps hB7) hp7)
      obtain ⟨p7, c7, rfl, _, _⟩ := hp7
      clear hB7 K6 HP6
      go_wp2_with fail
      have hcon := aftP_any h xs ds _ _ w7 (HTAB.out.bel (bt K5 K7)) (H5.out.2.keeps K7) HNZ1.out (H5.out.1.keeps K7) (by have := HD80.out; omega)
      have hcon2 := fun W hW => aftRef_v h xs ds _ _ W (HU.out.keeps hW) HNZ.out (HV.out.dl.keeps hW)
      obtain ⟨E, hE⟩ : ∃ x, aftE h xs ds = x := ⟨_, rfl⟩
      obtain ⟨Hh, hHh⟩ : ∃ x, aftH h xs ds = x := ⟨_, rfl⟩
      obtain ⟨LL, hLL⟩ : ∃ x, aftL h xs ds = x := ⟨_, rfl⟩
      have hLl : LL.length ≤ 10 := by
        rw [← hLL, aftL]
        split
        · rw [endR_length]; exact h10
        · simp
      rw [hE, hHh, hLL] at hcon hcon2
      have HC2 := Lib.hid hcon2
      clear hcon2 hE hHh hLL
      refine hcon.mono ?_
      clear hcon
      rintro e w8 ⟨⟨va, rfl, hra⟩, hB8⟩
      obtain ⟨pa, ca, rfl⟩ := row_slice hra
      have KA : Free.Bel w8 (w8.alloc (.cells #[.int .i64 Hh, .slice pa LL.length ca] 24)) := belAlloc _ _
      have K9 : Free.Bel w5 (w8.alloc (.cells #[.int .i64 Hh, .slice pa LL.length ca] 24)) := bt K7 (bt hB8 KA)
      have K79 : Free.Bel w7 (w8.alloc (.cells #[.int .i64 Hh, .slice pa LL.length ca] 24)) := bt hB8 KA
      have H9 := Lib.hid (bel_row hra KA)
      have HRA := Lib.hid hra
      have hbx : (w8.alloc (.cells #[.int .i64 Hh, .slice pa LL.length ca] 24)).heap[w8.heap.size]? = some (.cells #[.int .i64 Hh, .slice pa LL.length ca] 24 (0, 0)) := World.alloc_heap_new _ _
      have HBX := Lib.hid hbx
      have KE := Free.Bel.refl (w8.alloc (.cells #[.int .i64 Hh, .slice pa LL.length ca] 24))
      have FC : ∀ W, Free.Bel (w8.alloc (.cells #[.int .i64 Hh, .slice pa LL.length ca] 24)) W → W.cell? ⟨w.heap.size, 0, none⟩ = some (.int .i64 h) ∧ W.cell? ⟨w.heap.size, 1, none⟩ = some (.slice p xs.length cp) ∧ W.cell? ⟨w4.heap.size, 0, none⟩ = some (.int .i64 h) ∧ W.cell? ⟨w4.heap.size, 1, none⟩ = some (.slice p1 xs.length c1) ∧ W.cell? ⟨w8.heap.size, 0, none⟩ = some (.int .i64 Hh) ∧ W.cell? ⟨w8.heap.size, 1, none⟩ = some (.slice pa LL.length ca) := fun W hW => by
        obtain ⟨z0, z1, z2, z3⟩ := FB W (bt K9 hW)
        exact ⟨z0, z1, z2, z3, keepsB hW (cell_of_heap hbx rfl), keepsB hW (cell_of_heap hbx rfl)⟩
      have hw79 := K7.size
      have HFB := Lib.hid FB
      clear hra hB8 KA hbx FB
      generalize hw9 : (w8.alloc (.cells #[.int .i64 Hh, .slice pa LL.length ca] 24)) = w9 at *
      go_wp2_with fail
      refine (HC2.out w9 (bt K5 K9)).mono ?_
      rintro e w10 ⟨⟨vb, rfl, hrb⟩, hB10⟩
      have HRB := Lib.hid hrb
      obtain ⟨pb, cb, rfl, _, _⟩ := hrb
      have KA : Free.Bel w10 (w10.alloc (.cells #[.int .i64 Hh, .slice pb LL.length cb] 24)) := belAlloc _ _
      have K11 : Free.Bel w9 (w10.alloc (.cells #[.int .i64 Hh, .slice pb LL.length cb] 24)) := bt hB10 KA
      have HRB11 := Lib.hid (HRB.out.keeps KA)
      have FD : ∀ W, Free.Bel (w10.alloc (.cells #[.int .i64 Hh, .slice pb LL.length cb] 24)) W → (W.cell? ⟨w.heap.size, 0, none⟩ = some (.int .i64 h) ∧ W.cell? ⟨w.heap.size, 1, none⟩ = some (.slice p xs.length cp) ∧ W.cell? ⟨w4.heap.size, 0, none⟩ = some (.int .i64 h) ∧ W.cell? ⟨w4.heap.size, 1, none⟩ = some (.slice p1 xs.length c1) ∧ W.cell? ⟨w8.heap.size, 0, none⟩ = some (.int .i64 Hh) ∧ W.cell? ⟨w8.heap.size, 1, none⟩ = some (.slice pa LL.length ca)) ∧ W.cell? ⟨w10.heap.size, 0, none⟩ = some (.int .i64 Hh) ∧ W.cell? ⟨w10.heap.size, 1, none⟩ = some (.slice pb LL.length cb) := fun W hW => ⟨FC W (bt K11 hW), keepsB hW (by simp [go_sem]), keepsB hW (by simp [go_sem])⟩
      have KE2 := Free.Bel.refl (w10.alloc (.cells #[.int .i64 Hh, .slice pb LL.length cb] 24))
      clear hB10 KA HRB HC2 KE FC
      generalize hw11 : (w10.alloc (.cells #[.int .i64 Hh, .slice pb LL.length cb] 24)) = w11 at *
      obtain ⟨RC, hRC⟩ : ∃ x, repE h xs ds = x := ⟨_, rfl⟩
      obtain ⟨RB, hRB⟩ : ∃ x, repB h xs ds = x := ⟨_, rfl⟩
      have HRCB := Lib.hid (And.intro hRC hRB)
      clear hRC hRB
      go_wp2_with fail
      refine (repP_v h xs ds _ _ w11 (HTAB.out.bel (bt K5 (bt K9 K11))) (H5.out.2.keeps (bt K9 K11)) HNZ1.out (H5.out.1.keeps (bt K9 K11)) (by have := HD80.out; omega) RC RB HRCB).mono ?_
      rintro e w12 ⟨rfl, hB12⟩
      have K12 : Free.Bel w11 w12 := hB12
      clear hB12 KE2
      go_wp2_with fail
      refine (repRef_v h xs ds _ _ w12 (HU.out.keeps (bt K5 (bt K9 (bt K11 K12)))) HNZ.out (HV.out.dl.keeps (bt K5 (bt K9 (bt K11 K12)))) RC RB HRCB).mono ?_
      rintro e w13 ⟨rfl, hB13⟩
      have K13 : Free.Bel w11 w13 := bt K12 hB13
      have H13 := Lib.hid (And.intro (HPP.out.1.keeps (bt K79 (bt K11 K13))) (HPP.out.2.keeps (bt K79 (bt K11 K13))))
      clear hB13 K12
      go_wp2_with fail
      refine (sameH_any HO _ _ w13 H13.out.1 H13.out.2).mono ?_
      rintro e w14 ⟨rfl, hB14⟩
      have K14 : Free.Bel w11 w14 := bt K13 hB14
      have hrl14 := RL.of_row (xs := LL) rfl (by unfold maxLen; omega) (bel_row H9.out (bt K11 K14))
      have H14 := Lib.hid (And.intro hrl14 (HRB11.out.keeps K14))
      clear hB14 K13 hrl14
      go_wp2_with fail
      refine (sameW_any Hh LL _ _ w14 H14.out.1 H14.out.2).mono ?_
      rintro e w15 ⟨rfl, hB15⟩
      have K15 : Free.Bel w11 w15 := bt K14 hB15
      clear hB15 K14
      go_wp2_with fail
      have hI15 : Below w7.heap.size w7 w15 ∧ w15.heap[w8.heap.size]? = some (.cells #[.int .i64 Hh, .slice pa LL.length ca] 24 (0, 0)) ∧ w15.ownsRow w7.heap.size 47 3 (.slice pa LL.length ca) LL.length (cellsR LL) := ⟨bt K79 (bt K11 K15), ((bt K11 K15).block _ (lt_of_heap HBX.out)).trans HBX.out, bel_row H9.out (bt K11 K15)⟩
      have HI15 := Lib.hid hI15
      have HK7 := Lib.hid (And.intro K5 K7)
      have hsz := K7.size
      have hsz0 := K5.size
      have hgb : Hid (∀ g n c, Value.slice pa LL.length ca = .slice (some g) n c → g.block < w8.heap.size) := by
        intro g n c he
        rcases HRA.out.2 with ⟨h9, _⟩ | ⟨g2, cap, cur, h9, hb9, hg9, _⟩
        · rw [h9] at he; cases he
        · rw [h9] at he; cases he; exact lt_of_heap hg9
      clear hI15 K15 K11 K9 K79 FD K5 K7
      go_loopw [98] (fun i wr => ∃ (k : Nat) (ys : List Value), k ≤ LL.length ∧ i = .int .i64 k ∧ Below w7.heap.size w7 wr ∧ wr.heap[w8.heap.size]? = some (.cells #[.int .i64 Hh, .slice pa LL.length ca] 24 (0, 0)) ∧ wr.ownsRow w7.heap.size 47 3 (.slice pa LL.length ca) LL.length ys) (fun i _ => LL.length - (intOf i).toNat)
      case atStart => exact ⟨0, _, Nat.zero_le _, rfl, HI15.out.1, HI15.out.2.1, HI15.out.2.2⟩
      case round =>
        obtain ⟨k, ys, hk, rfl, hB, hbx, hrow⟩ := hrel
        have z1 := cell_of_heap (o := 1) hbx rfl
        by_cases hlt : k < LL.length
        · have hklt : (k : Int) < LL.length := by omega
          obtain ⟨g, hg1, hg2⟩ : ∃ g, pa = some ⟨g, 0, none⟩ ∧ w7.heap.size ≤ g := by
            rcases hrow.2 with ⟨_, h8⟩ | ⟨g, cap, cur, h8, hb8, _⟩
            · omega
            · simp only [Value.slice.injEq] at h8
              exact ⟨g, h8.1, hb8⟩
          subst hg1
          have hg3 := hgb.out _ _ _ rfl
          have hjl : k * 3 + 1 < ys.length := by rw [hrow.1]; omega
          obtain ⟨yy, c1⟩ : ∃ yy, wr.cell? ⟨g, k * 3 + 1, none⟩ = some yy := ⟨_, (hrow.cellAt (k * 3 + 1) (by omega)).trans (List.getElem?_eq_getElem hjl)⟩
          have c2 := hrow.frozenAt (k * 3 + 1)
          have hst := (hrow.stored (k * 3 + 1) (.int .i64 (-7))).1
          have HST := Lib.hid hst
          have HBB := Lib.hid hB
          have HBX2 := Lib.hid hbx
          simp only at hg3
          clear hst hrow hB hbx hjl
          go_wp2_with fail
          go_roundw
          case rel => exact ⟨k + 1, _, by omega, by go_num, HBB.out.setCell (by simpa using hg2) _, heap_other HBX2.out (by simp; omega), HST.out⟩
          case measure => simp [intOf]; omega
        · obtain rfl : k = LL.length := by omega
          have hB5 : Below w5.heap.size w5 wr := (show Below w5.heap.size w5 w7 from HK7.out.2).trans (hB.mono hsz)
          obtain ⟨y0, y1, y2, y3⟩ := HFB.out wr hB5
          have hBw : Below w.heap.size w wr := (show Below w.heap.size w w5 from HK7.out.1).trans (hB5.mono hsz0)
          have HBW := Lib.hid hBw
          clear hbx hrow hB hBw
          go_wp2_with fail
          refine (sameW_any h xs _ _ wr (H5.out.2.keeps hB5) (HU.out.keeps HBW.out)).mono ?_
          rintro e w16 ⟨rfl, hB16⟩
          have HB16 := Lib.hid hB16
          clear hB16
          go_wp2_with fail
          refine (sameD_any ds _ _ w16 ((H5.out.1.keeps hB5).keeps HB16.out) ((HV.out.dl.keeps HBW.out).keeps HB16.out)).mono ?_
          rintro e w17 ⟨rfl, hB17⟩
          go_wp2_with fail
          go_ret
          exact ⟨rfl, bt HBW.out (bt HB16.out hB17)⟩
    · clear hgd g0
      go_enter Tryd.func3, Tryd.ntmps3
      go_wp2_with fail
      refine HGR.out.mono ?_
      rintro e w1 ⟨rfl, hB1⟩
      go_wp2_with fail
      refine (greatD_any ds _ w1 (HV.out.dl.keeps (bt KB hB1)) true HGD).mono ?_
      rintro e w2 ⟨rfl, hB2⟩
      go_wp2_with fail
      go_ret
      exact ⟨rfl, bt KB (bt hB1 hB2)⟩
  · have g0 : decide (10 < (xs.length : Int)) = true := decide_eq_true (by omega)
    rw [g0] at HGR
    clear g0
    go_enter Tryd.func3, Tryd.ntmps3
    go_wp2_with fail
    refine HGR.out.mono ?_
    rintro e w1 ⟨rfl, hB1⟩
    go_wp2_with fail
    go_ret
    exact ⟨rfl, bt KB hB1⟩
end Go.Proofs.YtknpglgpkkhhiaaDoor

/- For every input the law RoundPlays returns true, and its arguments read behind the call as they read before; what a watch is asked lies in the table as the program's text lays it (tied). Condition: that table. -/
namespace Go.Proofs.YtknpglgpkkhhiaaDoor.lawRoundPlays
open Go Go.ChangeShapes Go.WideShapes Go.ChangeAt Go.RowKit
set_option linter.unusedVariables false
set_option linter.unusedSimpArgs false

set_option maxRecDepth 100000 in
theorem contract (H : Type) (enc : TypeId × Value → H) (W : World) (base : Nat) (args : Array Value) (ds gs : List (DataW H)) (before : List MemPlace)
    (hval : ∀ (j : Nat) t v, Tryd.f3.params[j]? = some t → args[j]? = some v → Value.okWide Tryd.prog W .any base t v)
    (hW : DataW.Whole enc Tryd.prog Tryd.f3.params.toList Rows.roundPlaysSpec.vars false W args.toList ds gs before) (hL : laidMetH Tryd.prog Rows.roundPlaysRow.laid W) :
    Calls Tryd.prog 3 args W fun e W' => ∃ v, e = .returned v ∧ Rows.roundPlaysSpec.post enc Tryd.prog Tryd.f3 false true false false W args v W' := by
  have hW' := hW
  obtain ⟨p, q, hA0, hV, rfl, hfz, hnd⟩ := hW
  have hA : DataW.TrodAll enc Tryd.prog W 0 (fun _ => true) true Tryd.f3.params.toList args.toList ds p := hA0
  have hAk := hA
  rw [Tryd.params3] at hA hval
  obtain ⟨v0, vs0, d0, ds0, p0, q0, hargs, rfl, rfl, h0, r0⟩ := trodAll_cons hA
  obtain ⟨v1, vs1, d1, ds1, p1, q1, rfl, rfl, rfl, h1, r1⟩ := trodAll_cons r0
  obtain ⟨rfl, rfl, rfl⟩ := trodAll_nil r1
  obtain rfl : args = #[v0, v1] := by cases args; simp_all
  obtain ⟨rfl, rfl⟩ := trodVars_none hV
  have hlt : ∀ x ∈ p0 ++ (p1 ++ ([])), x.block < W.heap.size := fun x hx => by
    have := hW'.lt x (by simpa using hx)
    simpa using this
  obtain ⟨a0, b0, y0, z0, n0, rfl, _, _, g0, k0⟩ := Joins.open_agg2 Tryd.underlying24 (by kernel_rfl) (by kernel_rfl) (hval 0 24 _ rfl rfl) h0
  obtain ⟨h, ea0, _, _⟩ := DataW.trod_int Tryd.underlying3 g0
  simp at ea0
  subst ea0
  obtain ⟨xs, pp0, cap0, eb0, hrl0, hnz0⟩ := ricks_open Tryd.underlying22 Tryd.underlying47 (by kernel_rfl) rfl rfl rfl (by kernel_rfl) (by kernel_rfl) (by kernel_rfl) Tryd.underlying3 Tryd.underlying3 Tryd.underlying3 k0
  obtain ⟨a1, len1, cap1, rfl⟩ := okWide_slice Tryd.underlying25 (hval 1 25 _ rfl rfl)
  obtain ⟨fuel1, hf1⟩ := h1
  obtain ⟨ds, hdz1⟩ := days_open Tryd.underlying25 Tryd.underlying58 Tryd.underlying3 (by kernel_rfl) (by kernel_rfl) (by simpa [Value.cells] using hf1)
  refine (playsL_walk h xs ds _ _ W (Tab.of_laid hL) hrl0 hnz0 hdz1).mono fun e W' ⟨he, hg⟩ => ?_
  subst he
  refine ⟨_, rfl, _, _, _, [], p0 ++ (p1 ++ ([])), [], hW', ?_, ?_, ?_, hg.frame _, fun h => by cases h⟩
  · exact trodAll_cons_mk (shut_bool Tryd.underlying4 true) trodAll_mk0
  · exact Law.args_below Tab.laidOut (by kernel_rfl) hg hAk hlt
  · rfl

set_option maxRecDepth 100000 in
theorem lifted (os : Os) (started : os.Started) (H : Type) (enc : TypeId × Value → H) :
    ReturnsInHanded {} Tryd.checked os 3 .any (fun w args => (Rows.roundPlaysSpec.pre enc Tryd.prog Tryd.f3 [] false w args ∧ laidMetH Tryd.prog Rows.roundPlaysRow.laid w) ∧ sizedMet enc Tryd.prog Tryd.f3 (OpenSpec.ofChange Rows.roundPlaysSpec) false w args) (Rows.roundPlaysSpec.post enc Tryd.prog Tryd.f3 false true false false) := by
  refine returnsInHanded_of_change_and (C := Tryd.checked) (X := fun w _ => laidMetH Tryd.prog Rows.roundPlaysRow.laid w) (fun _ _ _ hh h => h.of_heap hh) Tab.own started (by kernel_rfl) Tryd.func3
    (ChangeSpec.witness_shaped (enc := enc) (C := Tryd.checked) (os := os) (X := fun w _ => laidMetH Tryd.prog Rows.roundPlaysRow.laid w) false (World.doorLaid Tryd.prog 17 os) #[.agg #[.int .i64 0, .slice none 0 0], .slice none 0 0] 8 rfl (World.shaped_of_RefB (by kernel_rfl) (by kernel_rfl)) (by kernel_rfl) (by kernel_rfl) (by kernel_rfl) (Tab.door_met os _)) ?_
  intro W base args ds gs before hval hW _ _ hL _
  exact contract H enc W base args ds gs before hval hW hL

theorem said : Rows.RoundPlaysSaid :=
  OpenClaim.holds_of_wide 3 Tryd.f3 rfl rfl rfl rfl rfl rfl rfl ⟨rfl, rfl, rfl, rfl, rfl⟩ rfl rfl rfl rfl rfl (by kernel_rfl) Tryd.func3 (by kernel_rfl)
    (of_decide_eq_true (by kernel_rfl)) (by unfold Func.isWrapper; first | (rw [if_pos (by decide +kernel)]; kernel_rfl) | (rw [if_neg (by decide +kernel)]; exact ⟨rfl, rfl⟩))
    (fun os started H enc _ => lifted os started H enc)

theorem plain (f : FuncId) (fn : Func) (hf : Tryd.pinned.checked.prog.funcNamed "oilcake/oilcakelaw07.RoundPlays" = some f) (hfn : Tryd.pinned.checked.prog.funcs[f]? = some fn) :
    false = Tryd.pinned.checked.prog.looks [] ∧ ∀ (j : Nat) t, fn.params[j]? = some t → Tryd.pinned.checked.prog.wantsStandIn t = false := by
  obtain rfl : f = 3 := Option.some.inj ((show Tryd.prog.funcNamed "oilcake/oilcakelaw07.RoundPlays" = some 3 by kernel_rfl).symm.trans hf) |>.symm
  obtain rfl : fn = Tryd.f3 := (Option.some.inj (Tryd.func3.symm.trans hfn)).symm
  refine ⟨by kernel_rfl, fun j t ht => ?_⟩
  rw [Tryd.params3] at ht
  have hm := Array.mem_of_getElem? ht
  have hall : (Tryd.f3.params.toList.all fun u => !Tryd.prog.wantsStandIn u) = true := by kernel_rfl
  rw [Tryd.params3] at hall
  exact (show Tryd.prog.wantsStandIn t = false by simpa using List.all_eq_true.1 hall t (by simpa using hm))

theorem card : Rows.RoundPlaysCardSaid :=
  Claim7.holds_tied_plain_at .later [] _ _ _ _ said (fun _ h => by cases h) (by kernel_rfl) (fun _ h => by cases h) roundPlays_row_tie rfl ⟨rfl, rfl⟩ (by kernel_rfl) rfl plain (by kernel_rfl)
#print axioms card
end Go.Proofs.YtknpglgpkkhhiaaDoor.lawRoundPlays

