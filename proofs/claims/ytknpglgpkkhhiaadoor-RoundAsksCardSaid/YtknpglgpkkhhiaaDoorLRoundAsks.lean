/- For every input the law RoundAsks returns true, and its arguments read behind the call as they read before; what a watch is asked lies in the table as the program's text lays it (tied). Condition: that table. -/
/- RoundAsks: the longest days, hands, moist cake and spare days. -/
import Derived.Test.YtknpglgpkkhhiaaDoorD8
namespace Go.Proofs.YtknpglgpkkhhiaaDoor
set_option linter.unusedSimpArgs false
set_option linter.unusedVariables false
open Go.RowKit Go.Proofs.YtknpglgpkkhhiaaDoor.Free2 Go.Proofs.YtknpglgpkkhhiaaDoor.ML RR

set_option maxRecDepth 100000 in
set_option maxHeartbeats 32000000 in
theorem asksL_walk (h : Int) (xs : List Rk) (n : Int) (u : Value) (w : World) (hT : TabR w) (hu : RL xs u w) (hz : NZ u) :
    Calls Tryd.prog 6 #[.agg #[.int .i64 h, u], .int .i64 n] w fun e w' => e = .returned (.bool true) ∧ Below w.heap.size w w' := by
  have HNZ := Lib.hid hz
  have HTX := Lib.hid (fun (W : World) (hW : Below w.heap.size w W) => hT.bel hW)
  have HUX := Lib.hid (fun (W : World) (hW : Below w.heap.size w W) => hu.keeps hW)
  obtain ⟨p, cp, rfl, hm, hp⟩ := hu
  clear hm hp hz hT
  have hB0 : Below w.heap.size w (w.alloc (.cells #[.int .i64 h, .slice p xs.length cp] 24)) := (Below.refl _ w).alloc (Nat.le_refl _) _
  have c0_0 : (w.alloc (.cells #[.int .i64 h, .slice p xs.length cp] 24)).cell? ⟨w.heap.size, 0, none⟩ = some (.int .i64 h) := by simp [go_sem]
  have c0_1 : (w.alloc (.cells #[.int .i64 h, .slice p xs.length cp] 24)).cell? ⟨w.heap.size, 1, none⟩ = some (.slice p xs.length cp) := by simp [go_sem]
  have HGR := Lib.hid (great_any h xs.length cp p (w.alloc (.cells #[.int .i64 h, .slice p xs.length cp] 24)))
  by_cases h10 : 10 < xs.length
  · rw [decide_eq_true (show 10 < (xs.length : Int) by omega)] at HGR
    go_enter Tryd.func6, Tryd.ntmps6
    go_wp2_with fail
    refine HGR.out.mono ?_
    rintro e w1 ⟨rfl, hB1⟩
    have HBZ := Lib.hid (hB0.trans (hB1.mono (by simp)))
    clear hB1
    go_wp2_with fail
    go_ret
    exact ⟨rfl, HBZ.out⟩
  rw [decide_eq_false (show ¬ 10 < (xs.length : Int) by omega)] at HGR
  go_enter Tryd.func6, Tryd.ntmps6
  go_wp2_with fail
  refine HGR.out.mono ?_
  rintro e w1 ⟨rfl, hB1⟩
  have hBz : Below w.heap.size w w1 := hB0.trans (hB1.mono (by simp))
  have hzz : w.heap.size ≤ w1.heap.size := hBz.size
  have hzn : w.heap.size + 1 ≤ w1.heap.size := by have := hB1.size; simp at this; omega
  have kc0_0 := keepsB hB1 c0_0
  have kc0_1 := keepsB hB1 c0_1
  clear hB0 hB1 HGR c0_0 c0_1
  generalize hbb : w.heap.size = bb at *
  have HBB := Lib.hid hbb
  clear hbb
  have HB_w1 := Lib.hid (show Below bb w w1 from hBz)
  have hz_w1 : bb ≤ w1.heap.size := hzz
  have FA : ∀ W, Free.Bel w1 W → W.cell? ⟨bb, 0, none⟩ = some (.int .i64 h) ∧ W.cell? ⟨bb, 1, none⟩ = some (.slice p xs.length cp) ∧ Hid (TabR W) ∧ Hid (RL xs (.slice p xs.length cp) W) ∧ bb + 1 ≤ W.heap.size ∧ bb ≤ W.heap.size := fun W hW => ⟨keepsB hW kc0_0, keepsB hW kc0_1, Lib.hid (HTX.out W (hBz.trans (hW.mono hzz))), Lib.hid (HUX.out W (hBz.trans (hW.mono hzz))), Nat.le_trans hzn hW.size, Nat.le_trans hz_w1 hW.size⟩
  have KR : Free.Bel w1 w1 := Free.Bel.refl _
  clear hBz hzz kc0_0 kc0_1 hzn
  go_wp2_with fail
  refine (twin_any h xs _ w1 (FA w1 (Free.Bel.refl _)).2.2.2.1.out HNZ.out (by omega)).mono ?_
  rintro e w2 ⟨v1, rfl, ho1, hB⟩
  obtain ⟨q1, k1, rfl⟩ := row_slice ho1
  have HN1 := Lib.hid (NZ.row ho1)
  have hoC := row_mono ho1 hz_w1
  have HOC := Lib.hid (RL.of_row rfl (by unfold maxLen; omega) hoC)
  have HB_w2 := Lib.hid (HB_w1.out.trans ((hB).mono hz_w1))
  have hz_w2 : bb ≤ w2.heap.size := Nat.le_trans hz_w1 (hB).size
  have FN := fun (W : World) (hW : Free.Bel w2 W) => And.intro (Lib.hid (HOC.out.keeps hW)) (FA W (bt (hB) hW))
  clear FA HB_w1 hz_w1 KR
  have FA := FN
  clear FN
  have KR := Free.Bel.refl w2
  clear hB ho1 hoC
  have KA0 : Free.Bel w2 (w2.alloc (.cells #[.int .i64 h, .slice q1 (List.length xs) k1] 24)) := Bel.allocT (Free.Bel.refl _) _
  go_wp2_with fail
  clear KA0
  have hN : Free.Bel w2 (w2.alloc (.cells #[.int .i64 h, .slice q1 (List.length xs) k1] 24)) := (Bel.allocT (Free.Bel.refl w2) _)
  have n_g20_0 : (w2.alloc (.cells #[.int .i64 h, .slice q1 (List.length xs) k1] 24)).cell? ⟨w2.heap.size, 0, none⟩ = some (.int .i64 h) := by simp [go_sem]
  have n_g20_1 : (w2.alloc (.cells #[.int .i64 h, .slice q1 (List.length xs) k1] 24)).cell? ⟨w2.heap.size, 1, none⟩ = some (.slice q1 (List.length xs) k1) := by simp [go_sem]
  generalize (w2.alloc (.cells #[.int .i64 h, .slice q1 (List.length xs) k1] 24)) = w3 at *
  obtain ⟨g20, hgz⟩ : ∃ x, x = w2.heap.size := ⟨_, rfl⟩
  rw [← hgz] at n_g20_0 n_g20_1 ⊢
  clear hgz
  have HB_w3 := Lib.hid (HB_w2.out.trans ((hN).mono hz_w2))
  have hz_w3 : bb ≤ w3.heap.size := Nat.le_trans hz_w2 (hN).size
  have FN := fun (W : World) (hW : Free.Bel w3 W) => And.intro (keepsB hW n_g20_0) (And.intro (keepsB hW n_g20_1) (FA W (bt (hN) hW)))
  clear FA HB_w2 hz_w2 KR
  have FA := FN
  clear FN
  have KR := Free.Bel.refl w3
  clear hN n_g20_0 n_g20_1
  obtain ⟨LD, hld⟩ := last_both h xs
  have HLD := Lib.hid hld
  obtain ⟨lc, hlc⟩ : ∃ y, lastE h xs = y := ⟨_, rfl⟩
  rw [hlc] at HLD
  have HLC := Lib.hid hlc
  obtain ⟨fa, fb, hfw⟩ := few_both h xs
  have HFW := Lib.hid hfw
  obtain ⟨r, hr⟩ := RickIs.some xs n
  have HRI := Lib.hid hr
  obtain ⟨ma, mb, hmo⟩ := moist_both h xs r
  have HMO := Lib.hid hmo
  obtain ⟨gc, hgc⟩ : ∃ y, goE h xs = y := ⟨_, rfl⟩
  have HGC := Lib.hid hgc
  obtain ⟨sa, sb, hsp⟩ := spare_both h xs gc
  have HSP := Lib.hid hsp
  clear hld hlc hfw hr hmo hgc hsp
  go_wp2_with fail
  refine ((lastP_v h xs _ w3 (FA w3 (Free.Bel.refl _)).2.2.2.2.2.1.out ((FA w3 (Free.Bel.refl _)).2.2.1).out lc HLC).mono fun e w9 hh => And.intro (HLD.out.1 _ e w9 hh.1) hh.2).mono ?_
  rintro e w4 ⟨⟨v1l, rfl, hi1l⟩, hB⟩
  have HI1l := Lib.hid hi1l
  obtain ⟨p1l, c1l, rfl, _, _⟩ := hi1l
  have HB_w4 := Lib.hid (HB_w3.out.trans ((hB).mono hz_w3))
  have hz_w4 : bb ≤ w4.heap.size := Nat.le_trans hz_w3 (hB).size
  have FN := fun (W : World) (hW : Free.Bel w4 W) => And.intro (Lib.hid (HI1l.out.keeps hW)) (FA W (bt (hB) hW))
  clear FA HB_w3 hz_w3 KR
  have FA := FN
  clear FN
  have KR := Free.Bel.refl w4
  clear hB HI1l
  go_wp2_with fail
  refine ((lastR_v h xs _ w4 (FA w4 (Free.Bel.refl _)).2.2.2.2.2.2.2.1.out HNZ.out).mono fun e w9 hh => And.intro (HLD.out.2 _ e w9 hh.1) hh.2).mono ?_
  rintro e w5 ⟨⟨v2l, rfl, hi2l⟩, hB⟩
  have HI2l := Lib.hid hi2l
  obtain ⟨p2l, c2l, rfl, _, _⟩ := hi2l
  have HB_w5 := Lib.hid (HB_w4.out.trans ((hB).mono hz_w4))
  have hz_w5 : bb ≤ w5.heap.size := Nat.le_trans hz_w4 (hB).size
  have FN := fun (W : World) (hW : Free.Bel w5 W) => And.intro (Lib.hid (HI2l.out.keeps hW)) (FA W (bt (hB) hW))
  clear FA HB_w4 hz_w4 KR
  have FA := FN
  clear FN
  have KR := Free.Bel.refl w5
  clear hB HI2l
  go_wp2_with fail
  refine (((fewestP_any h xs _ w5 (FA w5 (Free.Bel.refl _)).2.2.2.2.2.2.2.1.out ((FA w5 (Free.Bel.refl _)).2.2.2.2.1).out).mono fun e w9 hh => And.intro (HFW.out e hh.1) hh.2)).mono ?_
  rintro e w6 ⟨rfl, hB⟩
  have HB_w6 := Lib.hid (HB_w5.out.trans ((hB).mono hz_w5))
  have hz_w6 : bb ≤ w6.heap.size := Nat.le_trans hz_w5 (hB).size
  have FN := fun (W : World) (hW : Free.Bel w6 W) => FA W (bt (hB) hW)
  clear FA HB_w5 hz_w5 KR
  have FA := FN
  clear FN
  have KR := Free.Bel.refl w6
  clear hB
  go_wp2_with fail
  refine (((fewR_any h xs _ w6 (FA w6 (Free.Bel.refl _)).2.2.2.2.2.2.2.2.1.out HNZ.out).mono fun e w9 hh => And.intro (HFW.out e hh.1) hh.2)).mono ?_
  rintro e w7 ⟨rfl, hB⟩
  have HB_w7 := Lib.hid (HB_w6.out.trans ((hB).mono hz_w6))
  have hz_w7 : bb ≤ w7.heap.size := Nat.le_trans hz_w6 (hB).size
  have FN := fun (W : World) (hW : Free.Bel w7 W) => FA W (bt (hB) hW)
  clear FA HB_w6 hz_w6 KR
  have FA := FN
  clear FN
  have KR := Free.Bel.refl w7
  clear hB
  go_wp2_with fail
  refine (((moistP_any h n xs _ w7 (FA w7 (Free.Bel.refl _)).2.2.2.2.2.2.2.1.out ((FA w7 (Free.Bel.refl _)).2.2.2.2.1).out HN1.out r HRI).mono fun e w9 hh => And.intro (HMO.out e hh.1) hh.2)).mono ?_
  rintro e w8 ⟨rfl, hB⟩
  have HB_w8 := Lib.hid (HB_w7.out.trans ((hB).mono hz_w7))
  have hz_w8 : bb ≤ w8.heap.size := Nat.le_trans hz_w7 (hB).size
  have FN := fun (W : World) (hW : Free.Bel w8 W) => FA W (bt (hB) hW)
  clear FA HB_w7 hz_w7 KR
  have FA := FN
  clear FN
  have KR := Free.Bel.refl w8
  clear hB
  go_wp2_with fail
  refine (((moistR_any h xs n _ w8 (FA w8 (Free.Bel.refl _)).2.2.2.2.2.2.2.2.1.out HNZ.out r HRI).mono fun e w9 hh => And.intro (HMO.out e hh.1) hh.2)).mono ?_
  rintro e w9 ⟨rfl, hB⟩
  have HB_w9 := Lib.hid (HB_w8.out.trans ((hB).mono hz_w8))
  have hz_w9 : bb ≤ w9.heap.size := Nat.le_trans hz_w8 (hB).size
  have FN := fun (W : World) (hW : Free.Bel w9 W) => FA W (bt (hB) hW)
  clear FA HB_w8 hz_w8 KR
  have FA := FN
  clear FN
  have KR := Free.Bel.refl w9
  clear hB
  go_wp2_with fail
  refine (((spareP_v h xs _ w9 (FA w9 (Free.Bel.refl _)).2.2.2.2.2.2.2.1.out ((FA w9 (Free.Bel.refl _)).2.2.2.2.1).out gc HGC).mono fun e w9 hh => And.intro (HSP.out e hh.1) hh.2)).mono ?_
  rintro e w10 ⟨rfl, hB⟩
  have HB_w10 := Lib.hid (HB_w9.out.trans ((hB).mono hz_w9))
  have hz_w10 : bb ≤ w10.heap.size := Nat.le_trans hz_w9 (hB).size
  have FN := fun (W : World) (hW : Free.Bel w10 W) => FA W (bt (hB) hW)
  clear FA HB_w9 hz_w9 KR
  have FA := FN
  clear FN
  have KR := Free.Bel.refl w10
  clear hB
  go_wp2_with fail
  refine (((spareR_v h xs _ w10 (FA w10 (Free.Bel.refl _)).2.2.2.2.2.2.2.2.1.out HNZ.out).mono fun e w9 hh => And.intro (HSP.out e (by rw [← HGC.out]; exact hh.1)) hh.2)).mono ?_
  rintro e w11 ⟨rfl, hB⟩
  have HB_w11 := Lib.hid (HB_w10.out.trans ((hB).mono hz_w10))
  have hz_w11 : bb ≤ w11.heap.size := Nat.le_trans hz_w10 (hB).size
  have FN := fun (W : World) (hW : Free.Bel w11 W) => FA W (bt (hB) hW)
  clear FA HB_w10 hz_w10 KR
  have FA := FN
  clear FN
  have KR := Free.Bel.refl w11
  clear hB
  go_wp2_with fail
  refine (sameD_any LD _ _ w11 ((FA w11 (Free.Bel.refl _)).2.1).out ((FA w11 (Free.Bel.refl _)).1).out).mono ?_
  rintro e w12 ⟨rfl, hB⟩
  have HB_w12 := Lib.hid (HB_w11.out.trans ((hB).mono hz_w11))
  have hz_w12 : bb ≤ w12.heap.size := Nat.le_trans hz_w11 (hB).size
  have FN := fun (W : World) (hW : Free.Bel w12 W) => FA W (bt (hB) hW)
  clear FA HB_w11 hz_w11 KR
  have FA := FN
  clear FN
  have KR := Free.Bel.refl w12
  clear hB
  go_wp2_with fail
  refine (sameW_any h xs _ _ w12 ((FA w12 (Free.Bel.refl _)).2.2.2.2.1).out (FA w12 (Free.Bel.refl _)).2.2.2.2.2.2.2.2.1.out).mono ?_
  rintro e w13 ⟨rfl, hB⟩
  have HB_w13 := Lib.hid (HB_w12.out.trans ((hB).mono hz_w12))
  have hz_w13 : bb ≤ w13.heap.size := Nat.le_trans hz_w12 (hB).size
  have FN := fun (W : World) (hW : Free.Bel w13 W) => FA W (bt (hB) hW)
  clear FA HB_w12 hz_w12 KR
  have FA := FN
  clear FN
  have KR := Free.Bel.refl w13
  clear hB
  go_wp2_with fail
  go_ret
  have hbb := HBB.out
  subst hbb
  exact ⟨rfl, HB_w13.out⟩
end Go.Proofs.YtknpglgpkkhhiaaDoor

/- For every input the law RoundAsks returns true, and its arguments read behind the call as they read before; what a watch is asked lies in the table as the program's text lays it (tied). Condition: that table. -/
namespace Go.Proofs.YtknpglgpkkhhiaaDoor.lawRoundAsks
open Go Go.ChangeShapes Go.WideShapes Go.ChangeAt Go.RowKit
set_option linter.unusedVariables false
set_option linter.unusedSimpArgs false

set_option maxRecDepth 100000 in
theorem contract (H : Type) (enc : TypeId × Value → H) (W : World) (base : Nat) (args : Array Value) (ds gs : List (DataW H)) (before : List MemPlace)
    (hval : ∀ (j : Nat) t v, Tryd.f6.params[j]? = some t → args[j]? = some v → Value.okWide Tryd.prog W .any base t v)
    (hW : DataW.Whole enc Tryd.prog Tryd.f6.params.toList Rows.roundAsksSpec.vars false W args.toList ds gs before) (hL : laidMetH Tryd.prog Rows.roundAsksRow.laid W) :
    Calls Tryd.prog 6 args W fun e W' => ∃ v, e = .returned v ∧ Rows.roundAsksSpec.post enc Tryd.prog Tryd.f6 false true false false W args v W' := by
  have hW' := hW
  obtain ⟨p, q, hA0, hV, rfl, hfz, hnd⟩ := hW
  have hA : DataW.TrodAll enc Tryd.prog W 0 (fun _ => true) true Tryd.f6.params.toList args.toList ds p := hA0
  have hAk := hA
  rw [Tryd.params6] at hA hval
  obtain ⟨v0, vs0, d0, ds0, p0, q0, hargs, rfl, rfl, h0, r0⟩ := trodAll_cons hA
  obtain ⟨v1, vs1, d1, ds1, p1, q1, rfl, rfl, rfl, h1, r1⟩ := trodAll_cons r0
  obtain ⟨rfl, rfl, rfl⟩ := trodAll_nil r1
  obtain rfl : args = #[v0, v1] := by cases args; simp_all
  obtain ⟨rfl, rfl⟩ := trodVars_none hV
  have hlt : ∀ x ∈ p0 ++ (p1 ++ ([])), x.block < W.heap.size := fun x hx => by
    have := hW'.lt x (by simpa using hx)
    simpa using this
  obtain ⟨a0, b0, y0, z0, n0, rfl, _, _, g0, k0⟩ := Joins.open_agg2 Tryd.underlying24 (by kernel_rfl) (by kernel_rfl) (hval 0 24 _ rfl rfl) h0
  obtain ⟨h, ea0, _, _⟩ := DataW.trod_int Tryd.underlying3 g0
  simp at ea0
  subst ea0
  obtain ⟨xs, pp0, cap0, eb0, hrl0, hnz0⟩ := ricks_open Tryd.underlying22 Tryd.underlying47 (by kernel_rfl) rfl rfl rfl (by kernel_rfl) (by kernel_rfl) (by kernel_rfl) Tryd.underlying3 Tryd.underlying3 Tryd.underlying3 k0
  obtain ⟨n, rfl, _, hwf1⟩ := open_int Tryd.underlying3 (hval 1 3 _ rfl rfl) h1
  refine (asksL_walk h xs n _ W (Tab.of_laid hL) hrl0 hnz0).mono fun e W' ⟨he, hg⟩ => ?_
  subst he
  refine ⟨_, rfl, _, _, _, [], p0 ++ (p1 ++ ([])), [], hW', ?_, ?_, ?_, hg.frame _, fun h => by cases h⟩
  · exact trodAll_cons_mk (shut_bool Tryd.underlying4 true) trodAll_mk0
  · exact Law.args_below Tab.laidOut (by kernel_rfl) hg hAk hlt
  · rfl

set_option maxRecDepth 100000 in
theorem lifted (os : Os) (started : os.Started) (H : Type) (enc : TypeId × Value → H) :
    ReturnsInHanded {} Tryd.checked os 6 .any (fun w args => (Rows.roundAsksSpec.pre enc Tryd.prog Tryd.f6 [] false w args ∧ laidMetH Tryd.prog Rows.roundAsksRow.laid w) ∧ sizedMet enc Tryd.prog Tryd.f6 (OpenSpec.ofChange Rows.roundAsksSpec) false w args) (Rows.roundAsksSpec.post enc Tryd.prog Tryd.f6 false true false false) := by
  refine returnsInHanded_of_change_and (C := Tryd.checked) (X := fun w _ => laidMetH Tryd.prog Rows.roundAsksRow.laid w) (fun _ _ _ hh h => h.of_heap hh) Tab.own started (by kernel_rfl) Tryd.func6
    (ChangeSpec.witness_shaped (enc := enc) (C := Tryd.checked) (os := os) (X := fun w _ => laidMetH Tryd.prog Rows.roundAsksRow.laid w) false (World.doorLaid Tryd.prog 17 os) #[.agg #[.int .i64 0, .slice none 0 0], .int .i64 0] 8 rfl (World.shaped_of_RefB (by kernel_rfl) (by kernel_rfl)) (by kernel_rfl) (by kernel_rfl) (by kernel_rfl) (Tab.door_met os _)) ?_
  intro W base args ds gs before hval hW _ _ hL _
  exact contract H enc W base args ds gs before hval hW hL

theorem said : Rows.RoundAsksSaid :=
  OpenClaim.holds_of_wide 6 Tryd.f6 rfl rfl rfl rfl rfl rfl rfl ⟨rfl, rfl, rfl, rfl, rfl⟩ rfl rfl rfl rfl rfl (by kernel_rfl) Tryd.func6 (by kernel_rfl)
    (of_decide_eq_true (by kernel_rfl)) (by unfold Func.isWrapper; first | (rw [if_pos (by decide +kernel)]; kernel_rfl) | (rw [if_neg (by decide +kernel)]; exact ⟨rfl, rfl⟩))
    (fun os started H enc _ => lifted os started H enc)

theorem plain (f : FuncId) (fn : Func) (hf : Tryd.pinned.checked.prog.funcNamed "oilcake/oilcakelaw07.RoundAsks" = some f) (hfn : Tryd.pinned.checked.prog.funcs[f]? = some fn) :
    false = Tryd.pinned.checked.prog.looks [] ∧ ∀ (j : Nat) t, fn.params[j]? = some t → Tryd.pinned.checked.prog.wantsStandIn t = false := by
  obtain rfl : f = 6 := Option.some.inj ((show Tryd.prog.funcNamed "oilcake/oilcakelaw07.RoundAsks" = some 6 by kernel_rfl).symm.trans hf) |>.symm
  obtain rfl : fn = Tryd.f6 := (Option.some.inj (Tryd.func6.symm.trans hfn)).symm
  refine ⟨by kernel_rfl, fun j t ht => ?_⟩
  rw [Tryd.params6] at ht
  have hm := Array.mem_of_getElem? ht
  have hall : (Tryd.f6.params.toList.all fun u => !Tryd.prog.wantsStandIn u) = true := by kernel_rfl
  rw [Tryd.params6] at hall
  exact (show Tryd.prog.wantsStandIn t = false by simpa using List.all_eq_true.1 hall t (by simpa using hm))

theorem card : Rows.RoundAsksCardSaid :=
  Claim7.holds_tied_plain_at .later [] _ _ _ _ said (fun _ h => by cases h) (by kernel_rfl) (fun _ h => by cases h) roundAsks_row_tie rfl ⟨rfl, rfl⟩ (by kernel_rfl) rfl plain (by kernel_rfl)
#print axioms card
end Go.Proofs.YtknpglgpkkhhiaaDoor.lawRoundAsks

