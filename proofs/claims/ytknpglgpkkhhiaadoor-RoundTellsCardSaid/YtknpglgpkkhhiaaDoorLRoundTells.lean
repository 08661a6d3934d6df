/- For every input the law RoundTells returns true, and its arguments read behind the call as they read before; what a watch is asked lies in the table as the program's text lays it (tied). Condition: that table. -/
/- RoundTells: shares, plans and rounds. -/
import Derived.Test.YtknpglgpkkhhiaaDoorD8
namespace Go.Proofs.YtknpglgpkkhhiaaDoor
set_option linter.unusedSimpArgs false
set_option linter.unusedVariables false
open Go.RowKit Go.Proofs.YtknpglgpkkhhiaaDoor.Free2 Go.Proofs.YtknpglgpkkhhiaaDoor.ML RR

theorem roundP_v (h : Int) (xs : List Rk) (u : Value) (w : World) (hT : TabR w) (hu : RL xs u w) (c : Int) (hc : Hid (goE h xs = c)) :
    Calls Tryd.prog 41 #[.agg #[.int .i64 h, u]] w fun e w' => RoundPost h xs c w e w' ∧ Below w.heap.size w w' := by
  by_cases h0 : c = 0
  · have hg := hc.out
    rw [h0] at hg
    obtain ⟨hw, he⟩ : watchB h xs = true ∧ everB h xs = true := by
      unfold goE at hg
      split at hg
      · rename_i h1
        split at hg
        · rename_i h2; exact ⟨h1, h2⟩
        · cases hg
      · cases hg
    refine (round_b h xs u w hT hu hw he).mono fun e w' hh => ⟨.inr ⟨h0, ?_⟩, hh.2⟩
    obtain ⟨i, j, vl, vr, h1, h2, h3, h4⟩ := hh.1
    exact ⟨i, j, vl, vr, h1, h2, h3, h4⟩
  · exact (round_a h xs u w hT hu c hc h0).mono fun e w' hh => ⟨.inl ⟨h0, hh.1⟩, hh.2⟩
set_option maxRecDepth 100000 in
set_option maxHeartbeats 32000000 in
theorem tellsL_walk (h : Int) (xs : List Rk) (n : Int) (u : Value) (w : World) (hT : TabR w) (hu : RL xs u w) (hz : NZ u) :
    Calls Tryd.prog 4 #[.agg #[.int .i64 h, u], .int .i64 n] w fun e w' => e = .returned (.bool true) ∧ Below w.heap.size w w' := by
  have HNZ := Lib.hid hz
  have HTX := Lib.hid (fun (W : World) (hW : Below w.heap.size w W) => hT.bel hW)
  have HUX := Lib.hid (fun (W : World) (hW : Below w.heap.size w W) => hu.keeps hW)
  obtain ⟨p, cp, rfl, hm, hp⟩ := hu
  clear hm hp hz hT
  have hB0 : Below w.heap.size w (w.alloc (.cells #[.int .i64 h, .slice p xs.length cp] 24)) := (Below.refl _ w).alloc (Nat.le_refl _) _
  have c0_0 : (w.alloc (.cells #[.int .i64 h, .slice p xs.length cp] 24)).cell? ⟨w.heap.size, 0, none⟩ = some (.int .i64 h) := by simp [go_sem]
  have c0_1 : (w.alloc (.cells #[.int .i64 h, .slice p xs.length cp] 24)).cell? ⟨w.heap.size, 1, none⟩ = some (.slice p xs.length cp) := by simp [go_sem]
  have HGR := Lib.hid (great_any h xs.length cp p (w.alloc (.cells #[.int .i64 h, .slice p xs.length cp] 24)))
  by_cases h10 : 10 < xs.length
  · rw [decide_eq_true (show 10 < (xs.length : Int) by omega)] at HGR
    go_enter Tryd.func4, Tryd.ntmps4
    go_wp2_with fail
    refine HGR.out.mono ?_
    rintro e w1 ⟨rfl, hB1⟩
    have HBZ := Lib.hid (hB0.trans (hB1.mono (by simp)))
    clear hB1
    go_wp2_with fail
    go_ret
    exact ⟨rfl, HBZ.out⟩
  rw [decide_eq_false (show ¬ 10 < (xs.length : Int) by omega)] at HGR
  go_enter Tryd.func4, Tryd.ntmps4
  go_wp2_with fail
  refine HGR.out.mono ?_
  rintro e w1 ⟨rfl, hB1⟩
  have hBz : Below w.heap.size w w1 := hB0.trans (hB1.mono (by simp))
  have hzz : w.heap.size ≤ w1.heap.size := hBz.size
  have hzn : w.heap.size + 1 ≤ w1.heap.size := by have := hB1.size; simp at this; omega
  have kc0_0 := keepsB hB1 c0_0
  have kc0_1 := keepsB hB1 c0_1
  clear hB0 hB1 HGR c0_0 c0_1
  generalize hbb : w.heap.size = bb at *
  have HBB := Lib.hid hbb
  clear hbb
  have HB_w1 := Lib.hid (show Below bb w w1 from hBz)
  have hz_w1 : bb ≤ w1.heap.size := hzz
  have FA : ∀ W, Free.Bel w1 W → W.cell? ⟨bb, 0, none⟩ = some (.int .i64 h) ∧ W.cell? ⟨bb, 1, none⟩ = some (.slice p xs.length cp) ∧ Hid (TabR W) ∧ Hid (RL xs (.slice p xs.length cp) W) ∧ bb + 1 ≤ W.heap.size ∧ bb ≤ W.heap.size := fun W hW => ⟨keepsB hW kc0_0, keepsB hW kc0_1, Lib.hid (HTX.out W (hBz.trans (hW.mono hzz))), Lib.hid (HUX.out W (hBz.trans (hW.mono hzz))), Nat.le_trans hzn hW.size, Nat.le_trans hz_w1 hW.size⟩
  have KR : Free.Bel w1 w1 := Free.Bel.refl _
  clear hBz hzz kc0_0 kc0_1 hzn
  go_wp2_with fail
  refine (twin_any h xs _ w1 (FA w1 (Free.Bel.refl _)).2.2.2.1.out HNZ.out (by omega)).mono ?_
  rintro e w2 ⟨v1, rfl, ho1, hB⟩
  obtain ⟨q1, k1, rfl⟩ := row_slice ho1
  have HN1 := Lib.hid (NZ.row ho1)
  have hoC := row_mono ho1 hz_w1
  have HOC := Lib.hid (RL.of_row rfl (by unfold maxLen; omega) hoC)
  have HB_w2 := Lib.hid (HB_w1.out.trans ((hB).mono hz_w1))
  have hz_w2 : bb ≤ w2.heap.size := Nat.le_trans hz_w1 (hB).size
  have FN := fun (W : World) (hW : Free.Bel w2 W) => And.intro (Lib.hid (HOC.out.keeps hW)) (FA W (bt (hB) hW))
  clear FA HB_w1 hz_w1 KR
  have FA := FN
  clear FN
  have KR := Free.Bel.refl w2
  clear hB ho1 hoC
  have KA0 : Free.Bel w2 (w2.alloc (.cells #[.int .i64 h, .slice q1 (List.length xs) k1] 24)) := Bel.allocT (Free.Bel.refl _) _
  go_wp2_with fail
  clear KA0
  have hN : Free.Bel w2 (w2.alloc (.cells #[.int .i64 h, .slice q1 (List.length xs) k1] 24)) := (Bel.allocT (Free.Bel.refl w2) _)
  have n_g20_0 : (w2.alloc (.cells #[.int .i64 h, .slice q1 (List.length xs) k1] 24)).cell? ⟨w2.heap.size, 0, none⟩ = some (.int .i64 h) := by simp [go_sem]
  have n_g20_1 : (w2.alloc (.cells #[.int .i64 h, .slice q1 (List.length xs) k1] 24)).cell? ⟨w2.heap.size, 1, none⟩ = some (.slice q1 (List.length xs) k1) := by simp [go_sem]
  generalize (w2.alloc (.cells #[.int .i64 h, .slice q1 (List.length xs) k1] 24)) = w3 at *
  obtain ⟨g20, hgz⟩ : ∃ x, x = w2.heap.size := ⟨_, rfl⟩
  rw [← hgz] at n_g20_0 n_g20_1 ⊢
  clear hgz
  have HB_w3 := Lib.hid (HB_w2.out.trans ((hN).mono hz_w2))
  have hz_w3 : bb ≤ w3.heap.size := Nat.le_trans hz_w2 (hN).size
  have FN := fun (W : World) (hW : Free.Bel w3 W) => And.intro (keepsB hW n_g20_0) (And.intro (keepsB hW n_g20_1) (FA W (bt (hN) hW)))
  clear FA HB_w2 hz_w2 KR
  have FA := FN
  clear FN
  have KR := Free.Bel.refl w3
  clear hN n_g20_0 n_g20_1
  obtain ⟨sa, sb, sc, hsh⟩ := share_both h xs
  have HSH := Lib.hid hsh
  clear hsh
  go_wp2_with fail
  refine (((shareP_any h xs _ w3 (FA w3 (Free.Bel.refl _)).2.2.2.2.2.1.out ((FA w3 (Free.Bel.refl _)).2.2.1).out).mono fun e w9 hh => And.intro (HSH.out e hh.1) hh.2)).mono ?_
  rintro e w4 ⟨rfl, hB⟩
  have HB_w4 := Lib.hid (HB_w3.out.trans ((hB).mono hz_w3))
  have hz_w4 : bb ≤ w4.heap.size := Nat.le_trans hz_w3 (hB).size
  have FN := fun (W : World) (hW : Free.Bel w4 W) => FA W (bt (hB) hW)
  clear FA HB_w3 hz_w3 KR
  have FA := FN
  clear FN
  have KR := Free.Bel.refl w4
  clear hB
  have KA0 : Free.Bel w4 (w4.alloc (.cells #[.int .i64 sa, .int .i64 sb] 51)) := Bel.allocT (Free.Bel.refl _) _
  go_wp2_with fail
  clear KA0
  have hN : Free.Bel w4 (w4.alloc (.cells #[.int .i64 sa, .int .i64 sb] 51)) := (Bel.allocT (Free.Bel.refl w4) _)
  have n_g40_0 : (w4.alloc (.cells #[.int .i64 sa, .int .i64 sb] 51)).cell? ⟨w4.heap.size, 0, none⟩ = some (.int .i64 sa) := by simp [go_sem]
  have n_g40_1 : (w4.alloc (.cells #[.int .i64 sa, .int .i64 sb] 51)).cell? ⟨w4.heap.size, 1, none⟩ = some (.int .i64 sb) := by simp [go_sem]
  generalize (w4.alloc (.cells #[.int .i64 sa, .int .i64 sb] 51)) = w5 at *
  obtain ⟨g40, hgz⟩ : ∃ x, x = w4.heap.size := ⟨_, rfl⟩
  rw [← hgz] at n_g40_0 n_g40_1 ⊢
  clear hgz
  have HB_w5 := Lib.hid (HB_w4.out.trans ((hN).mono hz_w4))
  have hz_w5 : bb ≤ w5.heap.size := Nat.le_trans hz_w4 (hN).size
  have FN := fun (W : World) (hW : Free.Bel w5 W) => And.intro (keepsB hW n_g40_0) (And.intro (keepsB hW n_g40_1) (FA W (bt (hN) hW)))
  clear FA HB_w4 hz_w4 KR
  have FA := FN
  clear FN
  have KR := Free.Bel.refl w5
  clear hN n_g40_0 n_g40_1
  go_wp2_with fail
  refine (((shareR_any h xs _ w5 (FA w5 (Free.Bel.refl _)).2.2.2.2.2.2.2.2.1.out).mono fun e w9 hh => And.intro (HSH.out e hh.1) hh.2)).mono ?_
  rintro e w6 ⟨rfl, hB⟩
  have HB_w6 := Lib.hid (HB_w5.out.trans ((hB).mono hz_w5))
  have hz_w6 : bb ≤ w6.heap.size := Nat.le_trans hz_w5 (hB).size
  have FN := fun (W : World) (hW : Free.Bel w6 W) => FA W (bt (hB) hW)
  clear FA HB_w5 hz_w5 KR
  have FA := FN
  clear FN
  have KR := Free.Bel.refl w6
  clear hB
  have KA0 : Free.Bel w6 (w6.alloc (.cells #[.int .i64 sa, .int .i64 sb] 51)) := Bel.allocT (Free.Bel.refl _) _
  go_wp2_with fail
  clear KA0
  have hN : Free.Bel w6 (w6.alloc (.cells #[.int .i64 sa, .int .i64 sb] 51)) := (Bel.allocT (Free.Bel.refl w6) _)
  have n_g60_0 : (w6.alloc (.cells #[.int .i64 sa, .int .i64 sb] 51)).cell? ⟨w6.heap.size, 0, none⟩ = some (.int .i64 sa) := by simp [go_sem]
  have n_g60_1 : (w6.alloc (.cells #[.int .i64 sa, .int .i64 sb] 51)).cell? ⟨w6.heap.size, 1, none⟩ = some (.int .i64 sb) := by simp [go_sem]
  generalize (w6.alloc (.cells #[.int .i64 sa, .int .i64 sb] 51)) = w7 at *
  obtain ⟨g60, hgz⟩ : ∃ x, x = w6.heap.size := ⟨_, rfl⟩
  rw [← hgz] at n_g60_0 n_g60_1 ⊢
  clear hgz
  have HB_w7 := Lib.hid (HB_w6.out.trans ((hN).mono hz_w6))
  have hz_w7 : bb ≤ w7.heap.size := Nat.le_trans hz_w6 (hN).size
  have FN := fun (W : World) (hW : Free.Bel w7 W) => And.intro (keepsB hW n_g60_0) (And.intro (keepsB hW n_g60_1) (FA W (bt (hN) hW)))
  clear FA HB_w6 hz_w6 KR
  have FA := FN
  clear FN
  have KR := Free.Bel.refl w7
  clear hN n_g60_0 n_g60_1
  obtain ⟨cc, hcc⟩ : ∃ y : Int, (if watchB h xs = true then 0 else 70) = y := ⟨_, rfl⟩
  have HCC := Lib.hid hcc
  obtain ⟨cr, hcr⟩ : ∃ y, (watchB h xs && everB h xs) = y := ⟨_, rfl⟩
  have HCR : Hid ((if watchB h xs = true then 0 else 70) = cc ∧ (watchB h xs && everB h xs) = cr) := ⟨hcc, hcr⟩
  clear hcc hcr
  go_wp2_with fail
  refine (canP_v h xs _ w7 (FA w7 (Free.Bel.refl _)).2.2.2.2.2.2.2.2.2.1.out ((FA w7 (Free.Bel.refl _)).2.2.2.2.2.2.1).out cc cr HCR).mono ?_
  rintro e w8 ⟨rfl, hB⟩
  have HB_w8 := Lib.hid (HB_w7.out.trans ((hB).mono hz_w7))
  have hz_w8 : bb ≤ w8.heap.size := Nat.le_trans hz_w7 (hB).size
  have FN := fun (W : World) (hW : Free.Bel w8 W) => FA W (bt (hB) hW)
  clear FA HB_w7 hz_w7 KR
  have FA := FN
  clear FN
  have KR := Free.Bel.refl w8
  clear hB
  go_wp2_with fail
  refine (canR_v h xs _ w8 (FA w8 (Free.Bel.refl _)).2.2.2.2.2.2.2.2.2.2.1.out HNZ.out cc cr HCR).mono ?_
  rintro e w9 ⟨rfl, hB⟩
  have HB_w9 := Lib.hid (HB_w8.out.trans ((hB).mono hz_w8))
  have hz_w9 : bb ≤ w9.heap.size := Nat.le_trans hz_w8 (hB).size
  have FN := fun (W : World) (hW : Free.Bel w9 W) => FA W (bt (hB) hW)
  clear FA HB_w8 hz_w8 KR
  have FA := FN
  clear FN
  have KR := Free.Bel.refl w9
  clear hB
  go_wp2_with fail
  obtain ⟨gc, hgc⟩ : ∃ y, goE h xs = y := ⟨_, rfl⟩
  have HGC := Lib.hid hgc
  obtain ⟨TD, htd⟩ := today_both h xs gc
  have HTD := Lib.hid htd
  obtain ⟨dc, hdc⟩ : ∃ y, daysE h xs n = y := ⟨_, rfl⟩
  have HDC := Lib.hid hdc
  obtain ⟨DD, hdd⟩ := days_both h xs n dc
  have HDD := Lib.hid hdd
  obtain ⟨RA, RB, hrr⟩ := round_both h xs gc
  have HRR := Lib.hid hrr
  clear hgc htd hdc hdd hrr
  refine ((todayP_v h xs _ w9 (FA w9 (Free.Bel.refl _)).2.2.2.2.2.2.2.2.2.1.out ((FA w9 (Free.Bel.refl _)).2.2.2.2.2.2.1).out gc HGC).mono fun e w9 hh => And.intro (HTD.out e w9 hh.1) hh.2).mono ?_
  rintro e w10 ⟨⟨v1t, rfl, hi1t⟩, hB⟩
  have HI1t := Lib.hid hi1t
  obtain ⟨p1t, c1t, rfl, _, _⟩ := hi1t
  have HB_w10 := Lib.hid (HB_w9.out.trans ((hB).mono hz_w9))
  have hz_w10 : bb ≤ w10.heap.size := Nat.le_trans hz_w9 (hB).size
  have FN := fun (W : World) (hW : Free.Bel w10 W) => And.intro (Lib.hid (HI1t.out.keeps hW)) (FA W (bt (hB) hW))
  clear FA HB_w9 hz_w9 KR
  have FA := FN
  clear FN
  have KR := Free.Bel.refl w10
  clear hB HI1t
  go_wp2_with fail
  refine ((todayR_v h xs _ w10 (FA w10 (Free.Bel.refl _)).2.2.2.2.2.2.2.2.2.2.2.1.out HNZ.out).mono fun e w9 hh => And.intro (HTD.out e w9 (by rw [← HGC.out]; exact hh.1)) hh.2).mono ?_
  rintro e w11 ⟨⟨v2t, rfl, hi2t⟩, hB⟩
  have HI2t := Lib.hid hi2t
  obtain ⟨p2t, c2t, rfl, _, _⟩ := hi2t
  have HB_w11 := Lib.hid (HB_w10.out.trans ((hB).mono hz_w10))
  have hz_w11 : bb ≤ w11.heap.size := Nat.le_trans hz_w10 (hB).size
  have FN := fun (W : World) (hW : Free.Bel w11 W) => And.intro (Lib.hid (HI2t.out.keeps hW)) (FA W (bt (hB) hW))
  clear FA HB_w10 hz_w10 KR
  have FA := FN
  clear FN
  have KR := Free.Bel.refl w11
  clear hB HI2t
  have HCK := Lib.hid (fun (W : World) (hW : Free.Bel w11 W) => checkP_v h xs _ W ((FA W hW).2.2.2.2.2.2.2.2.2.2.2.1).out ((FA W hW).2.2.2.2.2.2.2.2.1).out cc HCC)
  have HCL := Lib.hid (fun (W : World) (hW : Free.Bel w11 W) => checkR7_any h xs _ W ((FA W hW).2.2.2.2.2.2.2.2.2.2.2.2.1).out)
  rw [HCC.out] at HCL
  have HSI := Lib.hid (fun (W : World) (hW : Free.Bel w11 W) => sameI_any TD _ _ W ((FA W hW).2.1).out ((FA W hW).1).out)
  have hcc9 : (cc != cc) = false := by simp
  go_wp2_with fail
  have hF : ∀ W, Free.Bel w11.drew W → Free.Bel w11 W := fun W hW => bt (Bel.drewT (Free.Bel.refl _)) hW
  refine Free.wp_free (R := Free.Bel) (by kernel_rfl) (by kernel_rfl) Free.Bel.refl Free.Bel.trans ?_
  refine Free.Chain.ex ?_ [] [5] (by kernel_rfl) (by kernel_rfl) rfl Free.Bel.refl ?_ ?_
  rotate_left 2
  simp only [an1, an2]
  rotate_left
  rotate_left
  · (intro ev W hb hR hO hD; have hS := hF W hR; obtain ⟨hb1, hb2, hb3⟩ := hb; simp only [Free.AllDeps, Free.AllOuts, Free.At, al1, al2, al3, al4, al5, and_true] at hO hD; go_simp; rfl)
  refine Free.Chain.pr (fun v _ => v = .int .i64 cc) [(0, 62)] [] (by kernel_rfl) (by kernel_rfl) rfl (fun _ _ _ _ h => h) ?_ ?_
  · (intro ev W hb hR hO hD; have hS := hF W hR; obtain ⟨hb1, hb2, hb3⟩ := hb; simp only [Free.AllDeps, Free.AllOuts, Free.At, al1, al2, al3, al4, al5, and_true] at hO hD; go_simp; refine yields_enter ?_; (with_reducible refine (HCK.out W (hF W hR)).mono ?_); rintro e W2 ⟨rfl, hB2⟩; exact ⟨_, rfl, hB2, rfl⟩)
  simp only [an1, an2]
  refine Free.Chain.ex ?_ [] [2] (by kernel_rfl) (by kernel_rfl) rfl Free.Bel.refl ?_ ?_
  rotate_left 2
  simp only [an1, an2]
  rotate_left
  rotate_left
  · (intro ev W hb hR hO hD; have hS := hF W hR; obtain ⟨hb1, hb2, hb3⟩ := hb; simp only [Free.AllDeps, Free.AllOuts, Free.At, al1, al2, al3, al4, al5, and_true] at hO hD; go_simp; rfl)
  refine Free.Chain.pr (fun v _ => v = .int .i64 cc) [(2, 64), (1, 63)] [] (by kernel_rfl) (by kernel_rfl) rfl (fun _ _ _ _ h => h) ?_ ?_
  · (intro ev W hb hR hO hD; have hS := hF W hR; obtain ⟨hb1, hb2, hb3⟩ := hb; simp only [Free.AllDeps, Free.AllOuts, Free.At, al1, al2, al3, al4, al5, and_true] at hO hD; go_simp; refine yields_enter ?_; (with_reducible refine (HCL.out W (hF W hR)).mono ?_); rintro e W2 ⟨rfl, hB2⟩; exact ⟨_, rfl, hB2, rfl⟩)
  simp only [an1, an2]
  refine Free.Chain.ex ?_ [(1, 63), (3, 65)] [] (by kernel_rfl) (by kernel_rfl) rfl Free.Bel.refl ?_ ?_
  rotate_left 2
  simp only [an1, an2]
  refine Free.Chain.ex ?_ [(4, 66), (3, 65)] [] (by kernel_rfl) (by kernel_rfl) rfl Free.Bel.refl ?_ ?_
  rotate_left 2
  simp only [an1, an2]
  rotate_left
  iterate 2 (rotate_left; intro ev W hb hR hO hD; have hS := hF W hR; obtain ⟨hb1, hb2, hb3⟩ := hb; simp only [Free.AllDeps, Free.AllOuts, Free.At, al1, al2, al3, al4, al5, and_true] at hO hD; go_simp; rfl)
  refine Free.Chain.exG ?_ [(5, 67)] [6] 5 false 67 (by kernel_rfl) (by kernel_rfl) rfl (by kernel_rfl) Free.Bel.refl ?_ ?_
  rotate_left 2
  simp only [an1, an2]
  refine Free.Chain.exG ?_ [(5, 67)] [8] 5 false 67 (by kernel_rfl) (by kernel_rfl) rfl (by kernel_rfl) Free.Bel.refl ?_ ?_
  rotate_left 2
  simp only [an1, an2]
  refine Free.Chain.exG ?_ [(6, 68), (7, 69), (5, 67)] [] 5 false 67 (by kernel_rfl) (by kernel_rfl) rfl (by kernel_rfl) Free.Bel.refl ?_ ?_
  rotate_left 2
  simp only [an1, an2]
  rotate_left
  iterate 3 (rotate_left; intro ev W hb hR hO hD; have hS := hF W hR; obtain ⟨hb1, hb2, hb3⟩ := hb; simp only [Free.AllDeps, Free.AllOuts, Free.At, al1, al2, al3, al4, al5, and_true] at hO hD; refine ⟨by simp [hD], ?_⟩; go_simp; rfl)
  refine Free.Chain.ex ?_ [(5, 67), (8, 70)] [] (by kernel_rfl) (by kernel_rfl) rfl Free.Bel.refl ?_ ?_
  rotate_left 2
  simp only [an1, an2]
  refine Free.Chain.ex ?_ [(9, 71), (5, 67)] [] (by kernel_rfl) (by kernel_rfl) rfl Free.Bel.refl ?_ ?_
  rotate_left 2
  simp only [an1, an2]
  rotate_left
  iterate 2 (rotate_left; intro ev W hb hR hO hD; have hS := hF W hR; obtain ⟨hb1, hb2, hb3⟩ := hb; simp only [Free.AllDeps, Free.AllOuts, Free.At, al1, al2, al3, al4, al5, and_true] at hO hD; go_simp; rfl)
  refine Free.Chain.exG ?_ [(10, 72)] [7] 10 false 72 (by kernel_rfl) (by kernel_rfl) rfl (by kernel_rfl) Free.Bel.refl ?_ ?_
  rotate_left 2
  simp only [an1, an2]
  refine Free.Chain.exG ?_ [(10, 72)] [9] 10 false 72 (by kernel_rfl) (by kernel_rfl) rfl (by kernel_rfl) Free.Bel.refl ?_ ?_
  rotate_left 2
  simp only [an1, an2]
  refine Free.Chain.exG ?_ [(11, 73), (12, 74), (10, 72)] [] 10 false 72 (by kernel_rfl) (by kernel_rfl) rfl (by kernel_rfl) Free.Bel.refl ?_ ?_
  rotate_left 2
  simp only [an1, an2]
  rotate_left
  iterate 3 (rotate_left; intro ev W hb hR hO hD; have hS := hF W hR; obtain ⟨hb1, hb2, hb3⟩ := hb; simp only [Free.AllDeps, Free.AllOuts, Free.At, al1, al2, al3, al4, al5, and_true] at hO hD; refine ⟨by simp [hD], ?_⟩; go_simp; rfl)
  refine Free.Chain.ex ?_ [(10, 72), (13, 75)] [] (by kernel_rfl) (by kernel_rfl) rfl Free.Bel.refl ?_ ?_
  rotate_left 2
  simp only [an1, an2]
  refine Free.Chain.ex ?_ [(14, 76), (10, 72)] [] (by kernel_rfl) (by kernel_rfl) rfl Free.Bel.refl ?_ ?_
  rotate_left 2
  simp only [an1, an2]
  rotate_left
  iterate 2 (rotate_left; intro ev W hb hR hO hD; have hS := hF W hR; obtain ⟨hb1, hb2, hb3⟩ := hb; simp only [Free.AllDeps, Free.AllOuts, Free.At, al1, al2, al3, al4, al5, and_true] at hO hD; go_simp; rfl)
  refine Free.Chain.exG ?_ [(15, 77)] [10] 15 false 77 (by kernel_rfl) (by kernel_rfl) rfl (by kernel_rfl) Free.Bel.refl ?_ ?_
  rotate_left 2
  simp only [an1, an2]
  refine Free.Chain.exG ?_ [(15, 77)] [12] 15 false 77 (by kernel_rfl) (by kernel_rfl) rfl (by kernel_rfl) Free.Bel.refl ?_ ?_
  rotate_left 2
  simp only [an1, an2]
  refine Free.Chain.exG ?_ [(16, 78), (17, 79), (15, 77)] [] 15 false 77 (by kernel_rfl) (by kernel_rfl) rfl (by kernel_rfl) Free.Bel.refl ?_ ?_
  rotate_left 2
  simp only [an1, an2]
  rotate_left
  iterate 3 (rotate_left; intro ev W hb hR hO hD; have hS := hF W hR; obtain ⟨hb1, hb2, hb3⟩ := hb; simp only [Free.AllDeps, Free.AllOuts, Free.At, al1, al2, al3, al4, al5, and_true] at hO hD; refine ⟨by simp [hD], ?_⟩; go_simp; rfl)
  refine Free.Chain.ex ?_ [(15, 77), (18, 80)] [] (by kernel_rfl) (by kernel_rfl) rfl Free.Bel.refl ?_ ?_
  rotate_left 2
  simp only [an1, an2]
  refine Free.Chain.ex ?_ [(19, 81), (15, 77)] [] (by kernel_rfl) (by kernel_rfl) rfl Free.Bel.refl ?_ ?_
  rotate_left 2
  simp only [an1, an2]
  rotate_left
  iterate 2 (rotate_left; intro ev W hb hR hO hD; have hS := hF W hR; obtain ⟨hb1, hb2, hb3⟩ := hb; simp only [Free.AllDeps, Free.AllOuts, Free.At, al1, al2, al3, al4, al5, and_true] at hO hD; go_simp; rfl)
  refine Free.Chain.exG ?_ [(20, 82)] [11] 20 false 82 (by kernel_rfl) (by kernel_rfl) rfl (by kernel_rfl) Free.Bel.refl ?_ ?_
  rotate_left 2
  simp only [an1, an2]
  refine Free.Chain.exG ?_ [(20, 82)] [13] 20 false 82 (by kernel_rfl) (by kernel_rfl) rfl (by kernel_rfl) Free.Bel.refl ?_ ?_
  rotate_left 2
  simp only [an1, an2]
  refine Free.Chain.exG ?_ [(21, 83), (22, 84), (20, 82)] [] 20 false 82 (by kernel_rfl) (by kernel_rfl) rfl (by kernel_rfl) Free.Bel.refl ?_ ?_
  rotate_left 2
  simp only [an1, an2]
  rotate_left
  iterate 3 (rotate_left; intro ev W hb hR hO hD; have hS := hF W hR; obtain ⟨hb1, hb2, hb3⟩ := hb; simp only [Free.AllDeps, Free.AllOuts, Free.At, al1, al2, al3, al4, al5, and_true] at hO hD; refine ⟨by simp [hD], ?_⟩; go_simp; rfl)
  refine Free.Chain.ex ?_ [(20, 82), (23, 85)] [] (by kernel_rfl) (by kernel_rfl) rfl Free.Bel.refl ?_ ?_
  rotate_left 2
  simp only [an1, an2]
  refine Free.Chain.ex ?_ [(24, 86), (20, 82)] [] (by kernel_rfl) (by kernel_rfl) rfl Free.Bel.refl ?_ ?_
  rotate_left 2
  simp only [an1, an2]
  rotate_left
  iterate 2 (rotate_left; intro ev W hb hR hO hD; have hS := hF W hR; obtain ⟨hb1, hb2, hb3⟩ := hb; simp only [Free.AllDeps, Free.AllOuts, Free.At, al1, al2, al3, al4, al5, and_true] at hO hD; go_simp; rfl)
  refine Free.Chain.exG ?_ [(25, 87)] [14] 25 false 87 (by kernel_rfl) (by kernel_rfl) rfl (by kernel_rfl) Free.Bel.refl ?_ ?_
  rotate_left 2
  simp only [an1, an2]
  refine Free.Chain.exG ?_ [(25, 87)] [16] 25 false 87 (by kernel_rfl) (by kernel_rfl) rfl (by kernel_rfl) Free.Bel.refl ?_ ?_
  rotate_left 2
  simp only [an1, an2]
  rotate_left
  iterate 2 (rotate_left; intro ev W hb hR hO hD; have hS := hF W hR; obtain ⟨hb1, hb2, hb3⟩ := hb; simp only [Free.AllDeps, Free.AllOuts, Free.At, al1, al2, al3, al4, al5, and_true] at hO hD; refine ⟨by simp [hD], ?_⟩; go_simp; rfl)
  refine Free.Chain.prG (fun v _ => v = .bool true) [(26, 88), (27, 89), (25, 87), (25, 87)] [] 25 false 87 (by kernel_rfl) (by kernel_rfl) rfl (by kernel_rfl) (fun _ _ _ _ h => h) ?_ ?_
  · (intro ev W hb hR hO hD; have hS := hF W hR; obtain ⟨hb1, hb2, hb3⟩ := hb; simp only [Free.AllDeps, Free.AllOuts, Free.At, al1, al2, al3, al4, al5, and_true] at hO hD; refine ⟨by simp [hD], ?_⟩; go_simp; refine yields_enter ?_; (with_reducible refine (HSI.out W (hF W hR)).mono ?_); rintro e W2 ⟨rfl, hB2⟩; exact ⟨_, rfl, hB2, rfl⟩)
  simp only [an1, an2]
  refine Free.Chain.exG ?_ [(28, 90), (25, 87)] [] 25 false 87 (by kernel_rfl) (by kernel_rfl) rfl (by kernel_rfl) Free.Bel.refl ?_ ?_
  rotate_left 2
  simp only [an1, an2]
  rotate_left
  rotate_left
  · (intro ev W hb hR hO hD; have hS := hF W hR; obtain ⟨hb1, hb2, hb3⟩ := hb; simp only [Free.AllDeps, Free.AllOuts, Free.At, al1, al2, al3, al4, al5, and_true] at hO hD; refine ⟨by simp [hD], ?_⟩; go_simp; rfl)
  refine Free.Chain.ex ?_ [(25, 87), (29, 91)] [] (by kernel_rfl) (by kernel_rfl) rfl Free.Bel.refl ?_ ?_
  rotate_left 2
  simp only [an1, an2]
  refine Free.Chain.ex ?_ [(30, 92), (28, 90)] [] (by kernel_rfl) (by kernel_rfl) rfl Free.Bel.refl ?_ ?_
  rotate_left 2
  simp only [an1, an2]
  rotate_left
  iterate 2 (rotate_left; intro ev W hb hR hO hD; have hS := hF W hR; obtain ⟨hb1, hb2, hb3⟩ := hb; simp only [Free.AllDeps, Free.AllOuts, Free.At, al1, al2, al3, al4, al5, and_true] at hO hD; go_simp; rfl)
  refine Free.Chain.exG ?_ [(31, 93)] [15] 31 false 93 (by kernel_rfl) (by kernel_rfl) rfl (by kernel_rfl) Free.Bel.refl ?_ ?_
  rotate_left 2
  simp only [an1, an2]
  refine Free.Chain.exG ?_ [(31, 93)] [17] 31 false 93 (by kernel_rfl) (by kernel_rfl) rfl (by kernel_rfl) Free.Bel.refl ?_ ?_
  rotate_left 2
  simp only [an1, an2]
  refine Free.Chain.exG ?_ [(32, 94), (33, 95), (31, 93)] [] 31 false 93 (by kernel_rfl) (by kernel_rfl) rfl (by kernel_rfl) Free.Bel.refl ?_ ?_
  rotate_left 2
  simp only [an1, an2]
  rotate_left
  iterate 3 (rotate_left; intro ev W hb hR hO hD; have hS := hF W hR; obtain ⟨hb1, hb2, hb3⟩ := hb; simp only [Free.AllDeps, Free.AllOuts, Free.At, al1, al2, al3, al4, al5, and_true] at hO hD; refine ⟨by simp [hD], ?_⟩; go_simp; rfl)
  refine Free.Chain.ex ?_ [(31, 93), (34, 96)] [] (by kernel_rfl) (by kernel_rfl) rfl Free.Bel.refl ?_ ?_
  rotate_left 2
  simp only [an1, an2]
  rotate_left
  rotate_left
  · (intro ev W hb hR hO hD; have hS := hF W hR; obtain ⟨hb1, hb2, hb3⟩ := hb; simp only [Free.AllDeps, Free.AllOuts, Free.At, al1, al2, al3, al4, al5, and_true] at hO hD; go_simp; rfl)
  intro ys w12 hR hV
  simp only [Free.AllV, Free.At, List.length_cons, List.length_nil, Nat.reduceAdd, List.getElem?_cons_succ, List.getElem?_cons_zero, true_and, and_true] at hV
  simp only [Free.putsFrom, Act.put, Nat.zero_add, Nat.reduceAdd, hV, List.setIfInBounds_toArray, List.set_cons_succ, List.set_cons_zero]
  have hN := hF w12 hR
  clear hR hF
  have HB_w12 := Lib.hid (HB_w11.out.trans ((hN).mono hz_w11))
  have hz_w12 : bb ≤ w12.heap.size := Nat.le_trans hz_w11 (hN).size
  have FN := fun (W : World) (hW : Free.Bel w12 W) => FA W (bt (hN) hW)
  clear FA HB_w11 hz_w11 KR
  have FA := FN
  clear FN
  have KR := Free.Bel.refl w12
  clear hN hV
  go_wp2_with fail
  refine ((daysP_v h xs n _ w12 (FA w12 (Free.Bel.refl _)).2.2.2.2.2.2.2.2.2.2.2.1.out ((FA w12 (Free.Bel.refl _)).2.2.2.2.2.2.2.2.1).out dc HDC).mono fun e w9 hh => And.intro (HDD.out _ e w9 hh.1) hh.2).mono ?_
  rintro e w13 ⟨⟨v3d, rfl, hi3d⟩, hB⟩
  have HI3d := Lib.hid hi3d
  obtain ⟨p3d, c3d, rfl, _, _⟩ := hi3d
  have HB_w13 := Lib.hid (HB_w12.out.trans ((hB).mono hz_w12))
  have hz_w13 : bb ≤ w13.heap.size := Nat.le_trans hz_w12 (hB).size
  have FN := fun (W : World) (hW : Free.Bel w13 W) => And.intro (Lib.hid (HI3d.out.keeps hW)) (FA W (bt (hB) hW))
  clear FA HB_w12 hz_w12 KR
  have FA := FN
  clear FN
  have KR := Free.Bel.refl w13
  clear hB HI3d
  go_wp2_with fail
  refine ((daysR_v h xs n _ w13 (FA w13 (Free.Bel.refl _)).2.2.2.2.2.2.2.2.2.2.2.2.2.1.out HNZ.out).mono fun e w9 hh => And.intro (HDD.out _ e w9 (by rw [← HDC.out]; exact hh.1)) hh.2).mono ?_
  rintro e w14 ⟨⟨v4d, rfl, hi4d⟩, hB⟩
  have HI4d := Lib.hid hi4d
  obtain ⟨p4d, c4d, rfl, _, _⟩ := hi4d
  have HB_w14 := Lib.hid (HB_w13.out.trans ((hB).mono hz_w13))
  have hz_w14 : bb ≤ w14.heap.size := Nat.le_trans hz_w13 (hB).size
  have FN := fun (W : World) (hW : Free.Bel w14 W) => And.intro (Lib.hid (HI4d.out.keeps hW)) (FA W (bt (hB) hW))
  clear FA HB_w13 hz_w13 KR
  have FA := FN
  clear FN
  have KR := Free.Bel.refl w14
  clear hB HI4d
  go_wp2_with fail
  refine ((roundP_v h xs _ w14 (FA w14 (Free.Bel.refl _)).2.2.2.2.2.2.2.2.2.2.2.2.2.1.out ((FA w14 (Free.Bel.refl _)).2.2.2.2.2.2.2.2.2.2.1).out gc HGC).mono fun e w9 hh => And.intro (HRR.out _ e w9 hh.1) hh.2).mono ?_
  rintro e w15 ⟨⟨v5, u5, rfl, hi5, hj5⟩, hB⟩
  have HI5 := Lib.hid hi5
  obtain ⟨pi5, ci5, rfl, _, _⟩ := hi5
  have HJ5 := Lib.hid hj5
  obtain ⟨pj5, cj5, rfl, _, _⟩ := hj5
  have HB_w15 := Lib.hid (HB_w14.out.trans ((hB).mono hz_w14))
  have hz_w15 : bb ≤ w15.heap.size := Nat.le_trans hz_w14 (hB).size
  have FN := fun (W : World) (hW : Free.Bel w15 W) => And.intro (Lib.hid (HI5.out.keeps hW)) (And.intro (Lib.hid (HJ5.out.keeps hW)) (FA W (bt (hB) hW)))
  clear FA HB_w14 hz_w14 KR
  have FA := FN
  clear FN
  have KR := Free.Bel.refl w15
  clear hB HI5 HJ5
  go_wp2_with fail
  refine ((roundR_v h xs _ w15 (FA w15 (Free.Bel.refl _)).2.2.2.2.2.2.2.2.2.2.2.2.2.2.2.2.1.out HNZ.out).mono fun e w9 hh => And.intro (HRR.out _ e w9 (by rw [← HGC.out]; exact hh.1)) hh.2).mono ?_
  rintro e w16 ⟨⟨v6, u6, rfl, hi6, hj6⟩, hB⟩
  have HI6 := Lib.hid hi6
  obtain ⟨pi6, ci6, rfl, _, _⟩ := hi6
  have HJ6 := Lib.hid hj6
  obtain ⟨pj6, cj6, rfl, _, _⟩ := hj6
  have HB_w16 := Lib.hid (HB_w15.out.trans ((hB).mono hz_w15))
  have hz_w16 : bb ≤ w16.heap.size := Nat.le_trans hz_w15 (hB).size
  have FN := fun (W : World) (hW : Free.Bel w16 W) => And.intro (Lib.hid (HI6.out.keeps hW)) (And.intro (Lib.hid (HJ6.out.keeps hW)) (FA W (bt (hB) hW)))
  clear FA HB_w15 hz_w15 KR
  have FA := FN
  clear FN
  have KR := Free.Bel.refl w16
  clear hB HI6 HJ6
  go_wp2_with fail
  refine (sameD_any DD _ _ w16 ((FA w16 (Free.Bel.refl _)).2.2.2.2.2.1).out ((FA w16 (Free.Bel.refl _)).2.2.2.2.1).out).mono ?_
  rintro e w17 ⟨rfl, hB⟩
  have HB_w17 := Lib.hid (HB_w16.out.trans ((hB).mono hz_w16))
  have hz_w17 : bb ≤ w17.heap.size := Nat.le_trans hz_w16 (hB).size
  have FN := fun (W : World) (hW : Free.Bel w17 W) => FA W (bt (hB) hW)
  clear FA HB_w16 hz_w16 KR
  have FA := FN
  clear FN
  have KR := Free.Bel.refl w17
  clear hB
  go_wp2_with fail
  refine (sameD_any RA _ _ w17 ((FA w17 (Free.Bel.refl _)).2.2.1).out ((FA w17 (Free.Bel.refl _)).1).out).mono ?_
  rintro e w18 ⟨rfl, hB⟩
  have HB_w18 := Lib.hid (HB_w17.out.trans ((hB).mono hz_w17))
  have hz_w18 : bb ≤ w18.heap.size := Nat.le_trans hz_w17 (hB).size
  have FN := fun (W : World) (hW : Free.Bel w18 W) => FA W (bt (hB) hW)
  clear FA HB_w17 hz_w17 KR
  have FA := FN
  clear FN
  have KR := Free.Bel.refl w18
  clear hB
  go_wp2_with fail
  refine (sameD_any RB _ _ w18 ((FA w18 (Free.Bel.refl _)).2.2.2.1).out ((FA w18 (Free.Bel.refl _)).2.1).out).mono ?_
  rintro e w19 ⟨rfl, hB⟩
  have HB_w19 := Lib.hid (HB_w18.out.trans ((hB).mono hz_w18))
  have hz_w19 : bb ≤ w19.heap.size := Nat.le_trans hz_w18 (hB).size
  have FN := fun (W : World) (hW : Free.Bel w19 W) => FA W (bt (hB) hW)
  clear FA HB_w18 hz_w18 KR
  have FA := FN
  clear FN
  have KR := Free.Bel.refl w19
  clear hB
  go_wp2_with fail
  refine (sameW_any h xs _ _ w19 ((FA w19 (Free.Bel.refl _)).2.2.2.2.2.2.2.2.2.2.2.2.2.2.1).out (FA w19 (Free.Bel.refl _)).2.2.2.2.2.2.2.2.2.2.2.2.2.2.2.2.2.2.1.out).mono ?_
  rintro e w20 ⟨rfl, hB⟩
  have HB_w20 := Lib.hid (HB_w19.out.trans ((hB).mono hz_w19))
  have hz_w20 : bb ≤ w20.heap.size := Nat.le_trans hz_w19 (hB).size
  have FN := fun (W : World) (hW : Free.Bel w20 W) => FA W (bt (hB) hW)
  clear FA HB_w19 hz_w19 KR
  have FA := FN
  clear FN
  have KR := Free.Bel.refl w20
  clear hB
  go_wp2_with fail
  go_ret
  have hbb := HBB.out
  subst hbb
  exact ⟨rfl, HB_w20.out⟩
end Go.Proofs.YtknpglgpkkhhiaaDoor

/- For every input the law RoundTells returns true, and its arguments read behind the call as they read before; what a watch is asked lies in the table as the program's text lays it (tied). Condition: that table. -/
namespace Go.Proofs.YtknpglgpkkhhiaaDoor.lawRoundTells
open Go Go.ChangeShapes Go.WideShapes Go.ChangeAt Go.RowKit
set_option linter.unusedVariables false
set_option linter.unusedSimpArgs false

set_option maxRecDepth 100000 in
theorem contract (H : Type) (enc : TypeId × Value → H) (W : World) (base : Nat) (args : Array Value) (ds gs : List (DataW H)) (before : List MemPlace)
    (hval : ∀ (j : Nat) t v, Tryd.f4.params[j]? = some t → args[j]? = some v → Value.okWide Tryd.prog W .any base t v)
    (hW : DataW.Whole enc Tryd.prog Tryd.f4.params.toList Rows.roundTellsSpec.vars false W args.toList ds gs before) (hL : laidMetH Tryd.prog Rows.roundTellsRow.laid W) :
    Calls Tryd.prog 4 args W fun e W' => ∃ v, e = .returned v ∧ Rows.roundTellsSpec.post enc Tryd.prog Tryd.f4 false true false false W args v W' := by
  have hW' := hW
  obtain ⟨p, q, hA0, hV, rfl, hfz, hnd⟩ := hW
  have hA : DataW.TrodAll enc Tryd.prog W 0 (fun _ => true) true Tryd.f4.params.toList args.toList ds p := hA0
  have hAk := hA
  rw [Tryd.params4] at hA hval
  obtain ⟨v0, vs0, d0, ds0, p0, q0, hargs, rfl, rfl, h0, r0⟩ := trodAll_cons hA
  obtain ⟨v1, vs1, d1, ds1, p1, q1, rfl, rfl, rfl, h1, r1⟩ := trodAll_cons r0
  obtain ⟨rfl, rfl, rfl⟩ := trodAll_nil r1
  obtain rfl : args = #[v0, v1] := by cases args; simp_all
  obtain ⟨rfl, rfl⟩ := trodVars_none hV
  have hlt : ∀ x ∈ p0 ++ (p1 ++ ([])), x.block < W.heap.size := fun x hx => by
    have := hW'.lt x (by simpa using hx)
    simpa using this
  obtain ⟨a0, b0, y0, z0, n0, rfl, _, _, g0, k0⟩ := Joins.open_agg2 Tryd.underlying24 (by kernel_rfl) (by kernel_rfl) (hval 0 24 _ rfl rfl) h0
  obtain ⟨h, ea0, _, _⟩ := DataW.trod_int Tryd.underlying3 g0
  simp at ea0
  subst ea0
  obtain ⟨xs, pp0, cap0, eb0, hrl0, hnz0⟩ := ricks_open Tryd.underlying22 Tryd.underlying47 (by kernel_rfl) rfl rfl rfl (by kernel_rfl) (by kernel_rfl) (by kernel_rfl) Tryd.underlying3 Tryd.underlying3 Tryd.underlying3 k0
  obtain ⟨n, rfl, _, hwf1⟩ := open_int Tryd.underlying3 (hval 1 3 _ rfl rfl) h1
  refine (tellsL_walk h xs n _ W (Tab.of_laid hL) hrl0 hnz0).mono fun e W' ⟨he, hg⟩ => ?_
  subst he
  refine ⟨_, rfl, _, _, _, [], p0 ++ (p1 ++ ([])), [], hW', ?_, ?_, ?_, hg.frame _, fun h => by cases h⟩
  · exact trodAll_cons_mk (shut_bool Tryd.underlying4 true) trodAll_mk0
  · exact Law.args_below Tab.laidOut (by kernel_rfl) hg hAk hlt
  · rfl

set_option maxRecDepth 100000 in
theorem lifted (os : Os) (started : os.Started) (H : Type) (enc : TypeId × Value → H) :
    ReturnsInHanded {} Tryd.checked os 4 .any (fun w args => (Rows.roundTellsSpec.pre enc Tryd.prog Tryd.f4 [] false w args ∧ laidMetH Tryd.prog Rows.roundTellsRow.laid w) ∧ sizedMet enc Tryd.prog Tryd.f4 (OpenSpec.ofChange Rows.roundTellsSpec) false w args) (Rows.roundTellsSpec.post enc Tryd.prog Tryd.f4 false true false false) := by
  refine returnsInHanded_of_change_and (C := Tryd.checked) (X := fun w _ => laidMetH Tryd.prog Rows.roundTellsRow.laid w) (fun _ _ _ hh h => h.of_heap hh) Tab.own started (by kernel_rfl) Tryd.func4
    (ChangeSpec.witness_shaped (enc := enc) (C := Tryd.checked) (os := os) (X := fun w _ => laidMetH Tryd.prog Rows.roundTellsRow.laid w) false (World.doorLaid Tryd.prog 17 os) #[.agg #[.int .i64 0, .slice none 0 0], .int .i64 0] 8 rfl (World.shaped_of_RefB (by kernel_rfl) (by kernel_rfl)) (by kernel_rfl) (by kernel_rfl) (by kernel_rfl) (Tab.door_met os _)) ?_
  intro W base args ds gs before hval hW _ _ hL _
  exact contract H enc W base args ds gs before hval hW hL

theorem said : Rows.RoundTellsSaid :=
  OpenClaim.holds_of_wide 4 Tryd.f4 rfl rfl rfl rfl rfl rfl rfl ⟨rfl, rfl, rfl, rfl, rfl⟩ rfl rfl rfl rfl rfl (by kernel_rfl) Tryd.func4 (by kernel_rfl)
    (of_decide_eq_true (by kernel_rfl)) (by unfold Func.isWrapper; first | (rw [if_pos (by decide +kernel)]; kernel_rfl) | (rw [if_neg (by decide +kernel)]; exact ⟨rfl, rfl⟩))
    (fun os started H enc _ => lifted os started H enc)

theorem plain (f : FuncId) (fn : Func) (hf : Tryd.pinned.checked.prog.funcNamed "oilcake/oilcakelaw07.RoundTells" = some f) (hfn : Tryd.pinned.checked.prog.funcs[f]? = some fn) :
    false = Tryd.pinned.checked.prog.looks [] ∧ ∀ (j : Nat) t, fn.params[j]? = some t → Tryd.pinned.checked.prog.wantsStandIn t = false := by
  obtain rfl : f = 4 := Option.some.inj ((show Tryd.prog.funcNamed "oilcake/oilcakelaw07.RoundTells" = some 4 by kernel_rfl).symm.trans hf) |>.symm
  obtain rfl : fn = Tryd.f4 := (Option.some.inj (Tryd.func4.symm.trans hfn)).symm
  refine ⟨by kernel_rfl, fun j t ht => ?_⟩
  rw [Tryd.params4] at ht
  have hm := Array.mem_of_getElem? ht
  have hall : (Tryd.f4.params.toList.all fun u => !Tryd.prog.wantsStandIn u) = true := by kernel_rfl
  rw [Tryd.params4] at hall
  exact (show Tryd.prog.wantsStandIn t = false by simpa using List.all_eq_true.1 hall t (by simpa using hm))

theorem card : Rows.RoundTellsCardSaid :=
  Claim7.holds_tied_plain_at .later [] _ _ _ _ said (fun _ h => by cases h) (by kernel_rfl) (fun _ h => by cases h) roundTells_row_tie rfl ⟨rfl, rfl⟩ (by kernel_rfl) rfl plain (by kernel_rfl)
#print axioms card
end Go.Proofs.YtknpglgpkkhhiaaDoor.lawRoundTells

