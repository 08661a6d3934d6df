/- For every input the law RoundBetter returns true, and its arguments read behind the call as they read before; what a watch is asked lies in the table as the program's text lays it (tied). Condition: that table. -/
/- Two rows made by two calls in one statement are two. -/
import Derived.Test.YtknpglgpkkhhiaaDoorC7
import Derived.StillTailTactics
import Derived.Deep.DeepCutAuto
namespace Go.Proofs.YtknpglgpkkhhiaaDoor
set_option linter.unusedSimpArgs false
set_option linter.unusedVariables false
open Go.RowKit Go.Proofs.YtknpglgpkkhhiaaDoor.Free2

/-- The rows that operations i and j gave lie in blocks that are there, and not in the same. -/
structure JN (i j : Nat) (X : XT) (W : World) : Prop where
  o1 : ∀ a b n c, X i = some (.agg #[a, .slice (some b) n c]) → b.block < W.heap.size
  o2 : ∀ a b n c, X j = some (.agg #[a, .slice (some b) n c]) → b.block < W.heap.size
  ne : ∀ a b n c a' b' n' c', X i = some (.agg #[a, .slice (some b) n c]) → X j = some (.agg #[a', .slice (some b') n' c']) → b.block ≠ b'.block
section
variable {i j : Nat} {X : XT} {W W' : World}
theorem JN.start : JN i j (fun _ => none) W := ⟨fun _ _ _ _ h => (by cases h), fun _ _ _ _ h => (by cases h), fun _ _ _ _ _ _ _ _ h => (by cases h)⟩
theorem JN.grow (H : JN i j X W) (h : W.heap.size ≤ W'.heap.size) : JN i j X W' := ⟨fun a b n c e => Nat.lt_of_lt_of_le (H.o1 a b n c e) h, fun a b n c e => Nat.lt_of_lt_of_le (H.o2 a b n c e) h, H.ne⟩
theorem JN.skip (H : JN i j X W) (k : Nat) (v : Value) (h1 : k ≠ i) (h2 : k ≠ j) : JN i j (upd X k v) W :=
  ⟨fun a b n c e => H.o1 a b n c (by rwa [upd_other _ _ (Ne.symm h1)] at e), fun a b n c e => H.o2 a b n c (by rwa [upd_other _ _ (Ne.symm h2)] at e), fun a b n c a' b' n' c' e e' => H.ne a b n c a' b' n' c' (by rwa [upd_other _ _ (Ne.symm h1)] at e) (by rwa [upd_other _ _ (Ne.symm h2)] at e')⟩
theorem JN.call1 (H : JN i j X W) (hij : i ≠ j) (hs : W.heap.size ≤ W'.heap.size) {x : Value} {g : Addr} {n c : Nat} (h1 : W.heap.size ≤ g.block) (h2 : g.block < W'.heap.size) : JN i j (upd X i (.agg #[x, .slice (some g) n c])) W' :=
  ⟨fun a b n c e => by rw [upd_same] at e; cases e; exact h2, fun a b n c e => by rw [upd_other _ _ (Ne.symm hij)] at e; exact Nat.lt_of_lt_of_le (H.o2 a b n c e) hs, fun a b n c a' b' n' c' e e' => by
    rw [upd_same] at e
    rw [upd_other _ _ (Ne.symm hij)] at e'
    cases e
    have := H.o2 a' b' n' c' e'
    omega⟩
theorem JN.call2 (H : JN i j X W) (hij : j ≠ i) (hs : W.heap.size ≤ W'.heap.size) {x : Value} {g : Addr} {n c : Nat} (h1 : W.heap.size ≤ g.block) (h2 : g.block < W'.heap.size) : JN i j (upd X j (.agg #[x, .slice (some g) n c])) W' :=
  ⟨fun a b n c e => by rw [upd_other _ _ (Ne.symm hij)] at e; exact Nat.lt_of_lt_of_le (H.o1 a b n c e) hs, fun a b n c e => by rw [upd_same] at e; cases e; exact h2, fun a b n c a' b' n' c' e e' => by
    rw [upd_same] at e'
    rw [upd_other _ _ (Ne.symm hij)] at e
    cases e'
    have := H.o1 a b n c e
    omega⟩
end
/-- A watch with a row of its own that is not empty. -/
def TwV (n0 : Nat) (h : Int) (ys : List Rk) (v : Value) (W : World) : Prop := ∃ g c, v = .agg #[.int .i64 h, .slice (some ⟨g, 0, none⟩) ys.length c] ∧ W.ownsRow n0 47 3 (.slice (some ⟨g, 0, none⟩) ys.length c) ys.length (cellsR ys)
theorem TwV.stable (n0 : Nat) (h : Int) (ys : List Rk) (m : Nat) : Free.Stable (RQt 24 m) (TwV n0 h ys) := fun v a b hR ⟨g, c, h1, h2⟩ => ⟨g, c, h1, hR.row (by decide) h2⟩
theorem twin_at (h : Int) (xs : List (Int × Int × Int)) (u : Value) (w : World) (hu : RL xs u w) (hz : NZ u) (hn : xs.length ≤ 1000) (hx : xs ≠ []) :
    Calls Tryd.prog 19 #[.agg #[.int .i64 h, u]] w fun e w' => (∃ g c, e = .returned (.agg #[.int .i64 h, .slice (some ⟨g, 0, none⟩) xs.length c]) ∧ w.heap.size ≤ g ∧ g < w'.heap.size ∧ w'.ownsRow w.heap.size 47 3 (.slice (some ⟨g, 0, none⟩) xs.length c) xs.length (cellsR xs)) ∧ Below w.heap.size w w' := by
  refine (twin_any h xs u w hu hz hn).mono ?_
  rintro e w' ⟨v1, rfl, hr1, hB⟩
  refine ⟨?_, hB⟩
  rcases hr1.2 with ⟨_, h9⟩ | ⟨g, cap, cur, rfl, h8, h7, _⟩
  · exact absurd (List.eq_nil_of_length_eq_zero h9) hx
  · exact ⟨g, cap, rfl, h8, lt_of_heap h7, hr1⟩
end Go.Proofs.YtknpglgpkkhhiaaDoor

/- RoundBetter: more hands, a rick less, one less moist, or one that has waited less, never make it worse. -/
namespace Go.Proofs.YtknpglgpkkhhiaaDoor
set_option linter.unusedSimpArgs false
set_option linter.unusedVariables false
open Go.RowKit Go.Proofs.YtknpglgpkkhhiaaDoor.Free2 Go.Proofs.YtknpglgpkkhhiaaDoor.ML RR

theorem coldR_self (xs : List Rk) (i : Nat) (hi : i < xs.length) : coldR xs i xs[i].2.2 = xs := by
  unfold coldR
  simp only [List.getD_eq_getElem?_getD, List.getElem?_eq_getElem hi, Option.getD_some]
  exact List.set_getElem_self hi
theorem coldR_get (xs : List Rk) (i : Nat) (hi : i < xs.length) {n : Int} {h : i < (coldR xs i n).length} : (coldR xs i n)[i] = (xs[i].1, xs[i].2.1, n) := by simp [coldR, hi]
theorem row_moist {base g n cap : Nat} {xs : List Rk} {i : Nat} {a : Int} {w : World} (h : w.ownsRow base 47 3 (.slice (some ⟨g, 0, none⟩) n cap) n (cellsR (moistR xs i a))) (hi : i < xs.length) (v : Int) :
    (w.setCell ⟨g, i * 3 + 1, none⟩ (.int .i64 v)).ownsRow base 47 3 (.slice (some ⟨g, 0, none⟩) n cap) n (cellsR (moistR xs i v)) := by
  have h1 := rick_storeE h i (by rw [moistR_length]; exact hi) v
  rw [moistR_get xs i hi, moistR_set xs i hi a v] at h1
  exact h1
theorem row_cold {base g n cap : Nat} {xs : List Rk} {i : Nat} {a : Int} {w : World} (h : w.ownsRow base 47 3 (.slice (some ⟨g, 0, none⟩) n cap) n (cellsR (coldR xs i a))) (hi : i < xs.length) (v : Int) :
    (w.setCell ⟨g, i * 3 + 2, none⟩ (.int .i64 v)).ownsRow base 47 3 (.slice (some ⟨g, 0, none⟩) n cap) n (cellsR (coldR xs i v)) := by
  have h1 := rick_store h i (by rw [coldR_length]; exact hi) v
  rw [coldR_get xs i hi] at h1
  have h2 : (coldR xs i a).set i (xs[i].1, xs[i].2.1, v) = coldR xs i v := by simp [coldR, hi]
  rw [h2] at h1
  exact h1
theorem row_other {base g n c b o : Nat} {e : TypeId} {size : Nat} {xs : List Value} {x : Value} {w : World} (h : w.ownsRow base e size (.slice (some ⟨g, 0, none⟩) n c) n xs) (hne : g ≠ b) : (w.setCell ⟨b, o, none⟩ x).ownsRow base e size (.slice (some ⟨g, 0, none⟩) n c) n xs := by
  refine row_block h fun k hk hl => Below.heap_setCell _ _ _ _ ?_
  have e : k = g := by simp [Value.ownBlock] at hk; exact hk.symm
  rw [e]
  simpa using hne
set_option maxRecDepth 100000 in
set_option maxHeartbeats 32000000 in
theorem betterL_walk (h : Int) (xs : List Rk) (q : Int) (u : Value) (w : World) (hT : TabR w) (hu : RL xs u w) (hz : NZ u) (hq0 : 0 ≤ q) (hq1 : q ≤ 255) :
    Calls Tryd.prog 16 #[.agg #[.int .i64 h, u], .int .u8 q] w fun e w' => e = .returned (.bool true) ∧ Below w.heap.size w w' := by
  have HNZ := Lib.hid hz
  have HTX := Lib.hid (fun (W : World) (hW : Below w.heap.size w W) => hT.bel hW)
  have HUX := Lib.hid (fun (W : World) (hW : Below w.heap.size w W) => hu.keeps hW)
  obtain ⟨p, cp, rfl, hm, hp⟩ := hu
  have HP := Lib.hid hp
  have HKX := Lib.hid (fun (W : World) (hW : Below w.heap.size w W) (a : Addr) (v : Value) (hv : w.cell? a = some v) => keepsB hW hv)
  clear hm hp hz hT
  have hB0 : Below w.heap.size w (w.alloc (.cells #[.int .i64 h, .slice p xs.length cp] 24)) := (Below.refl _ w).alloc (Nat.le_refl _) _
  have c0_0 : (w.alloc (.cells #[.int .i64 h, .slice p xs.length cp] 24)).cell? ⟨w.heap.size, 0, none⟩ = some (.int .i64 h) := by simp [go_sem]
  have c0_1 : (w.alloc (.cells #[.int .i64 h, .slice p xs.length cp] 24)).cell? ⟨w.heap.size, 1, none⟩ = some (.slice p xs.length cp) := by simp [go_sem]
  have HTB := Lib.hid (HTX.out _ hB0)
  go_enter Tryd.func16, Tryd.ntmps16
  go_wp2_with fail
  refine (alive_any _ HTB.out).mono ?_
  rintro e w1 ⟨rfl, hB1⟩
  have hBz : Below w.heap.size w w1 := hB0.trans (hB1.mono (by simp))
  have hzz : w.heap.size ≤ w1.heap.size := hBz.size
  have hzn : w.heap.size + 1 ≤ w1.heap.size := by have := hB1.size; simp at this; omega
  have kc0_0 := keepsB hB1 c0_0
  have kc0_1 := keepsB hB1 c0_1
  clear hB0 hB1 HTB c0_0 c0_1
  generalize hbb : w.heap.size = bb at *
  have HBB := Lib.hid hbb
  clear hbb
  have HB_w1 := Lib.hid (show Below bb w w1 from hBz)
  have hz_w1 : bb ≤ w1.heap.size := hzz
  have FA : ∀ W, Free.Bel w1 W → W.cell? ⟨bb, 0, none⟩ = some (.int .i64 h) ∧ W.cell? ⟨bb, 1, none⟩ = some (.slice p xs.length cp) ∧ Hid (TabR W) ∧ Hid (RL xs (.slice p xs.length cp) W) ∧ bb + 1 ≤ W.heap.size ∧ bb ≤ W.heap.size := fun W hW => ⟨keepsB hW kc0_0, keepsB hW kc0_1, Lib.hid (HTX.out W (hBz.trans (hW.mono hzz))), Lib.hid (HUX.out W (hBz.trans (hW.mono hzz))), Nat.le_trans hzn hW.size, Nat.le_trans hz_w1 hW.size⟩
  have KR : Free.Bel w1 w1 := Free.Bel.refl _
  clear hBz hzz kc0_0 kc0_1 hzn
  go_wp2_with fail
  cases hw : watchB h xs with
  | false =>
    refine (ready_v h xs _ w1 (FA w1 (Free.Bel.refl _)).2.2.2.1.out false (Lib.hid hw)).mono ?_
    rintro e w2 ⟨rfl, hB⟩
    have HB_w2 := Lib.hid (HB_w1.out.trans ((hB).mono hz_w1))
    have hz_w2 : bb ≤ w2.heap.size := Nat.le_trans hz_w1 (hB).size
    have FN := fun (W : World) (hW : Free.Bel w2 W) => FA W (bt (hB) hW)
    clear FA HB_w1 hz_w1 KR
    have FA := FN
    clear FN
    have KR := Free.Bel.refl w2
    clear hB
    go_wp2_with fail
    go_ret
    have hbb := HBB.out
    subst hbb
    exact ⟨rfl, HB_w2.out⟩
  | true =>
    have HW := Lib.hid hw
    refine (ready_v h xs _ w1 (FA w1 (Free.Bel.refl _)).2.2.2.1.out true (Lib.hid hw)).mono ?_
    rintro e w3 ⟨rfl, hB⟩
    have HB_w3 := Lib.hid (HB_w1.out.trans ((hB).mono hz_w1))
    have hz_w3 : bb ≤ w3.heap.size := Nat.le_trans hz_w1 (hB).size
    have FN := fun (W : World) (hW : Free.Bel w3 W) => FA W (bt (hB) hW)
    clear FA HB_w1 hz_w1 KR
    have FA := FN
    clear FN
    have KR := Free.Bel.refl w3
    clear hB
    clear hw
    go_wp2_with fail
    obtain ⟨re, hre⟩ : ∃ y, everB h xs = y := ⟨_, rfl⟩
    have HRE := Lib.hid hre
    clear hre
    refine (can_at h xs _ w3 (FA w3 (Free.Bel.refl _)).2.2.1.out (FA w3 (Free.Bel.refl _)).2.2.2.1.out HW.out re HRE).mono ?_
    rintro e w4 ⟨rfl, hB⟩
    have HB_w4 := Lib.hid (HB_w3.out.trans ((hB).mono hz_w3))
    have hz_w4 : bb ≤ w4.heap.size := Nat.le_trans hz_w3 (hB).size
    have FN := fun (W : World) (hW : Free.Bel w4 W) => FA W (bt (hB) hW)
    clear FA HB_w3 hz_w3 KR
    have FA := FN
    clear FN
    have KR := Free.Bel.refl w4
    clear hB
    obtain ⟨M, hM⟩ : ∃ y, min 3 (h + 1) = y := ⟨_, rfl⟩
    have HMB : Hid (watchB M xs = true ∧ (re = true → everB M xs = true)) := by
      show _ ∧ _
      rw [← hM, ← HRE.out]
      exact better_hands HW.out
    have hhb := (watchB_iff.1 HW.out).1
    have hhw : IntKind.i64.wrap (h + 1) = h + 1 := IntWalk.i64_in _ (by omega)
    have HM := Lib.hid hM
    clear hhb
    have KAZ : Free.Bel w4 (w4.alloc (.cells #[.int .i64 h, .slice p xs.length cp] 24)) := belAlloc _ _
    have KA0 : Free.Bel w4 (w4.alloc (.cells #[.int .i64 M, .slice p xs.length cp] 24)) := Bel.allocT (Free.Bel.refl _) _
    go_wp2_with fail
    clear KA0
    have hN : Free.Bel w4 (w4.alloc (.cells #[.int .i64 M, .slice p xs.length cp] 24)) := (Bel.allocT (Free.Bel.refl w4) _)
    have n_g40_0 : (w4.alloc (.cells #[.int .i64 M, .slice p xs.length cp] 24)).cell? ⟨w4.heap.size, 0, none⟩ = some (.int .i64 M) := by simp [go_sem]
    have n_g40_1 : (w4.alloc (.cells #[.int .i64 M, .slice p xs.length cp] 24)).cell? ⟨w4.heap.size, 1, none⟩ = some (.slice p xs.length cp) := by simp [go_sem]
    generalize (w4.alloc (.cells #[.int .i64 M, .slice p xs.length cp] 24)) = w5 at *
    obtain ⟨g40, hgz⟩ : ∃ x, x = w4.heap.size := ⟨_, rfl⟩
    rw [← hgz] at n_g40_0 n_g40_1 ⊢
    clear hgz
    have HB_w5 := Lib.hid (HB_w4.out.trans ((hN).mono hz_w4))
    have hz_w5 : bb ≤ w5.heap.size := Nat.le_trans hz_w4 (hN).size
    have FN := fun (W : World) (hW : Free.Bel w5 W) => And.intro (keepsB hW n_g40_0) (And.intro (keepsB hW n_g40_1) (FA W (bt (hN) hW)))
    clear FA HB_w4 hz_w4 KR
    have FA := FN
    clear FN
    have KR := Free.Bel.refl w5
    clear hN n_g40_0 n_g40_1
    clear hM hhw KAZ
    obtain ⟨rm, hrm⟩ : ∃ y, everB M xs = y := ⟨_, rfl⟩
    have HRM := Lib.hid hrm
    clear hrm
    refine (can_at M xs _ w5 (FA w5 (Free.Bel.refl _)).2.2.2.2.1.out (FA w5 (Free.Bel.refl _)).2.2.2.2.2.1.out HMB.out.1 rm HRM).mono ?_
    rintro e w6 ⟨rfl, hB⟩
    have HB_w6 := Lib.hid (HB_w5.out.trans ((hB).mono hz_w5))
    have hz_w6 : bb ≤ w6.heap.size := Nat.le_trans hz_w5 (hB).size
    have FN := fun (W : World) (hW : Free.Bel w6 W) => FA W (bt (hB) hW)
    clear FA HB_w5 hz_w5 KR
    have FA := FN
    clear FN
    have KR := Free.Bel.refl w6
    clear hB
    go_upto_region 10 with fail
    go_cut [59] (fun s59 W => s59 = .bool false ∧ Free.Bel w6 W)
    case first =>
      cases re with
      | true =>
        obtain rfl : rm = true := by rw [← HRM.out]; exact HMB.out.2 rfl
        go_wp2_with fail
        go_meet
        exact ⟨rfl, (Free.Bel.refl _)⟩
      | false =>
        go_wp2_with fail
        go_meet
        exact ⟨rfl, (Free.Bel.refl _)⟩
    obtain ⟨rfl, hN⟩ := hcut
    obtain ⟨w7, hwc⟩ : ∃ x, x = wc := ⟨_, rfl⟩
    subst hwc
    have HB_w7 := Lib.hid (HB_w6.out.trans ((hN).mono hz_w6))
    have hz_w7 : bb ≤ w7.heap.size := Nat.le_trans hz_w6 (hN).size
    have FN := fun (W : World) (hW : Free.Bel w7 W) => FA W (bt (hN) hW)
    clear FA HB_w6 hz_w6 KR
    have FA := FN
    clear FN
    have KR := Free.Bel.refl w7
    clear hN
    by_cases hx : xs = []
    · have hl9 : ((xs.length : Int) == 0) = true := by rw [hx]; rfl
      obtain rfl : re = true := by rw [← HRE.out]; exact ever_many HW.out (by rw [hx]; have := (watchB_iff.1 HW.out).1; simp; omega)
      clear hx
      go_wp2_with fail
      go_ret
      have hbb := HBB.out
      subst hbb
      exact ⟨rfl, HB_w7.out⟩
    have hl9 : ((xs.length : Int) == 0) = false := by cases xs with | nil => exact absurd rfl hx | cons _ _ => simp; omega
    obtain ⟨b9, off, rfl, hcp⟩ := HP.out hx
    have HCP := Lib.hid hcp
    clear hcp
    have hl0 : 0 < (xs.length : Int) := by cases xs with | nil => exact absurd rfl hx | cons _ _ => simp only [List.length_cons]; omega
    have hm0 := Int.emod_nonneg q (show (xs.length : Int) ≠ 0 by omega)
    have hm1 := Int.emod_lt_of_pos q hl0
    obtain ⟨k, hk9⟩ : ∃ k : Nat, q % (xs.length : Int) = k := ⟨_, (Int.toNat_of_nonneg hm0).symm⟩
    rw [hk9] at hm1
    have hkl : k < xs.length := by omega
    have HKL := Lib.hid hkl
    have cq : IntKind.i64.wrap q = q := IntWalk.i64_in _ (by omega)
    have dk : q.tmod xs.length = k := by rw [Int.tmod_eq_emod_of_nonneg (by omega), hk9]
    have hl4 : xs.length ≤ 4 := (watchB_iff.1 HW.out).2.1
    have ek : IntKind.i64.wrap (k : Int) = k := IntWalk.i64_in _ (by omega)
    have hln : ¬ ((xs.length : Int) = 0) := by omega
    have hkn : ¬ ((k : Int) < 0) := by omega
    have hki : (k : Int) < xs.length := by omega
    clear hm0 hm1 hk9 hl0
    clear hx
    go_wp2_with fail
    obtain ⟨x1, x2, x3, hx9, d0, d1, d2⟩ : ∃ y1 y2 y3, xs[k]'(HKL.out) = (y1, y2, y3) ∧ w.cell? ⟨b9, off + k * 3, none⟩ = some (.int .i64 y1) ∧ w.cell? ⟨b9, off + k * 3 + 1, none⟩ = some (.int .i64 y2) ∧ w.cell? ⟨b9, off + k * 3 + 2, none⟩ = some (.int .i64 y3) := ⟨_, _, _, rfl, HCP.out k HKL.out⟩
    have hb9 : b9 < bb := by have h9 := lt_of_cell d0; have h8 := HBB.out; simp only at h9; omega
    have HX9 := Lib.hid hx9
    clear hx9
    have FN : ∀ W, Free.Bel w7 W → W.cell? ⟨g40, 0, none⟩ = some (.int .i64 M) ∧ W.cell? ⟨g40, 1, none⟩ = some (.slice (some ⟨b9, off, none⟩) xs.length cp) ∧ W.cell? ⟨bb, 0, none⟩ = some (.int .i64 h) ∧ W.cell? ⟨bb, 1, none⟩ = some (.slice (some ⟨b9, off, none⟩) xs.length cp) ∧ Hid (TabR W) ∧ Hid (RL xs (.slice (some ⟨b9, off, none⟩) xs.length cp) W) ∧ bb + 1 ≤ W.heap.size ∧ bb ≤ W.heap.size ∧ W.cell? ⟨b9, off + k * 3, none⟩ = some (.int .i64 x1) ∧ W.cell? ⟨b9, off + k * 3 + 1, none⟩ = some (.int .i64 x2) ∧ W.cell? ⟨b9, off + k * 3 + 2, none⟩ = some (.int .i64 x3) := fun W hW => by
      obtain ⟨a0, a1, a2, a3, a4, a5, a6, a7⟩ := FA W hW
      exact ⟨a0, a1, a2, a3, a4, a5, a6, a7, HKX.out W (HB_w7.out.trans (hW.mono hz_w7)) _ _ d0, HKX.out W (HB_w7.out.trans (hW.mono hz_w7)) _ _ d1, HKX.out W (HB_w7.out.trans (hW.mono hz_w7)) _ _ d2⟩
    clear FA
    have FA := FN
    clear FN
    clear d0 d1 d2
    obtain ⟨LE, hLE⟩ : ∃ y, xs.eraseIdx k = y := ⟨_, rfl⟩
    have HLE := Lib.hid hLE
    have HDA := Lib.hid (drop_at HW.out HKL.out)
    have hle4 : LE.length ≤ 4 := by rw [← hLE, List.length_eraseIdx]; split <;> omega
    have HLW : Hid (watchB h LE = true ∧ (re = true → everB h LE = true)) := by
      show _ ∧ _
      rw [← hLE, ← HRE.out]
      exact ⟨watch_less HW.out k, better_less HW.out k⟩
    clear hLE
    have HF1 := Lib.hid (fun (W : World) (hW : Free.Bel w7 W) => show Calls Tryd.prog 45 #[.agg #[.int .i64 h, .slice (some ⟨b9, off, none⟩) xs.length cp], .int .i64 x1] W fun e w' => (∃ u, e = .returned (.tuple #[.agg #[.int .i64 h, u], .int .i64 0]) ∧ w'.ownsRow W.heap.size 47 3 u LE.length (cellsR LE)) ∧ Below W.heap.size W w' from by
      have h9 := dropP_v h x1 xs _ W (FA W hW).2.2.2.2.1.out (FA W hW).2.2.2.2.2.1.out HNZ.out (by omega) (k : Int) (by have := rick_at HW.out HKL.out; rw [HX9.out] at this; exact this) 0 h HDA.out.1 HDA.out.2.1
      rw [HDA.out.2.2, HLE.out] at h9
      exact h9)
    have FBW : ∀ W', RQt 24 w7.heap.size w7.drew W' → Free.Bel w7 W' := fun W' hR => bt (Bel.drewT (Free.Bel.refl _)) (show Free.Bel w7.drew W' from hR.below)
    have hF := fun (W' : World) (hR : RQt 24 w7.heap.size w7.drew W') => FA W' (FBW W' hR)
    refine Free2.wp_free (R := RQt 24 w7.heap.size) (J := JK 24 w7.heap.size 9 11 12) (by kernel_rfl) (by kernel_rfl) (RQt.refl _ _) (fun _ _ _ => RQt.trans) (JK.start (Nat.le_refl _)) ?_
    refine Free2.Chain.ex ?_ 0 rfl [] [2] (by kernel_rfl) (by kernel_rfl) rfl (RQt.refl _ _) (fun X W v h => JK.skip h 0 v (by decide) (by decide) (fun e => absurd e (by decide))) ?_ ?_
    rotate_left
    · (intro ev W hb hR hO hD; have hS := hF W hR; obtain ⟨hb1, hb2, hb3⟩ := hb; simp only [Free.AllDeps, Free.AllOuts, Free.At, al1, al2, al3, al4, al5, and_true] at hO hD; go_simp; rfl)
    simp only [an1, an2]
    refine Free2.Chain.ex ?_ 1 rfl [] [2] (by kernel_rfl) (by kernel_rfl) rfl (RQt.refl _ _) (fun X W v h => JK.skip h 1 v (by decide) (by decide) (fun e => absurd e (by decide))) ?_ ?_
    rotate_left
    · (intro ev W hb hR hO hD; have hS := hF W hR; obtain ⟨hb1, hb2, hb3⟩ := hb; simp only [Free.AllDeps, Free.AllOuts, Free.At, al1, al2, al3, al4, al5, and_true] at hO hD; go_simp; rfl)
    simp only [an1, an2]
    refine Free2.Chain.ex ?_ 2 rfl [(1, 76)] [] (by kernel_rfl) (by kernel_rfl) rfl (RQt.refl _ _) (fun X W v h => JK.skip h 2 v (by decide) (by decide) (fun e => absurd e (by decide))) ?_ ?_
    rotate_left
    · (intro ev W hb hR hO hD; have hS := hF W hR; obtain ⟨hb1, hb2, hb3⟩ := hb; simp only [Free.AllDeps, Free.AllOuts, Free.At, al1, al2, al3, al4, al5, and_true] at hO hD; go_simp; rfl)
    simp only [an1, an2]
    refine Free2.Chain.ex ?_ 3 rfl [] [11] (by kernel_rfl) (by kernel_rfl) rfl (RQt.refl _ _) (fun X W v h => JK.skip h 3 v (by decide) (by decide) (fun e => absurd e (by decide))) ?_ ?_
    rotate_left
    · (intro ev W hb hR hO hD; have hS := hF W hR; obtain ⟨hb1, hb2, hb3⟩ := hb; simp only [Free.AllDeps, Free.AllOuts, Free.At, al1, al2, al3, al4, al5, and_true] at hO hD; go_simp; rfl)
    simp only [an1, an2]
    refine Free2.Chain.ex ?_ 4 rfl [(2, 77), (3, 78)] [] (by kernel_rfl) (by kernel_rfl) rfl (RQt.refl _ _) (fun X W v h => JK.skip h 4 v (by decide) (by decide) (fun e => absurd e (by decide))) ?_ ?_
    rotate_left
    · (intro ev W hb hR hO hD; have hS := hF W hR; obtain ⟨hb1, hb2, hb3⟩ := hb; simp only [Free.AllDeps, Free.AllOuts, Free.At, al1, al2, al3, al4, al5, and_true] at hO hD; go_simp; rfl)
    simp only [an1, an2]
    refine Free2.Chain.ex ?_ 5 rfl [(4, 79)] [] (by kernel_rfl) (by kernel_rfl) rfl (RQt.refl _ _) (fun X W v h => JK.skip h 5 v (by decide) (by decide) (fun e => absurd e (by decide))) ?_ ?_
    rotate_left
    · (intro ev W hb hR hO hD; have hS := hF W hR; obtain ⟨hb1, hb2, hb3⟩ := hb; simp only [Free.AllDeps, Free.AllOuts, Free.At, al1, al2, al3, al4, al5, and_true] at hO hD; go_simp; rfl)
    simp only [an1, an2]
    refine Free2.Chain.ex ?_ 6 rfl [(5, 80)] [] (by kernel_rfl) (by kernel_rfl) rfl (RQt.refl _ _) (fun X W v h => JK.skip h 6 v (by decide) (by decide) (fun e => absurd e (by decide))) ?_ ?_
    rotate_left
    · (intro ev W hb hR hO hD; have hS := hF W hR; obtain ⟨hb1, hb2, hb3⟩ := hb; simp only [Free.AllDeps, Free.AllOuts, Free.At, al1, al2, al3, al4, al5, and_true] at hO hD; go_simp; rfl)
    simp only [an1, an2]
    refine Free2.Chain.pr (AftV w7.heap.size (h) (LE) (0)) 7 rfl [(0, 75), (6, 81)] [] (by kernel_rfl) (by kernel_rfl) rfl (AftV.stable _ _ _ _ _) ?_ ?_
    · (intro ev W X hb hR hO hD hj hx hax; have hS := hF W hR; obtain ⟨hb1, hb2, hb3⟩ := hb; simp only [Free.AllDeps, Free.AllOuts, Free.At, al1, al2, al3, al4, al5, and_true] at hO hD; simp only [Free2.AllX, and_true] at hax; have hb := FBW W hR; go_simp; refine yields_enter ?_; (with_reducible refine (HF1.out W hb).mono ?_); rintro e W2 ⟨⟨u9, rfl, ho9⟩, hB2⟩; exact ⟨_, rfl, RQt.of_bel hB2 hj.size, ⟨u9, rfl, row_mono ho9 hj.size⟩, JK.skip (JK.bel hj hB2) 7 _ (by decide) (by decide) (fun e => absurd e (by decide))⟩)
    simp only [an1, an2]
    refine Free2.Chain.pr (AftV w7.heap.size (h) (LE) (0)) 8 rfl [(7, 82)] [] (by kernel_rfl) (by kernel_rfl) rfl (AftV.stable _ _ _ _ _) ?_ ?_
    · (intro ev W X hb hR hO hD hj hx hax; have hS := hF W hR; obtain ⟨hb1, hb2, hb3⟩ := hb; simp only [Free.AllDeps, Free.AllOuts, Free.At, al1, al2, al3, al4, al5, and_true] at hO hD; simp only [Free2.AllX, and_true] at hax; obtain ⟨u9, hu9, ho9⟩ := hD; go_simp; exact ⟨RQt.refl _ _ _, ⟨u9, rfl, ho9⟩, JK.skip hj 8 _ (by decide) (by decide) (fun e => absurd e (by decide))⟩)
    simp only [an1, an2]
    refine Free2.Chain.pr (AftW w7.heap.size (h) (LE)) 9 rfl [(8, 74)] [] (by kernel_rfl) (by kernel_rfl) rfl (AftW.stable _ _ _ _) ?_ ?_
    · (intro ev W X hb hR hO hD hj hx hax; have hS := hF W hR; obtain ⟨hb1, hb2, hb3⟩ := hb; simp only [Free.AllDeps, Free.AllOuts, Free.At, al1, al2, al3, al4, al5, and_true] at hO hD; simp only [Free2.AllX, and_true] at hax; obtain ⟨u9, hu9, ho9⟩ := hD; go_simp; exact ⟨RQt.refl _ _ _, ⟨u9, rfl, ho9⟩, JK.skip hj 9 _ (by decide) (by decide) (fun _ => hx)⟩)
    simp only [an1, an2]
    refine Free2.Chain.pr (fun v _ => v = .int .i64 (0)) 10 rfl [(8, 74)] [] (by kernel_rfl) (by kernel_rfl) rfl (fun _ _ _ _ h => h) ?_ ?_
    · (intro ev W X hb hR hO hD hj hx hax; have hS := hF W hR; obtain ⟨hb1, hb2, hb3⟩ := hb; simp only [Free.AllDeps, Free.AllOuts, Free.At, al1, al2, al3, al4, al5, and_true] at hO hD; simp only [Free2.AllX, and_true] at hax; obtain ⟨u9, hu9, ho9⟩ := hD; go_simp; first | exact ⟨RQt.refl _ _ _, rfl, JK.skip hj 10 _ (by decide) (by decide) (fun e => absurd e (by decide))⟩ | exact ⟨RQt.refl _ _ _, JK.skip hj 10 _ (by decide) (by decide) (fun e => absurd e (by decide))⟩)
    simp only [an1, an2]
    refine Free2.Chain.pr (fun _ _ => True) 11 rfl [] [] (by kernel_rfl) (by kernel_rfl) rfl (fun _ _ _ _ h => h) ?_ ?_
    · (intro ev W X hb hR hO hD hj hx hax; have hS := hF W hR; obtain ⟨hb1, hb2, hb3⟩ := hb; simp only [Free.AllDeps, Free.AllOuts, Free.At, al1, al2, al3, al4, al5, and_true] at hO hD; simp only [Free2.AllX, and_true] at hax; go_simp; exact ⟨RQt.of_bel (belAlloc _ _) hj.size, JK.made hj hx (belAlloc _ _) hj.size (World.alloc_heap_new _ _) (by decide)⟩)
    simp only [an1, an2]
    refine Free2.Chain.pr (fun _ _ => True) 12 rfl [(11, 12), (9, 83), (7, 82), (0, 75), (1, 76), (2, 77), (3, 78), (4, 79), (5, 80), (6, 81), (7, 82), (8, 74), (9, 83), (11, 12)] [] (by kernel_rfl) (by kernel_rfl) rfl (fun _ _ _ _ h => h) ?_ ?_
    · (intro ev W X hb hR hO hD hj hx hax; have hS := hF W hR; obtain ⟨hb1, hb2, hb3⟩ := hb; simp only [Free.AllDeps, Free.AllOuts, Free.At, al1, al2, al3, al4, al5, and_true] at hO hD; simp only [Free2.AllX, and_true] at hax; obtain ⟨u9, hu9, ho9⟩ := hD.2.1; obtain ⟨q9, c9, rfl⟩ := row_slice ho9; have hXe := hax.2.1; rw [hu9] at hXe; obtain ⟨b9, hb9, hs9, h39, _⟩ := hj.new _ hax.1; obtain ⟨x0, y0, h59⟩ := h39 hx; have hXa := hax.1; rw [hb9] at hXa; have c0 := cell_of_heap (o := 0) h59 rfl; have c1 := cell_of_heap (o := 1) h59 rfl; have f0 := frozen_of_heap (o := 0) h59; have f1 := frozen_of_heap (o := 1) h59; go_simp; exact ⟨RQt.trans (RQt.set hs9 h59) (RQt.set hs9 (heap_setCell_same (o := 0) _ h59)), JK.put hj hx hXa hXe (by decide) (by decide)⟩)
    simp only [an1, an2]
    refine Free2.Chain.ex ?_ 13 rfl [(10, 84), (0, 75), (1, 76), (2, 77), (3, 78), (4, 79), (5, 80), (6, 81), (7, 82), (8, 74), (9, 83), (10, 84), (11, 12)] [] (by kernel_rfl) (by kernel_rfl) rfl (RQt.refl _ _) (fun X W v h => JK.skip h 13 v (by decide) (by decide) (fun e => absurd e (by decide))) ?_ ?_
    rotate_left
    · (intro ev W hb hR hO hD; have hS := hF W hR; obtain ⟨hb1, hb2, hb3⟩ := hb; simp only [Free.AllDeps, Free.AllOuts, Free.At, al1, al2, al3, al4, al5, and_true] at hO hD; go_simp; rfl)
    simp only [an1, an2]
    intro ys w8 hR hV hX
    obtain ⟨X, hj, hxx⟩ := hX
    simp only [Free.AllV, Free.At, List.length_cons, List.length_nil, Nat.reduceAdd, List.getElem?_cons_succ, List.getElem?_cons_zero, true_and, and_true] at hV
    obtain ⟨b1, hbB, hsB, -, h4B⟩ := hj.new _ (hxx 11 (by decide))
    obtain ⟨xB, yB, hexB, hblB⟩ := h4B (by rw [hxx 12 (by decide)]; simp)
    have hvW : AftW w7.heap.size (h) (LE) (ys 9) w8 := hV.1.1.2
    obtain ⟨uB, huB, hoB⟩ := hvW
    have hxy : Value.agg #[xB, yB] = .agg #[.int .i64 (h), uB] := by rw [← huB]; exact (Option.some.inj ((hxx 9 (by decide)).symm.trans hexB)).symm
    obtain ⟨rfl, rfl⟩ : xB = .int .i64 (h) ∧ yB = uB := by simpa using hxy
    obtain ⟨qb1, kb1, rfl⟩ := row_slice hoB
    simp only [Free.putsFrom, Act.put, Nat.zero_add, Nat.reduceAdd, hV, hbB, List.setIfInBounds_toArray, List.set_cons_succ, List.set_cons_zero]
    have hN : Free.Bel w7 w8 := FBW w8 hR
    have hoC := row_mono hoB hz_w7
    have hg_b1 : bb + 1 ≤ b1 := Nat.le_trans (FA w7 (Free.Bel.refl _)).2.2.2.2.2.2.1 hsB
    have HB_w8 := Lib.hid (HB_w7.out.trans ((hN).mono hz_w7))
    have hz_w8 : bb ≤ w8.heap.size := Nat.le_trans hz_w7 (hN).size
    have FN := fun (W : World) (hW : Free.Bel w8 W) => And.intro (keepsB hW (cell_of_heap (o := 0) hblB rfl)) (And.intro (keepsB hW (cell_of_heap (o := 1) hblB rfl)) (And.intro (Lib.hid (bel_row hoC hW)) (FA W (bt (hN) hW))))
    clear FA HB_w7 hz_w7 KR
    have FA := FN
    clear FN
    have KR := Free.Bel.refl w8
    clear hR hV hj hxx hF FBW hexB hblB hoB hoC hsB h4B huB hxy hbB hN
    clear HF1
    go_wp2_with fail
    obtain ⟨rb, hrb⟩ : ∃ y, everB h LE = y := ⟨_, rfl⟩
    have HRB := Lib.hid hrb
    clear hrb
    refine (can_at h LE _ w8 (FA w8 (Free.Bel.refl _)).2.2.2.2.2.2.2.1.out (RL.of_row rfl (by unfold maxLen; omega) ((FA w8 (Free.Bel.refl _)).2.2.1).out) HLW.out.1 rb HRB).mono ?_
    rintro e w9 ⟨rfl, hB⟩
    have HB_w9 := Lib.hid (HB_w8.out.trans ((hB).mono hz_w8))
    have hz_w9 : bb ≤ w9.heap.size := Nat.le_trans hz_w8 (hB).size
    have FN := fun (W : World) (hW : Free.Bel w9 W) => FA W (bt (hB) hW)
    clear FA HB_w8 hz_w8 KR
    have FA := FN
    clear FN
    have KR := Free.Bel.refl w9
    clear hB
    go_wp2_with fail
    have HPA := Lib.hid (put_at HW.out HKL.out)
    have HF2 := Lib.hid (fun (W : World) (hW : Free.Bel w9 W) => show Calls Tryd.prog 43 #[.agg #[.int .i64 h, .slice qb1 (List.length (LE)) kb1], .agg #[.int .i64 x1, .int .i64 x2, .int .i64 x3]] W fun e w' => (∃ u, e = .returned (.tuple #[.agg #[.int .i64 h, u], .int .i64 0]) ∧ w'.ownsRow W.heap.size 47 3 u xs.length (cellsR xs)) ∧ Below W.heap.size W w' from by
      have h8 := HPA.out
      rw [HX9.out, HLE.out] at h8
      have h9 := putP_v h x1 x2 x3 LE _ W (FA W hW).2.2.2.2.2.2.2.1.out (RL.of_row rfl (by unfold maxLen; omega) ((FA W hW).2.2.1).out) (NZ.row ((FA W hW).2.2.1).out) 0 h h8.1 h8.2.1
      rw [h8.2.2] at h9
      exact h9)
    have FBW : ∀ W', RQt 24 w9.heap.size w9.drew W' → Free.Bel w9 W' := fun W' hR => bt (Bel.drewT (Free.Bel.refl _)) (show Free.Bel w9.drew W' from hR.below)
    have hF := fun (W' : World) (hR : RQt 24 w9.heap.size w9.drew W') => FA W' (FBW W' hR)
    refine Free2.wp_free (R := RQt 24 w9.heap.size) (J := JK 24 w9.heap.size 8 10 11) (by kernel_rfl) (by kernel_rfl) (RQt.refl _ _) (fun _ _ _ => RQt.trans) (JK.start (Nat.le_refl _)) ?_
    refine Free2.Chain.ex ?_ 0 rfl [] [12] (by kernel_rfl) (by kernel_rfl) rfl (RQt.refl _ _) (fun X W v h => JK.skip h 0 v (by decide) (by decide) (fun e => absurd e (by decide))) ?_ ?_
    rotate_left
    · (intro ev W hb hR hO hD; have hS := hF W hR; obtain ⟨hb1, hb2, hb3⟩ := hb; simp only [Free.AllDeps, Free.AllOuts, Free.At, al1, al2, al3, al4, al5, and_true] at hO hD; go_simp; rfl)
    simp only [an1, an2]
    refine Free2.Chain.ex ?_ 1 rfl [] [2] (by kernel_rfl) (by kernel_rfl) rfl (RQt.refl _ _) (fun X W v h => JK.skip h 1 v (by decide) (by decide) (fun e => absurd e (by decide))) ?_ ?_
    rotate_left
    · (intro ev W hb hR hO hD; have hS := hF W hR; obtain ⟨hb1, hb2, hb3⟩ := hb; simp only [Free.AllDeps, Free.AllOuts, Free.At, al1, al2, al3, al4, al5, and_true] at hO hD; go_simp; rfl)
    simp only [an1, an2]
    refine Free2.Chain.ex ?_ 2 rfl [(1, 92)] [] (by kernel_rfl) (by kernel_rfl) rfl (RQt.refl _ _) (fun X W v h => JK.skip h 2 v (by decide) (by decide) (fun e => absurd e (by decide))) ?_ ?_
    rotate_left
    · (intro ev W hb hR hO hD; have hS := hF W hR; obtain ⟨hb1, hb2, hb3⟩ := hb; simp only [Free.AllDeps, Free.AllOuts, Free.At, al1, al2, al3, al4, al5, and_true] at hO hD; go_simp; rfl)
    simp only [an1, an2]
    refine Free2.Chain.ex ?_ 3 rfl [] [11] (by kernel_rfl) (by kernel_rfl) rfl (RQt.refl _ _) (fun X W v h => JK.skip h 3 v (by decide) (by decide) (fun e => absurd e (by decide))) ?_ ?_
    rotate_left
    · (intro ev W hb hR hO hD; have hS := hF W hR; obtain ⟨hb1, hb2, hb3⟩ := hb; simp only [Free.AllDeps, Free.AllOuts, Free.At, al1, al2, al3, al4, al5, and_true] at hO hD; go_simp; rfl)
    simp only [an1, an2]
    refine Free2.Chain.ex ?_ 4 rfl [(2, 93), (3, 94)] [] (by kernel_rfl) (by kernel_rfl) rfl (RQt.refl _ _) (fun X W v h => JK.skip h 4 v (by decide) (by decide) (fun e => absurd e (by decide))) ?_ ?_
    rotate_left
    · (intro ev W hb hR hO hD; have hS := hF W hR; obtain ⟨hb1, hb2, hb3⟩ := hb; simp only [Free.AllDeps, Free.AllOuts, Free.At, al1, al2, al3, al4, al5, and_true] at hO hD; go_simp; rfl)
    simp only [an1, an2]
    refine Free2.Chain.ex ?_ 5 rfl [(4, 95)] [] (by kernel_rfl) (by kernel_rfl) rfl (RQt.refl _ _) (fun X W v h => JK.skip h 5 v (by decide) (by decide) (fun e => absurd e (by decide))) ?_ ?_
    rotate_left
    · (intro ev W hb hR hO hD; have hS := hF W hR; obtain ⟨hb1, hb2, hb3⟩ := hb; simp only [Free.AllDeps, Free.AllOuts, Free.At, al1, al2, al3, al4, al5, and_true] at hO hD; go_simp; rfl)
    simp only [an1, an2]
    refine Free2.Chain.pr (AftV w9.heap.size (h) (xs) (0)) 6 rfl [(0, 91), (5, 96)] [] (by kernel_rfl) (by kernel_rfl) rfl (AftV.stable _ _ _ _ _) ?_ ?_
    · (intro ev W X hb hR hO hD hj hx hax; have hS := hF W hR; obtain ⟨hb1, hb2, hb3⟩ := hb; simp only [Free.AllDeps, Free.AllOuts, Free.At, al1, al2, al3, al4, al5, and_true] at hO hD; simp only [Free2.AllX, and_true] at hax; have hb := FBW W hR; go_simp; refine yields_enter ?_; (with_reducible refine (HF2.out W hb).mono ?_); rintro e W2 ⟨⟨u9, rfl, ho9⟩, hB2⟩; exact ⟨_, rfl, RQt.of_bel hB2 hj.size, ⟨u9, rfl, row_mono ho9 hj.size⟩, JK.skip (JK.bel hj hB2) 6 _ (by decide) (by decide) (fun e => absurd e (by decide))⟩)
    simp only [an1, an2]
    refine Free2.Chain.pr (AftV w9.heap.size (h) (xs) (0)) 7 rfl [(6, 97)] [] (by kernel_rfl) (by kernel_rfl) rfl (AftV.stable _ _ _ _ _) ?_ ?_
    · (intro ev W X hb hR hO hD hj hx hax; have hS := hF W hR; obtain ⟨hb1, hb2, hb3⟩ := hb; simp only [Free.AllDeps, Free.AllOuts, Free.At, al1, al2, al3, al4, al5, and_true] at hO hD; simp only [Free2.AllX, and_true] at hax; obtain ⟨u9, hu9, ho9⟩ := hD; go_simp; exact ⟨RQt.refl _ _ _, ⟨u9, rfl, ho9⟩, JK.skip hj 7 _ (by decide) (by decide) (fun e => absurd e (by decide))⟩)
    simp only [an1, an2]
    refine Free2.Chain.pr (AftW w9.heap.size (h) (xs)) 8 rfl [(7, 90)] [] (by kernel_rfl) (by kernel_rfl) rfl (AftW.stable _ _ _ _) ?_ ?_
    · (intro ev W X hb hR hO hD hj hx hax; have hS := hF W hR; obtain ⟨hb1, hb2, hb3⟩ := hb; simp only [Free.AllDeps, Free.AllOuts, Free.At, al1, al2, al3, al4, al5, and_true] at hO hD; simp only [Free2.AllX, and_true] at hax; obtain ⟨u9, hu9, ho9⟩ := hD; go_simp; exact ⟨RQt.refl _ _ _, ⟨u9, rfl, ho9⟩, JK.skip hj 8 _ (by decide) (by decide) (fun _ => hx)⟩)
    simp only [an1, an2]
    refine Free2.Chain.pr (fun v _ => v = .int .i64 (0)) 9 rfl [(7, 90)] [] (by kernel_rfl) (by kernel_rfl) rfl (fun _ _ _ _ h => h) ?_ ?_
    · (intro ev W X hb hR hO hD hj hx hax; have hS := hF W hR; obtain ⟨hb1, hb2, hb3⟩ := hb; simp only [Free.AllDeps, Free.AllOuts, Free.At, al1, al2, al3, al4, al5, and_true] at hO hD; simp only [Free2.AllX, and_true] at hax; obtain ⟨u9, hu9, ho9⟩ := hD; go_simp; first | exact ⟨RQt.refl _ _ _, rfl, JK.skip hj 9 _ (by decide) (by decide) (fun e => absurd e (by decide))⟩ | exact ⟨RQt.refl _ _ _, JK.skip hj 9 _ (by decide) (by decide) (fun e => absurd e (by decide))⟩)
    simp only [an1, an2]
    refine Free2.Chain.pr (fun _ _ => True) 10 rfl [] [] (by kernel_rfl) (by kernel_rfl) rfl (fun _ _ _ _ h => h) ?_ ?_
    · (intro ev W X hb hR hO hD hj hx hax; have hS := hF W hR; obtain ⟨hb1, hb2, hb3⟩ := hb; simp only [Free.AllDeps, Free.AllOuts, Free.At, al1, al2, al3, al4, al5, and_true] at hO hD; simp only [Free2.AllX, and_true] at hax; go_simp; exact ⟨RQt.of_bel (belAlloc _ _) hj.size, JK.made hj hx (belAlloc _ _) hj.size (World.alloc_heap_new _ _) (by decide)⟩)
    simp only [an1, an2]
    refine Free2.Chain.pr (fun _ _ => True) 11 rfl [(10, 16), (8, 98), (6, 97), (0, 91), (1, 92), (2, 93), (3, 94), (4, 95), (5, 96), (6, 97), (7, 90), (8, 98), (10, 16)] [] (by kernel_rfl) (by kernel_rfl) rfl (fun _ _ _ _ h => h) ?_ ?_
    · (intro ev W X hb hR hO hD hj hx hax; have hS := hF W hR; obtain ⟨hb1, hb2, hb3⟩ := hb; simp only [Free.AllDeps, Free.AllOuts, Free.At, al1, al2, al3, al4, al5, and_true] at hO hD; simp only [Free2.AllX, and_true] at hax; obtain ⟨u9, hu9, ho9⟩ := hD.2.1; obtain ⟨q9, c9, rfl⟩ := row_slice ho9; have hXe := hax.2.1; rw [hu9] at hXe; obtain ⟨b9, hb9, hs9, h39, _⟩ := hj.new _ hax.1; obtain ⟨x0, y0, h59⟩ := h39 hx; have hXa := hax.1; rw [hb9] at hXa; have c0 := cell_of_heap (o := 0) h59 rfl; have c1 := cell_of_heap (o := 1) h59 rfl; have f0 := frozen_of_heap (o := 0) h59; have f1 := frozen_of_heap (o := 1) h59; go_simp; exact ⟨RQt.trans (RQt.set hs9 h59) (RQt.set hs9 (heap_setCell_same (o := 0) _ h59)), JK.put hj hx hXa hXe (by decide) (by decide)⟩)
    simp only [an1, an2]
    refine Free2.Chain.ex ?_ 12 rfl [(9, 99), (0, 91), (1, 92), (2, 93), (3, 94), (4, 95), (5, 96), (6, 97), (7, 90), (8, 98), (9, 99), (10, 16)] [] (by kernel_rfl) (by kernel_rfl) rfl (RQt.refl _ _) (fun X W v h => JK.skip h 12 v (by decide) (by decide) (fun e => absurd e (by decide))) ?_ ?_
    rotate_left
    · (intro ev W hb hR hO hD; have hS := hF W hR; obtain ⟨hb1, hb2, hb3⟩ := hb; simp only [Free.AllDeps, Free.AllOuts, Free.At, al1, al2, al3, al4, al5, and_true] at hO hD; go_simp; rfl)
    simp only [an1, an2]
    intro ys w10 hR hV hX
    obtain ⟨X, hj, hxx⟩ := hX
    simp only [Free.AllV, Free.At, List.length_cons, List.length_nil, Nat.reduceAdd, List.getElem?_cons_succ, List.getElem?_cons_zero, true_and, and_true] at hV
    obtain ⟨b2, hbB, hsB, -, h4B⟩ := hj.new _ (hxx 10 (by decide))
    obtain ⟨xB, yB, hexB, hblB⟩ := h4B (by rw [hxx 11 (by decide)]; simp)
    have hvW : AftW w9.heap.size (h) (xs) (ys 8) w10 := hV.1.1.2
    obtain ⟨uB, huB, hoB⟩ := hvW
    have hxy : Value.agg #[xB, yB] = .agg #[.int .i64 (h), uB] := by rw [← huB]; exact (Option.some.inj ((hxx 8 (by decide)).symm.trans hexB)).symm
    obtain ⟨rfl, rfl⟩ : xB = .int .i64 (h) ∧ yB = uB := by simpa using hxy
    obtain ⟨qb2, kb2, rfl⟩ := row_slice hoB
    simp only [Free.putsFrom, Act.put, Nat.zero_add, Nat.reduceAdd, hV, hbB, List.setIfInBounds_toArray, List.set_cons_succ, List.set_cons_zero]
    have hN : Free.Bel w9 w10 := FBW w10 hR
    have hoC := row_mono hoB hz_w9
    have hg_b2 : bb + 1 ≤ b2 := Nat.le_trans (FA w9 (Free.Bel.refl _)).2.2.2.2.2.2.2.2.2.1 hsB
    have HB_w10 := Lib.hid (HB_w9.out.trans ((hN).mono hz_w9))
    have hz_w10 : bb ≤ w10.heap.size := Nat.le_trans hz_w9 (hN).size
    have FN := fun (W : World) (hW : Free.Bel w10 W) => And.intro (keepsB hW (cell_of_heap (o := 0) hblB rfl)) (And.intro (keepsB hW (cell_of_heap (o := 1) hblB rfl)) (And.intro (Lib.hid (bel_row hoC hW)) (FA W (bt (hN) hW))))
    clear FA HB_w9 hz_w9 KR
    have FA := FN
    clear FN
    have KR := Free.Bel.refl w10
    clear hR hV hj hxx hF FBW hexB hblB hoB hoC hsB h4B huB hxy hbB hN
    clear HF2
    go_wp2_with fail
    have hxn : Hid (xs ≠ []) := by show _ ≠ _; intro e; have := HKL.out; rw [e] at this; simp at this
    have HTW := Lib.hid (fun (W : World) (hW : Free.Bel w10 W) => twin_at h xs _ W (FA W hW).2.2.2.2.2.2.2.2.2.2.2.1.out HNZ.out (by omega) hxn.out)
    have FBW : ∀ W', RQt 24 w10.heap.size w10.drew W' → Free.Bel w10 W' := fun W' hR => bt (Bel.drewT (Free.Bel.refl _)) (show Free.Bel w10.drew W' from hR.below)
    have hF := fun (W' : World) (hR : RQt 24 w10.heap.size w10.drew W') => FA W' (FBW W' hR)
    refine Free2.wp_free (R := RQt 24 w10.heap.size) (J := (fun X W => JKK 24 w10.heap.size 1 4 6 3 5 7 X W ∧ JN 1 3 X W)) (by kernel_rfl) (by kernel_rfl) (RQt.refl _ _) (fun _ _ _ => RQt.trans) ⟨JKK.start (Nat.le_refl _), JN.start⟩ ?_
    refine Free2.Chain.ex ?_ 0 rfl [] [2] (by kernel_rfl) (by kernel_rfl) rfl (RQt.refl _ _) (fun X W v h => ⟨JKK.skip h.1 0 v (by decide) (by decide) (fun e => absurd e (by decide)) (by decide) (by decide) (fun e => absurd e (by decide)), JN.skip h.2 0 v (by decide) (by decide)⟩) ?_ ?_
    rotate_left
    · (intro ev W hb hR hO hD; have hS := hF W hR; obtain ⟨hb1, hb2, hb3⟩ := hb; simp only [Free.AllDeps, Free.AllOuts, Free.At, al1, al2, al3, al4, al5, and_true] at hO hD; go_simp; rfl)
    simp only [an1, an2]
    refine Free2.Chain.pr (TwV w10.heap.size h xs) 1 rfl [(0, 100)] [] (by kernel_rfl) (by kernel_rfl) rfl (TwV.stable _ _ _ _) ?_ ?_
    · (intro ev W X hb hR hO hD hj hx hax; have hS := hF W hR; obtain ⟨hb1, hb2, hb3⟩ := hb; simp only [Free.AllDeps, Free.AllOuts, Free.At, al1, al2, al3, al4, al5, and_true] at hO hD; simp only [Free2.AllX, and_true] at hax; have hb := FBW W hR; go_simp; refine yields_enter ?_; (with_reducible refine (HTW.out W hb).mono ?_); rintro e W2 ⟨⟨g9, c9, rfl, hg8, hg9, ho9⟩, hB2⟩; exact ⟨_, rfl, RQt.of_bel hB2 hj.1.a.size, ⟨g9, c9, rfl, row_mono ho9 hj.1.a.size⟩, JKK.skip (hj.1.bel hB2) 1 _ (by decide) (by decide) (fun _ => hx) (by decide) (by decide) (fun e => absurd e (by decide)), JN.call1 hj.2 (by decide) hB2.size hg8 hg9⟩)
    simp only [an1, an2]
    refine Free2.Chain.ex ?_ 2 rfl [] [2] (by kernel_rfl) (by kernel_rfl) rfl (RQt.refl _ _) (fun X W v h => ⟨JKK.skip h.1 2 v (by decide) (by decide) (fun e => absurd e (by decide)) (by decide) (by decide) (fun e => absurd e (by decide)), JN.skip h.2 2 v (by decide) (by decide)⟩) ?_ ?_
    rotate_left
    · (intro ev W hb hR hO hD; have hS := hF W hR; obtain ⟨hb1, hb2, hb3⟩ := hb; simp only [Free.AllDeps, Free.AllOuts, Free.At, al1, al2, al3, al4, al5, and_true] at hO hD; go_simp; rfl)
    simp only [an1, an2]
    refine Free2.Chain.pr (TwV w10.heap.size h xs) 3 rfl [(2, 102), (1, 101)] [] (by kernel_rfl) (by kernel_rfl) rfl (TwV.stable _ _ _ _) ?_ ?_
    · (intro ev W X hb hR hO hD hj hx hax; have hS := hF W hR; obtain ⟨hb1, hb2, hb3⟩ := hb; simp only [Free.AllDeps, Free.AllOuts, Free.At, al1, al2, al3, al4, al5, and_true] at hO hD; simp only [Free2.AllX, and_true] at hax; have hb := FBW W hR; go_simp; refine yields_enter ?_; (with_reducible refine (HTW.out W hb).mono ?_); rintro e W2 ⟨⟨g9, c9, rfl, hg8, hg9, ho9⟩, hB2⟩; exact ⟨_, rfl, RQt.of_bel hB2 hj.1.a.size, ⟨g9, c9, rfl, row_mono ho9 hj.1.a.size⟩, JKK.skip (hj.1.bel hB2) 3 _ (by decide) (by decide) (fun e => absurd e (by decide)) (by decide) (by decide) (fun _ => hx), JN.call2 hj.2 (by decide) hB2.size hg8 hg9⟩)
    simp only [an1, an2]
    refine Free2.Chain.pr (fun _ _ => True) 4 rfl [] [] (by kernel_rfl) (by kernel_rfl) rfl (fun _ _ _ _ h => h) ?_ ?_
    · (intro ev W X hb hR hO hD hj hx hax; have hS := hF W hR; obtain ⟨hb1, hb2, hb3⟩ := hb; simp only [Free.AllDeps, Free.AllOuts, Free.At, al1, al2, al3, al4, al5, and_true] at hO hD; simp only [Free2.AllX, and_true] at hax; go_simp; exact ⟨RQt.of_bel (belAlloc _ _) hj.1.a.size, JKK.made1 hj.1 hx (by decide) (by decide) (by decide) (by decide), (hj.2.grow (by simp)).skip 4 _ (by decide) (by decide)⟩)
    simp only [an1, an2]
    refine Free2.Chain.pr (fun _ _ => True) 5 rfl [] [] (by kernel_rfl) (by kernel_rfl) rfl (fun _ _ _ _ h => h) ?_ ?_
    · (intro ev W X hb hR hO hD hj hx hax; have hS := hF W hR; obtain ⟨hb1, hb2, hb3⟩ := hb; simp only [Free.AllDeps, Free.AllOuts, Free.At, al1, al2, al3, al4, al5, and_true] at hO hD; simp only [Free2.AllX, and_true] at hax; go_simp; exact ⟨RQt.of_bel (belAlloc _ _) hj.1.a.size, JKK.made2 hj.1 hx (by decide) (by decide) (by decide) (by decide), (hj.2.grow (by simp)).skip 5 _ (by decide) (by decide)⟩)
    simp only [an1, an2]
    refine Free2.Chain.pr (fun _ _ => True) 6 rfl [(4, 18), (1, 101), (3, 103), (0, 100), (1, 101), (4, 18), (5, 19)] [] (by kernel_rfl) (by kernel_rfl) rfl (fun _ _ _ _ h => h) ?_ ?_
    · (intro ev W X hb hR hO hD hj hx hax; have hS := hF W hR; obtain ⟨hb1, hb2, hb3⟩ := hb; simp only [Free.AllDeps, Free.AllOuts, Free.At, al1, al2, al3, al4, al5, and_true] at hO hD; simp only [Free2.AllX, and_true] at hax; obtain ⟨g9, c9, hu9, ho9⟩ : TwV w10.heap.size h xs (ev (Operand.tmp 101)) W := (by first | exact hD | exact hD.1 | exact hD.2 | exact hD.2.1 | exact hD.1.1 | exact hD.1.2); have hXe := hax.2.1; rw [hu9] at hXe; have hXa := hax.1; obtain ⟨b9, hb9, hs9, h39, _⟩ := hj.1.a.new _ hXa; obtain ⟨x0, y0, h59⟩ := h39 hx; rw [hb9] at hXa; have c0 := cell_of_heap (o := 0) h59 rfl; have c1 := cell_of_heap (o := 1) h59 rfl; have f0 := frozen_of_heap (o := 0) h59; have f1 := frozen_of_heap (o := 1) h59; go_simp; exact ⟨RQt.trans (RQt.set hs9 h59) (RQt.set hs9 (heap_setCell_same (o := 0) _ h59)), JKK.put1 hj.1 hx hXa hXe (by decide) (by decide) (by decide) (by decide) (by decide), (hj.2.grow (by simp)).skip 6 _ (by decide) (by decide)⟩)
    simp only [an1, an2]
    refine Free2.Chain.pr (fun _ _ => True) 7 rfl [(5, 19), (3, 103), (0, 100), (1, 101), (2, 102), (3, 103), (4, 18), (5, 19)] [] (by kernel_rfl) (by kernel_rfl) rfl (fun _ _ _ _ h => h) ?_ ?_
    · (intro ev W X hb hR hO hD hj hx hax; have hS := hF W hR; obtain ⟨hb1, hb2, hb3⟩ := hb; simp only [Free.AllDeps, Free.AllOuts, Free.At, al1, al2, al3, al4, al5, and_true] at hO hD; simp only [Free2.AllX, and_true] at hax; obtain ⟨g9, c9, hu9, ho9⟩ : TwV w10.heap.size h xs (ev (Operand.tmp 103)) W := (by first | exact hD | exact hD.1 | exact hD.2 | exact hD.2.1 | exact hD.1.1 | exact hD.1.2); have hXe := hax.2.1; rw [hu9] at hXe; have hXa := hax.1; obtain ⟨b9, hb9, hs9, h39, _⟩ := hj.1.b.new _ hXa; obtain ⟨x0, y0, h59⟩ := h39 hx; rw [hb9] at hXa; have c0 := cell_of_heap (o := 0) h59 rfl; have c1 := cell_of_heap (o := 1) h59 rfl; have f0 := frozen_of_heap (o := 0) h59; have f1 := frozen_of_heap (o := 1) h59; go_simp; exact ⟨RQt.trans (RQt.set hs9 h59) (RQt.set hs9 (heap_setCell_same (o := 0) _ h59)), JKK.put2 hj.1 hx hXa hXe (by decide) (by decide) (by decide) (by decide) (by decide), (hj.2.grow (by simp)).skip 7 _ (by decide) (by decide)⟩)
    simp only [an1, an2]
    intro ys w11 hR hV hX
    obtain ⟨X, hj, hxx⟩ := hX
    simp only [Free.AllV, Free.At, List.length_cons, List.length_nil, Nat.reduceAdd, List.getElem?_cons_succ, List.getElem?_cons_zero, true_and, and_true] at hV
    obtain ⟨g1, c1, hy1, ho1⟩ := hV.1.1.2
    obtain ⟨g2, c2, hy3, ho2⟩ := hV.2
    have hy0 := hV.1.1.1
    have hy2 := hV.1.2
    obtain ⟨bd, hbd, hsd, -, h4d⟩ := hj.1.a.new _ (hxx 4 (by decide))
    obtain ⟨xd, yd, hexd, hbld⟩ := h4d (by rw [hxx 6 (by decide)]; simp)
    obtain ⟨bc, hbc, hsc, -, h4c⟩ := hj.1.b.new _ (hxx 5 (by decide))
    obtain ⟨xc, yc, hexc, hblc⟩ := h4c (by rw [hxx 7 (by decide)]; simp)
    have hxyd : Value.agg #[xd, yd] = .agg #[.int .i64 h, .slice (some ⟨g1, 0, none⟩) xs.length c1] := by rw [← hy1]; exact (Option.some.inj ((hxx 1 (by decide)).symm.trans hexd)).symm
    have hxyc : Value.agg #[xc, yc] = .agg #[.int .i64 h, .slice (some ⟨g2, 0, none⟩) xs.length c2] := by rw [← hy3]; exact (Option.some.inj ((hxx 3 (by decide)).symm.trans hexc)).symm
    obtain ⟨rfl, rfl⟩ : xd = .int .i64 h ∧ yd = .slice (some ⟨g1, 0, none⟩) xs.length c1 := by simpa using hxyd
    obtain ⟨rfl, rfl⟩ : xc = .int .i64 h ∧ yc = .slice (some ⟨g2, 0, none⟩) xs.length c2 := by simpa using hxyc
    have hgne : g1 ≠ g2 := hj.2.ne _ ⟨g1, 0, none⟩ _ _ _ ⟨g2, 0, none⟩ _ _ (by rw [hxx 1 (by decide), hy1]) (by rw [hxx 3 (by decide), hy3])
    obtain ⟨n1, n2, n3, n4, hsg1, hsg2⟩ : bd ≠ g1 ∧ bd ≠ g2 ∧ bc ≠ g1 ∧ bc ≠ g2 ∧ w10.heap.size ≤ g1 ∧ w10.heap.size ≤ g2 := by
      rcases ho1.2 with ⟨h9, _⟩ | ⟨ga, ca, ua, h9, h8, h7, _⟩
      · cases h9
      rcases ho2.2 with ⟨k9, _⟩ | ⟨gb, cb, ub, k9, k8, k7, _⟩
      · cases k9
      cases h9
      cases k9
      exact ⟨fun e => (by rw [e, h7] at hbld; cases hbld), fun e => (by rw [e, k7] at hbld; cases hbld), fun e => (by rw [e, h7] at hblc; cases hblc), fun e => (by rw [e, k7] at hblc; cases hblc), h8, k8⟩
    simp only [Free.putsFrom, Act.put, Nat.zero_add, Nat.reduceAdd, hy0, hy1, hy2, hy3, hbd, hbc, List.setIfInBounds_toArray, List.set_cons_succ, List.set_cons_zero]
    have hN : Free.Bel w10 w11 := FBW w11 hR
    have hbz : bb + 1 ≤ w10.heap.size := (FA w10 (Free.Bel.refl _)).2.2.2.2.2.2.2.2.2.2.2.2.1
    have hg1b : bb + 1 ≤ g1 := Nat.le_trans hbz hsg1
    have hg2b : bb + 1 ≤ g2 := Nat.le_trans hbz hsg2
    have hgdb : bb + 1 ≤ bd := Nat.le_trans hbz hsd
    have hgcb : bb + 1 ≤ bc := Nat.le_trans hbz hsc
    have hr1 := row_mono ho1 hz_w10
    have hr2 := row_mono ho2 hz_w10
    have hm0 : moistR xs k x2 = xs := by have h9 := moistR_self xs k HKL.out; rw [HX9.out] at h9; exact h9
    have hc0 : coldR xs k x3 = xs := by have h9 := coldR_self xs k HKL.out; rw [HX9.out] at h9; exact h9
    rw [show cellsR xs = cellsR (moistR xs k x2) by rw [hm0]] at hr1
    rw [show cellsR xs = cellsR (coldR xs k x3) by rw [hc0]] at hr2
    have HBK := Lib.hid (fun (W : World) (hW : Below w10.heap.size w10 W) => (RL.of_row rfl (by unfold maxLen; omega) ((FA w10 (Free.Bel.refl _)).2.2.1).out).keeps hW)
    have hb2s : b2 < w10.heap.size := lt_of_cell (p := ⟨b2, 0, none⟩) (FA w10 (Free.Bel.refl _)).1
    obtain ⟨s18, hs18⟩ : ∃ x, x = w10.heap.size := ⟨_, rfl⟩
    rw [← hs18] at hsg1 hsg2 hb2s
    have HS18 := Lib.hid hs18
    have HB_w11 := Lib.hid (HB_w10.out.trans ((hN).mono hz_w10))
    have hz_w11 : bb ≤ w11.heap.size := Nat.le_trans hz_w10 (hN).size
    have FN := fun (W : World) (hW : Free.Bel w11 W) => And.intro (keepsB hW (cell_of_heap (o := 0) hbld rfl)) (And.intro (keepsB hW (cell_of_heap (o := 1) hbld rfl)) (And.intro (keepsB hW (cell_of_heap (o := 0) hblc rfl)) (And.intro (keepsB hW (cell_of_heap (o := 1) hblc rfl)) (And.intro (Lib.hid (bel_row hr1 hW)) (And.intro (Lib.hid (bel_row hr2 hW)) (And.intro (Lib.hid (show Below s18 w10 W from by rw [HS18.out]; exact bt hN hW)) (FA W (bt (hN) hW))))))))
    clear FA HB_w10 hz_w10 KR
    have FA := FN
    clear FN
    have KR := Free.Bel.refl w11
    clear hR hV hj hxx hF FBW hexd hexc hbld hblc hsd hsc h4d h4c hxyd hxyc hy0 hy1 hy2 hy3 hbd hbc ho1 ho2 hr1 hr2 hm0 hc0 hN HTW hs18 hbz
    have hok : okR (x1, x2, x3) := (congrArg okR HX9.out).mp (watchB_ok HW.out _ (List.getElem_mem HKL.out))
    have HOK := Lib.hid hok
    unfold okR at hok
    simp only at hok
    obtain ⟨m2, hm2⟩ : ∃ y, min 6 (x2 + 1) = y := ⟨_, rfl⟩
    obtain ⟨m3, hm3⟩ : ∃ y, max 0 (x3 - 1) = y := ⟨_, rfl⟩
    have hw2 : IntKind.i64.wrap (x2 + 1) = x2 + 1 := IntWalk.i64_in _ (by omega)
    have hw3 : IntKind.i64.wrap (x3 - 1) = x3 - 1 := IntWalk.i64_in _ (by omega)
    have HDRY : Hid (watchB h (moistR xs k m2) = true ∧ (re = true → everB h (moistR xs k m2) = true)) := by
      show _ ∧ _
      have h9 := better_dry HW.out HKL.out
      rw [HX9.out] at h9
      simp only [hm2] at h9
      rw [← HRE.out]
      exact h9
    have HCOLD : Hid (watchB h (coldR xs k m3) = true ∧ (re = true → everB h (coldR xs k m3) = true)) := by
      show _ ∧ _
      have h9 := better_cold HW.out HKL.out
      rw [HX9.out] at h9
      simp only [hm3] at h9
      rw [← HRE.out]
      exact h9
    clear hok
    go_wp2_with fail
    go_still_tail 13, (by kernel_rfl)
    change wpList _ _ _ _ _ w11.drew
    have hN : Free.Bel w11 w11.drew := Bel.drewT (Free.Bel.refl _)
    generalize w11.drew = w12 at *
    have HB_w12 := Lib.hid (HB_w11.out.trans ((hN).mono hz_w11))
    have hz_w12 : bb ≤ w12.heap.size := Nat.le_trans hz_w11 (hN).size
    have FN := fun (W : World) (hW : Free.Bel w12 W) => FA W (bt (hN) hW)
    clear FA HB_w11 hz_w11 KR
    have FA := FN
    clear FN
    have KR := Free.Bel.refl w12
    clear hN
    have hrw := ((FA w12 (Free.Bel.refl _)).2.2.2.2.1).out
    have hz9 : w12.cell? ⟨g1, k * 3 + 1, none⟩ = some (.int .i64 x2) := by
      have hlm : k < (moistR xs k x2).length := (by rw [moistR_length]; exact HKL.out)
      have h9 := (rick_row hrw (moistR_length _ _ _) k hlm).2.1
      rw [moistR_get xs k HKL.out] at h9
      exact h9
    have hz8 : w12.frozen? ⟨g1, k * 3 + 1, none⟩ = false := hrw.frozenAt _
    clear hrw
    go_wp2_with fail
    clear hz9 hz8
    have hGB : bb ≤ g1 := by omega
    have HB_w13 := Lib.hid (show Below bb w (w12.setCell ⟨g1, k * 3 + 1, none⟩ (.int .i64 m2)) from (HB_w12.out).setCell (p := ⟨g1, k * 3 + 1, none⟩) hGB _)
    obtain ⟨a0, a1, a2, a3, a4, a5, a6, a7, a8, a9, a10, a11, a12, a13, a14, a15, a16, a17, a18, a19, a20, a21, a22, a23⟩ := FA w12 (Free.Bel.refl _)
    have e_0 : bd ≠ g1 := by assumption
    have n_1 : (w12.setCell ⟨g1, k * 3 + 1, none⟩ (.int .i64 m2)).cell? ⟨bd, 0, none⟩ = some (.int .i64 h) := by simp [go_sem, e_0, a0]
    have e_2 : bd ≠ g1 := by assumption
    have n_3 : (w12.setCell ⟨g1, k * 3 + 1, none⟩ (.int .i64 m2)).cell? ⟨bd, 1, none⟩ = some (.slice (some ⟨g1, 0, none⟩) xs.length c1) := by simp [go_sem, e_2, a1]
    have e_4 : bc ≠ g1 := by assumption
    have n_5 : (w12.setCell ⟨g1, k * 3 + 1, none⟩ (.int .i64 m2)).cell? ⟨bc, 0, none⟩ = some (.int .i64 h) := by simp [go_sem, e_4, a2]
    have e_6 : bc ≠ g1 := by assumption
    have n_7 : (w12.setCell ⟨g1, k * 3 + 1, none⟩ (.int .i64 m2)).cell? ⟨bc, 1, none⟩ = some (.slice (some ⟨g2, 0, none⟩) xs.length c2) := by simp [go_sem, e_6, a3]
    have r_8 : Hid ((w12.setCell ⟨g1, k * 3 + 1, none⟩ (.int .i64 m2)).ownsRow bb 47 3 (.slice (some ⟨g1, 0, none⟩) xs.length c1) xs.length (cellsR (moistR xs k m2))) := Lib.hid (row_moist a4.out HKL.out _)
    have r_9 : Hid ((w12.setCell ⟨g1, k * 3 + 1, none⟩ (.int .i64 m2)).ownsRow bb 47 3 (.slice (some ⟨g2, 0, none⟩) xs.length c2) xs.length (cellsR (coldR xs k x3))) := Lib.hid (row_other a5.out (Ne.symm hgne))
    have r_10 : Hid (Below s18 w10 (w12.setCell ⟨g1, k * 3 + 1, none⟩ (.int .i64 m2))) := Lib.hid (a6.out.setCell (p := ⟨g1, k * 3 + 1, none⟩) (by first | exact hsg1 | exact hsg2) _)
    have e_11 : b2 ≠ g1 := by omega
    have n_12 : (w12.setCell ⟨g1, k * 3 + 1, none⟩ (.int .i64 m2)).cell? ⟨b2, 0, none⟩ = some (.int .i64 (h)) := by simp [go_sem, e_11, a7]
    have e_13 : b2 ≠ g1 := by omega
    have n_14 : (w12.setCell ⟨g1, k * 3 + 1, none⟩ (.int .i64 m2)).cell? ⟨b2, 1, none⟩ = some (.slice qb2 (List.length (xs)) kb2) := by simp [go_sem, e_13, a8]
    have e_15 : bb ≠ g1 := by omega
    have n_16 : (w12.setCell ⟨g1, k * 3 + 1, none⟩ (.int .i64 m2)).cell? ⟨bb, 0, none⟩ = some (.int .i64 h) := by simp [go_sem, e_15, a15]
    have e_17 : bb ≠ g1 := by omega
    have n_18 : (w12.setCell ⟨g1, k * 3 + 1, none⟩ (.int .i64 m2)).cell? ⟨bb, 1, none⟩ = some (.slice (some ⟨b9, off, none⟩) xs.length cp) := by simp [go_sem, e_17, a16]
    have n_19 : bb + 1 ≤ (w12.setCell ⟨g1, k * 3 + 1, none⟩ (.int .i64 m2)).heap.size := by simpa using a19
    have n_20 : bb ≤ (w12.setCell ⟨g1, k * 3 + 1, none⟩ (.int .i64 m2)).heap.size := by simpa using a20
    have e_21 : b9 ≠ g1 := by omega
    have n_22 : (w12.setCell ⟨g1, k * 3 + 1, none⟩ (.int .i64 m2)).cell? ⟨b9, off + k * 3, none⟩ = some (.int .i64 x1) := by simp [go_sem, e_21, a21]
    have e_23 : b9 ≠ g1 := by omega
    have n_24 : (w12.setCell ⟨g1, k * 3 + 1, none⟩ (.int .i64 m2)).cell? ⟨b9, off + k * 3 + 1, none⟩ = some (.int .i64 x2) := by simp [go_sem, e_23, a22]
    have e_25 : b9 ≠ g1 := by omega
    have n_26 : (w12.setCell ⟨g1, k * 3 + 1, none⟩ (.int .i64 m2)).cell? ⟨b9, off + k * 3 + 2, none⟩ = some (.int .i64 x3) := by simp [go_sem, e_25, a23]
    have hz_w13 : bb ≤ (w12.setCell ⟨g1, k * 3 + 1, none⟩ (.int .i64 m2)).heap.size := by simpa using hz_w12
    generalize (w12.setCell ⟨g1, k * 3 + 1, none⟩ (.int .i64 m2)) = w13 at *
    have FN := fun (W : World) (hW : Free.Bel w13 W) => And.intro (keepsB hW n_1) (And.intro (keepsB hW n_3) (And.intro (keepsB hW n_5) (And.intro (keepsB hW n_7) (And.intro (Lib.hid (bel_row r_8.out hW)) (And.intro (Lib.hid (bel_row r_9.out hW)) (And.intro (Lib.hid (Below.trans r_10.out (hW.mono (by have := r_10.out.size; rw [HS18.out]; exact this)))) (And.intro (keepsB hW n_12) (And.intro (keepsB hW n_14) (And.intro (keepsB hW n_16) (And.intro (keepsB hW n_18) (And.intro (Lib.hid (HTX.out W (HB_w13.out.trans (hW.mono hz_w13)))) (And.intro (Lib.hid (HUX.out W (HB_w13.out.trans (hW.mono hz_w13)))) (And.intro (Nat.le_trans n_19 hW.size) (And.intro (Nat.le_trans n_20 hW.size) (And.intro (keepsB hW n_22) (And.intro (keepsB hW n_24) (keepsB hW n_26)))))))))))))))))
    clear FA KR HB_w12 hz_w12 hGB a0 a1 a2 a3 a4 a5 a6 a7 a8 a9 a10 a11 a12 a13 a14 a15 a16 a17 a18 a19 a20 a21 a22 a23 e_0 n_1 e_2 n_3 e_4 n_5 e_6 n_7 r_8 r_9 r_10 e_11 n_12 e_13 n_14 e_15 n_16 e_17 n_18 n_19 n_20 e_21 n_22 e_23 n_24 e_25 n_26
    have FA := FN
    clear FN
    have KR : Free.Bel w13 w13 := Free.Bel.refl _
    clear hm2
    go_wp2_with fail
    go_still_tail 13, (by kernel_rfl)
    change wpList _ _ _ _ _ w13.drew
    have hN : Free.Bel w13 w13.drew := Bel.drewT (Free.Bel.refl _)
    generalize w13.drew = w14 at *
    have HB_w14 := Lib.hid (HB_w13.out.trans ((hN).mono hz_w13))
    have hz_w14 : bb ≤ w14.heap.size := Nat.le_trans hz_w13 (hN).size
    have FN := fun (W : World) (hW : Free.Bel w14 W) => FA W (bt (hN) hW)
    clear FA HB_w13 hz_w13 KR
    have FA := FN
    clear FN
    have KR := Free.Bel.refl w14
    clear hN
    have hrw := ((FA w14 (Free.Bel.refl _)).2.2.2.2.2.1).out
    have hz9 : w14.cell? ⟨g2, k * 3 + 2, none⟩ = some (.int .i64 x3) := by
      have hlm : k < (coldR xs k x3).length := (by rw [coldR_length]; exact HKL.out)
      have h9 := (rick_row hrw (coldR_length _ _ _) k hlm).2.2.1
      rw [coldR_get xs k HKL.out] at h9
      exact h9
    have hz8 : w14.frozen? ⟨g2, k * 3 + 2, none⟩ = false := hrw.frozenAt _
    clear hrw
    go_wp2_with fail
    clear hz9 hz8
    have hGB : bb ≤ g2 := by omega
    have HB_w15 := Lib.hid (show Below bb w (w14.setCell ⟨g2, k * 3 + 2, none⟩ (.int .i64 m3)) from (HB_w14.out).setCell (p := ⟨g2, k * 3 + 2, none⟩) hGB _)
    obtain ⟨a0, a1, a2, a3, a4, a5, a6, a7, a8, a9, a10, a11, a12, a13, a14, a15, a16, a17⟩ := FA w14 (Free.Bel.refl _)
    have e_0 : bd ≠ g2 := by assumption
    have n_1 : (w14.setCell ⟨g2, k * 3 + 2, none⟩ (.int .i64 m3)).cell? ⟨bd, 0, none⟩ = some (.int .i64 h) := by simp [go_sem, e_0, a0]
    have e_2 : bd ≠ g2 := by assumption
    have n_3 : (w14.setCell ⟨g2, k * 3 + 2, none⟩ (.int .i64 m3)).cell? ⟨bd, 1, none⟩ = some (.slice (some ⟨g1, 0, none⟩) xs.length c1) := by simp [go_sem, e_2, a1]
    have e_4 : bc ≠ g2 := by assumption
    have n_5 : (w14.setCell ⟨g2, k * 3 + 2, none⟩ (.int .i64 m3)).cell? ⟨bc, 0, none⟩ = some (.int .i64 h) := by simp [go_sem, e_4, a2]
    have e_6 : bc ≠ g2 := by assumption
    have n_7 : (w14.setCell ⟨g2, k * 3 + 2, none⟩ (.int .i64 m3)).cell? ⟨bc, 1, none⟩ = some (.slice (some ⟨g2, 0, none⟩) xs.length c2) := by simp [go_sem, e_6, a3]
    have r_8 : Hid ((w14.setCell ⟨g2, k * 3 + 2, none⟩ (.int .i64 m3)).ownsRow bb 47 3 (.slice (some ⟨g1, 0, none⟩) xs.length c1) xs.length (cellsR (moistR xs k m2))) := Lib.hid (row_other a4.out (hgne))
    have r_9 : Hid ((w14.setCell ⟨g2, k * 3 + 2, none⟩ (.int .i64 m3)).ownsRow bb 47 3 (.slice (some ⟨g2, 0, none⟩) xs.length c2) xs.length (cellsR (coldR xs k m3))) := Lib.hid (row_cold a5.out HKL.out _)
    have r_10 : Hid (Below s18 w10 (w14.setCell ⟨g2, k * 3 + 2, none⟩ (.int .i64 m3))) := Lib.hid (a6.out.setCell (p := ⟨g2, k * 3 + 2, none⟩) (by first | exact hsg1 | exact hsg2) _)
    have e_11 : b2 ≠ g2 := by omega
    have n_12 : (w14.setCell ⟨g2, k * 3 + 2, none⟩ (.int .i64 m3)).cell? ⟨b2, 0, none⟩ = some (.int .i64 (h)) := by simp [go_sem, e_11, a7]
    have e_13 : b2 ≠ g2 := by omega
    have n_14 : (w14.setCell ⟨g2, k * 3 + 2, none⟩ (.int .i64 m3)).cell? ⟨b2, 1, none⟩ = some (.slice qb2 (List.length (xs)) kb2) := by simp [go_sem, e_13, a8]
    have e_15 : bb ≠ g2 := by omega
    have n_16 : (w14.setCell ⟨g2, k * 3 + 2, none⟩ (.int .i64 m3)).cell? ⟨bb, 0, none⟩ = some (.int .i64 h) := by simp [go_sem, e_15, a9]
    have e_17 : bb ≠ g2 := by omega
    have n_18 : (w14.setCell ⟨g2, k * 3 + 2, none⟩ (.int .i64 m3)).cell? ⟨bb, 1, none⟩ = some (.slice (some ⟨b9, off, none⟩) xs.length cp) := by simp [go_sem, e_17, a10]
    have n_19 : bb + 1 ≤ (w14.setCell ⟨g2, k * 3 + 2, none⟩ (.int .i64 m3)).heap.size := by simpa using a13
    have n_20 : bb ≤ (w14.setCell ⟨g2, k * 3 + 2, none⟩ (.int .i64 m3)).heap.size := by simpa using a14
    have e_21 : b9 ≠ g2 := by omega
    have n_22 : (w14.setCell ⟨g2, k * 3 + 2, none⟩ (.int .i64 m3)).cell? ⟨b9, off + k * 3, none⟩ = some (.int .i64 x1) := by simp [go_sem, e_21, a15]
    have e_23 : b9 ≠ g2 := by omega
    have n_24 : (w14.setCell ⟨g2, k * 3 + 2, none⟩ (.int .i64 m3)).cell? ⟨b9, off + k * 3 + 1, none⟩ = some (.int .i64 x2) := by simp [go_sem, e_23, a16]
    have e_25 : b9 ≠ g2 := by omega
    have n_26 : (w14.setCell ⟨g2, k * 3 + 2, none⟩ (.int .i64 m3)).cell? ⟨b9, off + k * 3 + 2, none⟩ = some (.int .i64 x3) := by simp [go_sem, e_25, a17]
    have hz_w15 : bb ≤ (w14.setCell ⟨g2, k * 3 + 2, none⟩ (.int .i64 m3)).heap.size := by simpa using hz_w14
    generalize (w14.setCell ⟨g2, k * 3 + 2, none⟩ (.int .i64 m3)) = w15 at *
    have FN := fun (W : World) (hW : Free.Bel w15 W) => And.intro (keepsB hW n_1) (And.intro (keepsB hW n_3) (And.intro (keepsB hW n_5) (And.intro (keepsB hW n_7) (And.intro (Lib.hid (bel_row r_8.out hW)) (And.intro (Lib.hid (bel_row r_9.out hW)) (And.intro (Lib.hid (Below.trans r_10.out (hW.mono (by have := r_10.out.size; rw [HS18.out]; exact this)))) (And.intro (keepsB hW n_12) (And.intro (keepsB hW n_14) (And.intro (keepsB hW n_16) (And.intro (keepsB hW n_18) (And.intro (Lib.hid (HTX.out W (HB_w15.out.trans (hW.mono hz_w15)))) (And.intro (Lib.hid (HUX.out W (HB_w15.out.trans (hW.mono hz_w15)))) (And.intro (Nat.le_trans n_19 hW.size) (And.intro (Nat.le_trans n_20 hW.size) (And.intro (keepsB hW n_22) (And.intro (keepsB hW n_24) (keepsB hW n_26)))))))))))))))))
    clear FA KR HB_w14 hz_w14 hGB a0 a1 a2 a3 a4 a5 a6 a7 a8 a9 a10 a11 a12 a13 a14 a15 a16 a17 e_0 n_1 e_2 n_3 e_4 n_5 e_6 n_7 r_8 r_9 r_10 e_11 n_12 e_13 n_14 e_15 n_16 e_17 n_18 n_19 n_20 e_21 n_22 e_23 n_24 e_25 n_26
    have FA := FN
    clear FN
    have KR : Free.Bel w15 w15 := Free.Bel.refl _
    clear hm3
    go_wp2_with fail
    obtain ⟨rc, hrc⟩ : ∃ y, everB h (moistR xs k m2) = y := ⟨_, rfl⟩
    have HRC := Lib.hid hrc
    clear hrc
    refine (can_at h (moistR xs k m2) _ w15 (FA w15 (Free.Bel.refl _)).2.2.2.2.2.2.2.2.2.2.2.1.out (RL.of_row (moistR_length _ _ _) (by unfold maxLen; omega) ((FA w15 (Free.Bel.refl _)).2.2.2.2.1).out) HDRY.out.1 rc HRC).mono ?_
    rintro e w16 ⟨rfl, hB⟩
    have HB_w16 := Lib.hid (HB_w15.out.trans ((hB).mono hz_w15))
    have hz_w16 : bb ≤ w16.heap.size := Nat.le_trans hz_w15 (hB).size
    have FN := fun (W : World) (hW : Free.Bel w16 W) => FA W (bt (hB) hW)
    clear FA HB_w15 hz_w15 KR
    have FA := FN
    clear FN
    have KR := Free.Bel.refl w16
    clear hB
    go_wp2_with fail
    obtain ⟨rd, hrd⟩ : ∃ y, everB h (coldR xs k m3) = y := ⟨_, rfl⟩
    have HRD := Lib.hid hrd
    clear hrd
    refine (can_at h (coldR xs k m3) _ w16 (FA w16 (Free.Bel.refl _)).2.2.2.2.2.2.2.2.2.2.2.1.out (RL.of_row (coldR_length _ _ _) (by unfold maxLen; omega) ((FA w16 (Free.Bel.refl _)).2.2.2.2.2.1).out) HCOLD.out.1 rd HRD).mono ?_
    rintro e w17 ⟨rfl, hB⟩
    have HB_w17 := Lib.hid (HB_w16.out.trans ((hB).mono hz_w16))
    have hz_w17 : bb ≤ w17.heap.size := Nat.le_trans hz_w16 (hB).size
    have FN := fun (W : World) (hW : Free.Bel w17 W) => FA W (bt (hB) hW)
    clear FA HB_w16 hz_w16 KR
    have FA := FN
    clear FN
    have KR := Free.Bel.refl w17
    clear hB
    go_wp2_with fail
    refine (sameW_any h xs _ _ w17 (HBK.out _ (by have h9 := ((FA w17 (Free.Bel.refl _)).2.2.2.2.2.2.1).out; rw [HS18.out] at h9; exact h9)) (FA w17 (Free.Bel.refl _)).2.2.2.2.2.2.2.2.2.2.2.2.1.out).mono ?_
    rintro e w18 ⟨rfl, hB⟩
    have HB_w18 := Lib.hid (HB_w17.out.trans ((hB).mono hz_w17))
    have hz_w18 : bb ≤ w18.heap.size := Nat.le_trans hz_w17 (hB).size
    have FN := fun (W : World) (hW : Free.Bel w18 W) => FA W (bt (hB) hW)
    clear FA HB_w17 hz_w17 KR
    have FA := FN
    clear FN
    have KR := Free.Bel.refl w18
    clear hB
    cases re with
    | true =>
      obtain rfl : rb = true := by rw [← HRB.out]; exact HLW.out.2 rfl
      obtain rfl : rc = true := by rw [← HRC.out]; exact HDRY.out.2 rfl
      obtain rfl : rd = true := by rw [← HRD.out]; exact HCOLD.out.2 rfl
      go_wp2_with fail
      go_ret
      have hbb := HBB.out
      subst hbb
      exact ⟨rfl, HB_w18.out⟩
    | false =>
      go_wp2_with fail
      go_ret
      have hbb := HBB.out
      subst hbb
      exact ⟨rfl, HB_w18.out⟩
end Go.Proofs.YtknpglgpkkhhiaaDoor

/- For every input the law RoundBetter returns true, and its arguments read behind the call as they read before; what a watch is asked lies in the table as the program's text lays it (tied). Condition: that table. -/
namespace Go.Proofs.YtknpglgpkkhhiaaDoor.lawRoundBetter
open Go Go.ChangeShapes Go.WideShapes Go.ChangeAt Go.RowKit
set_option linter.unusedVariables false
set_option linter.unusedSimpArgs false

set_option maxRecDepth 100000 in
theorem contract (H : Type) (enc : TypeId × Value → H) (W : World) (base : Nat) (args : Array Value) (ds gs : List (DataW H)) (before : List MemPlace)
    (hval : ∀ (j : Nat) t v, Tryd.f16.params[j]? = some t → args[j]? = some v → Value.okWide Tryd.prog W .any base t v)
    (hW : DataW.Whole enc Tryd.prog Tryd.f16.params.toList Rows.roundBetterSpec.vars false W args.toList ds gs before) (hL : laidMetH Tryd.prog Rows.roundBetterRow.laid W) :
    Calls Tryd.prog 16 args W fun e W' => ∃ v, e = .returned v ∧ Rows.roundBetterSpec.post enc Tryd.prog Tryd.f16 false true false false W args v W' := by
  have hW' := hW
  obtain ⟨p, q, hA0, hV, rfl, hfz, hnd⟩ := hW
  have hA : DataW.TrodAll enc Tryd.prog W 0 (fun _ => true) true Tryd.f16.params.toList args.toList ds p := hA0
  have hAk := hA
  rw [Tryd.params16] at hA hval
  obtain ⟨v0, vs0, d0, ds0, p0, q0, hargs, rfl, rfl, h0, r0⟩ := trodAll_cons hA
  obtain ⟨v1, vs1, d1, ds1, p1, q1, rfl, rfl, rfl, h1, r1⟩ := trodAll_cons r0
  obtain ⟨rfl, rfl, rfl⟩ := trodAll_nil r1
  obtain rfl : args = #[v0, v1] := by cases args; simp_all
  obtain ⟨rfl, rfl⟩ := trodVars_none hV
  have hlt : ∀ x ∈ p0 ++ (p1 ++ ([])), x.block < W.heap.size := fun x hx => by
    have := hW'.lt x (by simpa using hx)
    simpa using this
  obtain ⟨a0, b0, y0, z0, n0, rfl, _, _, g0, k0⟩ := Joins.open_agg2 Tryd.underlying24 (by kernel_rfl) (by kernel_rfl) (hval 0 24 _ rfl rfl) h0
  obtain ⟨h, ea0, _, _⟩ := DataW.trod_int Tryd.underlying3 g0
  simp at ea0
  subst ea0
  obtain ⟨xs, pp0, cap0, eb0, hrl0, hnz0⟩ := ricks_open Tryd.underlying22 Tryd.underlying47 (by kernel_rfl) rfl rfl rfl (by kernel_rfl) (by kernel_rfl) (by kernel_rfl) Tryd.underlying3 Tryd.underlying3 Tryd.underlying3 k0
  obtain ⟨q, rfl, _, hwf1⟩ := open_int Tryd.underlying5 (hval 1 5 _ rfl rfl) h1
  refine (betterL_walk h xs q _ W (Tab.of_laid hL) hrl0 hnz0 (u8_wf hwf1.2).1 (u8_wf hwf1.2).2).mono fun e W' ⟨he, hg⟩ => ?_
  subst he
  refine ⟨_, rfl, _, _, _, [], p0 ++ (p1 ++ ([])), [], hW', ?_, ?_, ?_, hg.frame _, fun h => by cases h⟩
  · exact trodAll_cons_mk (shut_bool Tryd.underlying4 true) trodAll_mk0
  · exact Law.args_below Tab.laidOut (by kernel_rfl) hg hAk hlt
  · rfl

set_option maxRecDepth 100000 in
theorem lifted (os : Os) (started : os.Started) (H : Type) (enc : TypeId × Value → H) :
    ReturnsInHanded {} Tryd.checked os 16 .any (fun w args => (Rows.roundBetterSpec.pre enc Tryd.prog Tryd.f16 [] false w args ∧ laidMetH Tryd.prog Rows.roundBetterRow.laid w) ∧ sizedMet enc Tryd.prog Tryd.f16 (OpenSpec.ofChange Rows.roundBetterSpec) false w args) (Rows.roundBetterSpec.post enc Tryd.prog Tryd.f16 false true false false) := by
  refine returnsInHanded_of_change_and (C := Tryd.checked) (X := fun w _ => laidMetH Tryd.prog Rows.roundBetterRow.laid w) (fun _ _ _ hh h => h.of_heap hh) Tab.own started (by kernel_rfl) Tryd.func16
    (ChangeSpec.witness_shaped (enc := enc) (C := Tryd.checked) (os := os) (X := fun w _ => laidMetH Tryd.prog Rows.roundBetterRow.laid w) false (World.doorLaid Tryd.prog 17 os) #[.agg #[.int .i64 0, .slice none 0 0], .int .u8 0] 8 rfl (World.shaped_of_RefB (by kernel_rfl) (by kernel_rfl)) (by kernel_rfl) (by kernel_rfl) (by kernel_rfl) (Tab.door_met os _)) ?_
  intro W base args ds gs before hval hW _ _ hL _
  exact contract H enc W base args ds gs before hval hW hL

theorem said : Rows.RoundBetterSaid :=
  OpenClaim.holds_of_wide 16 Tryd.f16 rfl rfl rfl rfl rfl rfl rfl ⟨rfl, rfl, rfl, rfl, rfl⟩ rfl rfl rfl rfl rfl (by kernel_rfl) Tryd.func16 (by kernel_rfl)
    (of_decide_eq_true (by kernel_rfl)) (by unfold Func.isWrapper; first | (rw [if_pos (by decide +kernel)]; kernel_rfl) | (rw [if_neg (by decide +kernel)]; exact ⟨rfl, rfl⟩))
    (fun os started H enc _ => lifted os started H enc)

theorem plain (f : FuncId) (fn : Func) (hf : Tryd.pinned.checked.prog.funcNamed "oilcake/oilcakelaw07.RoundBetter" = some f) (hfn : Tryd.pinned.checked.prog.funcs[f]? = some fn) :
    false = Tryd.pinned.checked.prog.looks [] ∧ ∀ (j : Nat) t, fn.params[j]? = some t → Tryd.pinned.checked.prog.wantsStandIn t = false := by
  obtain rfl : f = 16 := Option.some.inj ((show Tryd.prog.funcNamed "oilcake/oilcakelaw07.RoundBetter" = some 16 by kernel_rfl).symm.trans hf) |>.symm
  obtain rfl : fn = Tryd.f16 := (Option.some.inj (Tryd.func16.symm.trans hfn)).symm
  refine ⟨by kernel_rfl, fun j t ht => ?_⟩
  rw [Tryd.params16] at ht
  have hm := Array.mem_of_getElem? ht
  have hall : (Tryd.f16.params.toList.all fun u => !Tryd.prog.wantsStandIn u) = true := by kernel_rfl
  rw [Tryd.params16] at hall
  exact (show Tryd.prog.wantsStandIn t = false by simpa using List.all_eq_true.1 hall t (by simpa using hm))

theorem card : Rows.RoundBetterCardSaid :=
  Claim7.holds_tied_plain_at .later [] _ _ _ _ said (fun _ h => by cases h) (by kernel_rfl) (fun _ h => by cases h) roundBetter_row_tie rfl ⟨rfl, rfl⟩ (by kernel_rfl) rfl plain (by kernel_rfl)
#print axioms card
end Go.Proofs.YtknpglgpkkhhiaaDoor.lawRoundBetter

