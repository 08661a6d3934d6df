/- The reference's Can, Today and Spare. -/
import Derived.Test.YtknpglgpkkhhiaaDoorD6
import Derived.Deep.DeepCutAuto
import Derived.WalkMore
import Derived.Laws.StructEq
import Derived.BigQuiet
import Derived.Deep.QuietTactic
import Derived.IntWalk
namespace Go.Proofs.YtknpglgpkkhhiaaDoor
set_option linter.unusedSimpArgs false
set_option linter.unusedVariables false
open Go.RowKit Go.Proofs.YtknpglgpkkhhiaaDoor.Free2 Go.Proofs.YtknpglgpkkhhiaaDoor.ML RR

set_option maxRecDepth 100000 in
set_option maxHeartbeats 8000000 in
theorem canR_v (h : Int) (xs : List Rk) (u : Value) (w : World) (hu : RL xs u w) (hz : NZ u) (c : Int) (r : Bool) (hcr : Hid ((if watchB h xs = true then 0 else 70) = c ∧ (watchB h xs && everB h xs) = r)) :
    Calls Tryd.prog 33 #[.agg #[.int .i64 h, u]] w fun e w' => e = .returned (.tuple #[.bool r, .int .i64 c]) ∧ Below w.heap.size w w' := by
  have HUX := Lib.hid (fun (W : World) (hW : Below w.heap.size w W) => hu.keeps hW)
  have HNZ := Lib.hid hz
  obtain ⟨p, cp, rfl, hm, hp⟩ := hu
  have HP := Lib.hid hp
  have KB : Free.Bel w (w.alloc (.cells #[.int .i64 h, .slice p xs.length cp] 24)) := belAlloc _ _
  have FA : ∀ W, Free.Bel (w.alloc (.cells #[.int .i64 h, .slice p xs.length cp] 24)) W → W.cell? ⟨w.heap.size, 0, none⟩ = some (.int .i64 h) ∧ W.cell? ⟨w.heap.size, 1, none⟩ = some (.slice p xs.length cp) := fun W hW => ⟨keepsB hW (by simp [go_sem]), keepsB hW (by simp [go_sem])⟩
  have KE : Free.Bel (w.alloc (.cells #[.int .i64 h, .slice p xs.length cp] 24)) (w.alloc (.cells #[.int .i64 h, .slice p xs.length cp] 24)) := Free.Bel.refl _
  have m0 : (w.alloc (.cells #[.int .i64 h, .slice p xs.length cp] 24)).heap[w.heap.size]? = some (.cells #[.int .i64 h, .slice p xs.length cp] 24 (0, 0)) := World.alloc_heap_new w _
  have HM0 := Lib.hid m0
  clear hz hm hp m0
  cases hw : watchB h xs with
  | false =>
    have HC := Lib.hid (watchR_v h xs _ _ (HUX.out _ KB) false (Lib.hid hw))
    have HW := Lib.hid hw
    clear hw
    go_enter Tryd.func33, Tryd.ntmps33
    go_wp2_with fail
    refine HC.out.mono ?_
    rintro e w1 ⟨rfl, hB1⟩
    go_wp2_with fail
    exact bodyPost_ret (v := .tuple #[.bool false, .int .i64 70]) (by simp [results, Tryd.results33, go_sem]) rfl ⟨by obtain ⟨h1, h2⟩ := hcr.out; rw [HW.out] at h1 h2; rw [← h1, ← h2]; rfl, bt KB hB1⟩
  | true =>
    have HC := Lib.hid (watchR_v h xs _ _ (HUX.out _ KB) true (Lib.hid hw))
    have HW := Lib.hid hw
    have h4 : xs.length ≤ 4 := (watchB_iff.1 hw).2.1
    clear hw
    go_enter Tryd.func33, Tryd.ntmps33
    go_wp2_with fail
    refine HC.out.mono ?_
    rintro e w1 ⟨rfl, hB1⟩
    have K1 : Free.Bel (w.alloc (.cells #[.int .i64 h, .slice p xs.length cp] 24)) w1 := hB1
    have KW1 : Hid (Free.Bel w w1) := bt KB K1
    clear hB1 KE HC
    obtain ⟨h1, h2⟩ := hcr.out
    rw [HW.out] at h1 h2
    go_wp2_with fail
    refine (longR_any h xs _ w1 (HUX.out _ KW1.out) HNZ.out HW.out).mono ?_
    rintro e w2 ⟨⟨v, rfl, hv⟩, hB2⟩
    have hve := hv.ever.2
    have h3 : everB h xs = r := by rw [← h2]; rfl
    have h4' : c = 0 := by rw [← h1]; rfl
    rw [h3] at hve
    subst h4'
    clear hv h1 h2 h3
    go_wp2_with fail
    exact bodyPost_ret (v := .tuple #[.bool r, .int .i64 0]) (by simp [results, Tryd.results33, go_sem]) rfl ⟨rfl, bt KW1.out hB2⟩
set_option maxRecDepth 100000 in
set_option maxHeartbeats 8000000 in
theorem todayR_v (h : Int) (xs : List Rk) (u : Value) (w : World) (hu : RL xs u w) (hz : NZ u) :
    Calls Tryd.prog 35 #[.agg #[.int .i64 h, u]] w fun e w' => TodayPost h xs (goE h xs) e w' ∧ Below w.heap.size w w' := by
  have HUX := Lib.hid (fun (W : World) (hW : Below w.heap.size w W) => hu.keeps hW)
  have HNZ := Lib.hid hz
  obtain ⟨p, cp, rfl, hm, hp⟩ := hu
  have HP := Lib.hid hp
  have KB : Free.Bel w (w.alloc (.cells #[.int .i64 h, .slice p xs.length cp] 24)) := belAlloc _ _
  have FA : ∀ W, Free.Bel (w.alloc (.cells #[.int .i64 h, .slice p xs.length cp] 24)) W → W.cell? ⟨w.heap.size, 0, none⟩ = some (.int .i64 h) ∧ W.cell? ⟨w.heap.size, 1, none⟩ = some (.slice p xs.length cp) := fun W hW => ⟨keepsB hW (by simp [go_sem]), keepsB hW (by simp [go_sem])⟩
  have KE : Free.Bel (w.alloc (.cells #[.int .i64 h, .slice p xs.length cp] 24)) (w.alloc (.cells #[.int .i64 h, .slice p xs.length cp] 24)) := Free.Bel.refl _
  have m0 : (w.alloc (.cells #[.int .i64 h, .slice p xs.length cp] 24)).heap[w.heap.size]? = some (.cells #[.int .i64 h, .slice p xs.length cp] 24 (0, 0)) := World.alloc_heap_new w _
  have HM0 := Lib.hid m0
  clear hz hm hp m0
  cases hw : watchB h xs with
  | false =>
    have HC := Lib.hid (watchR_v h xs _ _ (HUX.out _ KB) false (Lib.hid hw))
    have HW := Lib.hid hw
    clear hw
    go_enter Tryd.func35, Tryd.ntmps35
    go_wp2_with fail
    refine HC.out.mono ?_
    rintro e w1 ⟨rfl, hB1⟩
    go_wp2_with fail
    exact bodyPost_ret (v := .tuple #[.slice none 0 0, .int .i64 70]) (by simp [results, Tryd.results35, go_sem]) rfl ⟨by rw [goE, if_neg (by rw [HW.out]; simp)]; exact .inl ⟨by decide, rfl⟩, bt KB hB1⟩
  | true =>
    have HC := Lib.hid (watchR_v h xs _ _ (HUX.out _ KB) true (Lib.hid hw))
    have HW := Lib.hid hw
    have h4 : xs.length ≤ 4 := (watchB_iff.1 hw).2.1
    clear hw
    go_enter Tryd.func35, Tryd.ntmps35
    go_wp2_with fail
    refine HC.out.mono ?_
    rintro e w1 ⟨rfl, hB1⟩
    have K1 : Free.Bel (w.alloc (.cells #[.int .i64 h, .slice p xs.length cp] 24)) w1 := hB1
    have KW1 : Hid (Free.Bel w w1) := bt KB K1
    clear hB1 KE HC
    go_wp2_with fail
    refine (longest_any h xs _ w1 (HUX.out _ KW1.out) HNZ.out HW.out).mono ?_
    rintro e w2 ⟨⟨vO, O, rfl, hLT, hDO⟩, hB2⟩
    have HLT := Lib.hid hLT
    obtain ⟨cn, val, hcn, hcl, hcv, hli⟩ := hLT.read (st_self HW.out)
    obtain ⟨gO, cO, rfl, hoc⟩ := hDO.at_ hcv
    have HDO := Lib.hid hDO
    have K2 : Free.Bel (w.alloc (.cells #[.int .i64 h, .slice p xs.length cp] 24)) w2 := bt K1 hB2
    have KW2 : Hid (Free.Bel w w2) := bt KW1.out hB2
    have HCC := Lib.hid (code_v h xs _ w2 (HUX.out _ KW2.out) (OkS.of_st HW.out (st_self HW.out)))
    rw [hcn] at HCC
    have hcl2 : (cn : Int) < (O.length : Int) := by omega
    have hcn0 : ¬ ((cn : Int) < 0) := by omega
    have HLI := Lib.hid hli
    clear hLT hDO hB2 hcn hcv K1 hli
    go_wp2_with fail
    refine HCC.out.mono ?_
    rintro e w3 ⟨rfl, hB3⟩
    have hoc3 := keepsB (show Free.Bel w2 w3 from hB3) hoc
    have K3 : Free.Bel (w.alloc (.cells #[.int .i64 h, .slice p xs.length cp] 24)) w3 := bt K2 hB3
    have KW3 : Hid (Free.Bel w w3) := bt KW2.out hB3
    have HDO3 : Hid (DayR O (.slice (some ⟨gO, 0, none⟩) O.length cO) w3) := HDO.out.stay fun k c f hk => ((show Free.Bel w2 w3 from hB3).block k (lt_of_heap hk)).trans hk
    clear hB3 hoc K2 HDO HCC
    cases he : everB h xs with
    | false =>
      have hval : (val != 1000000) = true := by have h9 := HLI.out.ever.2; rw [he] at h9; simpa [bne] using h9
      have HE := Lib.hid he
      clear he
      go_wp2_with fail
      exact bodyPost_ret (v := .tuple #[.slice none 0 0, .int .i64 8]) (by simp [results, Tryd.results35, go_sem]) rfl ⟨by rw [goE, if_pos HW.out, if_neg (by rw [HE.out]; simp)]; exact .inl ⟨by decide, rfl⟩, KW3.out⟩
    | true =>
      have hval : val = 1000000 := by have h9 := HLI.out.ever.2; rw [he] at h9; simpa using h9
      subst hval
      have HE := Lib.hid he
      clear he

      go_wp2_with fail
      refine (firstR_any h xs xs O 1000000 (stepE h xs) (everB h) _ _ w3 (HUX.out _ KW3.out) HNZ.out HDO3.out.il HW.out (st_self HW.out) HLT.out.1 HLT.out.ever_q (ever_step HE.out).1).mono ?_
      rintro e w4 ⟨⟨v1, v2, rfl, hd1, ho2⟩, hB4⟩
      have HD1 := Lib.hid hd1.day
      have hr1 := hd1
      obtain ⟨q1, c1, rfl⟩ := row_slice hr1
      obtain ⟨q2, c2, rfl⟩ := row_slice ho2
      have HB4 := Lib.hid hB4
      clear hr1 hd1 ho2 hB4
      go_wp2_with fail
      exact bodyPost_ret (v := .tuple #[.slice q1 (stepE h xs).length c1, .int .i64 0]) (by simp [results, Tryd.results35, go_sem]) rfl ⟨by rw [goE, if_pos HW.out, if_pos HE.out]; exact .inr ⟨rfl, _, rfl, HD1.out.bel (belAlloc _ _)⟩, bt KW3.out (bt HB4.out (belAlloc _ _))⟩
set_option maxRecDepth 100000 in
set_option maxHeartbeats 16000000 in
theorem spareR_v (h : Int) (xs : List Rk) (u : Value) (w : World) (hu : RL xs u w) (hz : NZ u) :
    Calls Tryd.prog 54 #[.agg #[.int .i64 h, u]] w fun e w' => SpPost h xs (goE h xs) e ∧ Below w.heap.size w w' := by
  have HUX := Lib.hid (fun (W : World) (hW : Below w.heap.size w W) => hu.keeps hW)
  have HNZ := Lib.hid hz
  obtain ⟨p, cp, rfl, hm, hp⟩ := hu
  have HP := Lib.hid hp
  have KB : Free.Bel w (w.alloc (.cells #[.int .i64 h, .slice p xs.length cp] 24)) := belAlloc _ _
  have FA : ∀ W, Free.Bel (w.alloc (.cells #[.int .i64 h, .slice p xs.length cp] 24)) W → W.cell? ⟨w.heap.size, 0, none⟩ = some (.int .i64 h) ∧ W.cell? ⟨w.heap.size, 1, none⟩ = some (.slice p xs.length cp) := fun W hW => ⟨keepsB hW (by simp [go_sem]), keepsB hW (by simp [go_sem])⟩
  have KE : Free.Bel (w.alloc (.cells #[.int .i64 h, .slice p xs.length cp] 24)) (w.alloc (.cells #[.int .i64 h, .slice p xs.length cp] 24)) := Free.Bel.refl _
  have m0 : (w.alloc (.cells #[.int .i64 h, .slice p xs.length cp] 24)).heap[w.heap.size]? = some (.cells #[.int .i64 h, .slice p xs.length cp] 24 (0, 0)) := World.alloc_heap_new w _
  have HM0 := Lib.hid m0
  clear hz hm hp m0
  cases hw : watchB h xs with
  | false =>
    have HC := Lib.hid (watchR_v h xs _ _ (HUX.out _ KB) false (Lib.hid hw))
    have HW := Lib.hid hw
    clear hw
    go_enter Tryd.func54, Tryd.ntmps54
    go_wp2_with fail
    refine HC.out.mono ?_
    rintro e w1 ⟨rfl, hB1⟩
    go_wp2_with fail
    exact bodyPost_ret (v := .tuple #[.int .i64 0, .int .i64 70]) (by simp [results, Tryd.results54, go_sem]) rfl ⟨by rw [goE, if_neg (by rw [HW.out]; simp)]; exact .inl ⟨by decide, rfl⟩, bt KB hB1⟩
  | true =>
    have HC := Lib.hid (watchR_v h xs _ _ (HUX.out _ KB) true (Lib.hid hw))
    have HW := Lib.hid hw
    have h4 : xs.length ≤ 4 := (watchB_iff.1 hw).2.1
    clear hw
    go_enter Tryd.func54, Tryd.ntmps54
    go_wp2_with fail
    refine HC.out.mono ?_
    rintro e w1 ⟨rfl, hB1⟩
    have K1 : Free.Bel (w.alloc (.cells #[.int .i64 h, .slice p xs.length cp] 24)) w1 := hB1
    have KW1 : Hid (Free.Bel w w1) := bt KB K1
    clear hB1 KE HC
    go_wp2_with fail
    refine (longest_any h xs _ w1 (HUX.out _ KW1.out) HNZ.out HW.out).mono ?_
    rintro e w2 ⟨⟨vO, O, rfl, hLT, hDO⟩, hB2⟩
    have HLT := Lib.hid hLT
    obtain ⟨cn, val, hcn, hcl, hcv, hli⟩ := hLT.read (st_self HW.out)
    obtain ⟨gO, cO, rfl, hoc⟩ := hDO.at_ hcv
    have HDO := Lib.hid hDO
    have K2 : Free.Bel (w.alloc (.cells #[.int .i64 h, .slice p xs.length cp] 24)) w2 := bt K1 hB2
    have KW2 : Hid (Free.Bel w w2) := bt KW1.out hB2
    have HCC := Lib.hid (code_v h xs _ w2 (HUX.out _ KW2.out) (OkS.of_st HW.out (st_self HW.out)))
    rw [hcn] at HCC
    have hcl2 : (cn : Int) < (O.length : Int) := by omega
    have hcn0 : ¬ ((cn : Int) < 0) := by omega
    have HLI := Lib.hid hli
    clear hLT hDO hB2 hcn hcv K1 hli
    go_wp2_with fail
    refine HCC.out.mono ?_
    rintro e w3 ⟨rfl, hB3⟩
    have hoc3 := keepsB (show Free.Bel w2 w3 from hB3) hoc
    have K3 : Free.Bel (w.alloc (.cells #[.int .i64 h, .slice p xs.length cp] 24)) w3 := bt K2 hB3
    have KW3 : Hid (Free.Bel w w3) := bt KW2.out hB3
    have HDO3 : Hid (DayR O (.slice (some ⟨gO, 0, none⟩) O.length cO) w3) := HDO.out.stay fun k c f hk => ((show Free.Bel w2 w3 from hB3).block k (lt_of_heap hk)).trans hk
    clear hB3 hoc K2 HDO HCC
    cases he : everB h xs with
    | false =>
      have hval : (val != 1000000) = true := by have h9 := HLI.out.ever.2; rw [he] at h9; simpa [bne] using h9
      have HE := Lib.hid he
      clear he
      go_wp2_with fail
      exact bodyPost_ret (v := .tuple #[.int .i64 0, .int .i64 8]) (by simp [results, Tryd.results54, go_sem]) rfl ⟨by rw [goE, if_pos HW.out, if_neg (by rw [HE.out]; simp)]; exact .inl ⟨by decide, rfl⟩, KW3.out⟩
    | true =>
      have hval : val = 1000000 := by have h9 := HLI.out.ever.2; rw [he] at h9; simpa using h9
      subst hval
      have HE := Lib.hid he
      clear he

      have hgo : Hid (goE h xs = 0) := by show _ = _; rw [goE, if_pos HW.out, if_pos HE.out]
      by_cases hxn : xs = []
      · have hl0 : ((xs.length : Int) == 0) = true := by rw [hxn]; rfl
        have HXN := Lib.hid hxn
        clear hxn
        go_wp2_with fail
        exact bodyPost_ret (v := .tuple #[.int .i64 0, .int .i64 6]) (by simp [results, Tryd.results54, go_sem]) rfl ⟨by rw [hgo.out]; exact .inr (.inl ⟨rfl, HXN.out, rfl⟩), KW3.out⟩
      · have hl0 : ((xs.length : Int) == 0) = false := by cases xs with | nil => exact absurd rfl hxn | cons x r => simp; omega
        have HXN := Lib.hid hxn
        have HI0 : Hid (DWI w h xs (.slice p xs.length cp) O (.slice (some ⟨gO, 0, none⟩) O.length cO) (idle xs 0) (.slice p xs.length cp) w3) := ⟨KW3.out, (K3.block _ (by simp)).trans HM0.out, .inl ⟨rfl, rfl⟩, HDO3.out⟩
        clear hxn
        go_wp2_with fail
        clear K3 hoc3 HDO3 FA
        go_loopw [5] (fun i wr => ∃ (n : Nat) (v : Value), i = .int .i64 n ∧ DWI w h xs (.slice p xs.length cp) O (.slice (some ⟨gO, 0, none⟩) O.length cO) (idle xs n) v wr ∧ ∀ k, 0 < k → k ≤ n → idleOk h xs k) (fun i _ => 7 - (intOf i).toNat)
        case atStart => exact ⟨0, _, rfl, HI0.out, fun k h1 h2 => absurd h1 (by omega)⟩
        case round =>
          obtain ⟨n, v, rfl, hI, hid⟩ := hrel
          have hn6 := idle_small HW.out HXN.out n hid
          have hst := idle_st HW.out n hid
          have hrl := hI.rl HUX.out
          obtain ⟨pv, cv, rfl, _, _⟩ := hrl
          have b0 : wr.cell? ⟨w.heap.size, 0, none⟩ = some (.int .i64 h) := cell_of_heap (o := 0) hI.bx rfl
          have b1 : wr.cell? ⟨w.heap.size, 1, none⟩ = some (.slice pv (idle xs n).length cv) := cell_of_heap (o := 1) hI.bx rfl
          have HDN := Lib.hid (doneR_any h (idle xs n) [] _ (.slice none 0 0) wr (hI.rl HUX.out) (hI.nz HNZ.out) (IL.nil _) (by rw [hst.1.length]; omega) (fun x hx => by have := (OkS.of_st HW.out hst).2 x hx; omega))
          rw [← idle_succ] at HDN
          have hnw : IntKind.i64.wrap ((n : Int) + 1) = (n : Int) + 1 := IntWalk.i64_in _ (by omega)
          have HI := Lib.hid hI
          have HID := Lib.hid hid
          have HST := Lib.hid hst
          have hyl : Hid ((idle xs n).length = xs.length) := hst.1.length
          have hzl : Hid ((idle xs (n + 1)).length = xs.length) := by show _ = _; rw [idle_succ]; simp [dayR, hyl.out]
          have hIS : Hid (idle xs (n + 1) = dayR [] (idle xs n)) := idle_succ xs n
          have hIO : Hid (idleOk h xs (n + 1) ↔ coolB (idle xs (n + 1)) = true ∧ everB h (idle xs (n + 1)) = true) := Iff.rfl
          clear hI hid hst
          obtain ⟨ys, hys⟩ : ∃ y, idle xs n = y := ⟨_, rfl⟩
          obtain ⟨zs, hzs⟩ : ∃ y, idle xs (n + 1) = y := ⟨_, rfl⟩
          rw [hys] at HI b1 HDN HST hyl hIS
          rw [hzs] at HDN hzl hIS hIO
          try simp only [hys]
          have HZS := Lib.hid hzs
          clear hys hzs
          obtain ⟨cb, hcb⟩ : ∃ y, coolB zs = y := ⟨_, rfl⟩
          rw [hcb] at HDN hIO
          have HCB := Lib.hid hcb
          clear hcb
          go_wp2_with fail
          refine HDN.out.mono ?_
          rintro e w6 ⟨⟨v6, rfl, ho6⟩, hB6⟩
          rw [hyl.out, ← hzl.out] at ho6
          obtain ⟨q6, c6, rfl⟩ := row_slice ho6
          have HO6 := Lib.hid (bel_row ho6 (belAlloc w6 (.cells #[.int .i64 h, .slice q6 zs.length c6] 24)))
          have KA6 := belAlloc w6 (.cells #[.int .i64 h, .slice q6 zs.length c6] 24)
          have HI8 := Lib.hid (HI.out.on (bt (show Free.Bel wr w6 from hB6) KA6))
          have HX8 : Hid ((w6.alloc (.cells #[.int .i64 h, .slice q6 zs.length c6] 24)).heap[w6.heap.size]? = some (.cells #[.int .i64 h, .slice q6 zs.length c6] 24 (0, 0))) := World.alloc_heap_new _ _
          have hg6 : wr.heap.size ≤ w6.heap.size := hB6.size
          have hgw : w.heap.size < wr.heap.size := lt_of_heap HI.out.bx
          clear ho6 hB6 KA6 b0 b1 HDN
          cases cb with
          | false =>
            go_wp2_with fail
            refine bodyPost_ret (v := .tuple #[.int .i64 n, .int .i64 0]) (by simp [results, Tryd.results54, go_sem]) rfl ⟨?_, HI8.out.bel⟩
            rw [hgo.out]
            exact .inr (.inr ⟨rfl, HXN.out, n, ⟨HID.out, fun h9 => by have := (hIO.out.1 h9).1; cases this⟩, rfl⟩)
          | true =>
            have hstz : StOf xs zs := by
              have h9 := HST.out.day [] (by rw [← hIS.out]; exact HCB.out)
              rwa [← hIS.out] at h9
            go_upto_region 11 with fail
            obtain ⟨g6, hg6e⟩ : ∃ x, w6.heap.size = x := ⟨_, rfl⟩
            rw [hg6e] at HX8 hg6 ⊢
            clear hg6e
            generalize w6.alloc (.cells #[.int .i64 h, .slice q6 zs.length c6] 24) = w8 at *
            have z0 : w8.cell? ⟨g6, 0, none⟩ = some (.int .i64 h) := cell_of_heap (o := 0) HX8.out rfl
            have z1 : w8.cell? ⟨g6, 1, none⟩ = some (.slice q6 zs.length c6) := cell_of_heap (o := 1) HX8.out rfl
            obtain ⟨cm, vm, hcm, hcml, hcmv, hlim⟩ := HLT.out.read hstz
            have HCM := Lib.hid (code_v h zs _ w8 (RL.of_row rfl (own_le7 HO6.out) HO6.out) (OkS.of_st HW.out hstz))
            rw [hcm] at HCM
            obtain ⟨gO2, cO2, heq, hocm⟩ := HI8.out.ro.at_ hcmv
            cases heq
            have hcml2 : (cm : Int) < (O.length : Int) := by omega
            have hcm0 : ¬ ((cm : Int) < 0) := by omega
            have hev := hlim.ever.2
            clear hlim hcmv hcm
            go_wp2_with fail
            refine HCM.out.mono ?_
            rintro e w9 ⟨rfl, hB9⟩
            have hoc9 := keepsB (show Free.Bel w8 w9 from hB9) hocm
            have HI9 := Lib.hid (HI8.out.on hB9)
            have HO9 := Lib.hid (bel_row HO6.out hB9)
            have hx9 := ((show Free.Bel w8 w9 from hB9).block _ (lt_of_heap HX8.out)).trans HX8.out
            have y0 : w9.cell? ⟨g6, 0, none⟩ = some (.int .i64 h) := cell_of_heap (o := 0) hx9 rfl
            have y1 : w9.cell? ⟨g6, 1, none⟩ = some (.slice q6 zs.length c6) := cell_of_heap (o := 1) hx9 rfl
            have y2 : w9.cell? ⟨w.heap.size, 0, none⟩ = some (.int .i64 h) := cell_of_heap (o := 0) HI9.out.bx rfl
            have y3 : w9.cell? ⟨w.heap.size, 1, none⟩ = some (.slice pv ys.length cv) := cell_of_heap (o := 1) HI9.out.bx rfl
            have y4 : w9.frozen? ⟨w.heap.size, 0, none⟩ = false := frozen_of_heap (o := 0) HI9.out.bx
            have y5 : w9.frozen? ⟨w.heap.size, 1, none⟩ = false := frozen_of_heap (o := 1) HI9.out.bx
            clear hB9 z0 z1 hocm hx9
            obtain ⟨ev, hee⟩ : ∃ y, everB h zs = y := ⟨_, rfl⟩
            rw [hee] at hev hIO
            clear hee
            cases ev with
            | false =>
              have hvm : (vm != 1000000) = true := by simpa [bne] using hev
              go_wp2_with fail
              refine bodyPost_ret (v := .tuple #[.int .i64 n, .int .i64 0]) (by simp [results, Tryd.results54, go_sem]) rfl ⟨?_, HI9.out.bel⟩
              rw [hgo.out]
              exact .inr (.inr ⟨rfl, HXN.out, n, ⟨HID.out, fun h9 => by have := (hIO.out.1 h9).2; cases this⟩, rfl⟩)
            | true =>
              have hvm : vm = 1000000 := by simpa using hev
              subst hvm
              go_wp2_with fail
              go_roundw
              case rel =>
                refine ⟨n + 1, .slice q6 zs.length c6, by go_num, ?_, fun k h1 h2 => ?_⟩
                · rw [HZS.out]; exact HI9.out.set HO9.out
                · by_cases e : k = n + 1
                  · subst e; exact hIO.out.2 (by simp)
                  · exact HID.out k h1 (by omega)
              case measure => simp [intOf]; omega
end Go.Proofs.YtknpglgpkkhhiaaDoor

/- The reference's asked, Hot, After, Repeats. -/
namespace Go.Proofs.YtknpglgpkkhhiaaDoor
set_option linter.unusedSimpArgs false
set_option linter.unusedVariables false
open Go.RowKit

/-- The error of a watch and of days. -/
def askE (h : Int) (xs : List Rk) (ds : List (List Int)) : Int := if watchB h xs = false then 70 else if validB h xs ds = false then 72 else 0
def hotOut (h : Int) (xs : List Rk) (ds : List (List Int)) : List (Int × Int) := if askE h xs ds = 0 then heatR 0 xs ds else []
end Go.Proofs.YtknpglgpkkhhiaaDoor

/- Plain law for chapter 07's last laws: turnings by numbers, days in two parts, days that repeat, the longest days, the plan. -/
namespace Go.Proofs.YtknpglgpkkhhiaaDoor
set_option linter.unusedSimpArgs false
set_option linter.unusedVariables false

/-! ### Turnings by a number -/
/-- A part of the ricks ahead of the one with index k, not more than the hands. -/
def TurnK (h : Int) (xs : List Rk) (k : Nat) (l : List Int) : Prop := (l.length : Int) ≤ h ∧ l.Pairwise (· < ·) ∧ ∀ a ∈ l, ∃ i, i < k ∧ i < xs.length ∧ idAt xs i = a
theorem TurnK.zero {h : Int} {xs : List Rk} (h0 : 0 ≤ h) : TurnK h xs 0 [] := ⟨by simpa using h0, .nil, fun a ha => by cases ha⟩
theorem TurnK.skip {h : Int} {xs : List Rk} {k : Nat} {l : List Int} (H : TurnK h xs k l) : TurnK h xs (k + 1) l :=
  ⟨H.1, H.2.1, fun a ha => let ⟨i, h1, h2, h3⟩ := H.2.2 a ha; ⟨i, by omega, h2, h3⟩⟩
theorem TurnK.add {h : Int} {xs : List Rk} {k : Nat} {l : List Int} (hw : watchB h xs = true) (H : TurnK h xs k l) (hk : k < xs.length) (hl : (l.length : Int) < h) : TurnK h xs (k + 1) (l ++ [xs[k].1]) := by
  obtain ⟨_, _, h3⟩ := watchB_iff.1 hw
  have e : idAt xs k = xs[k].1 := by simp [idAt, hk]
  refine ⟨by simp; omega, ?_, fun a ha => ?_⟩
  · rw [List.pairwise_append]
    refine ⟨H.2.1, List.pairwise_singleton _ _, fun a ha b hb => ?_⟩
    obtain ⟨i, h1, h2, rfl⟩ := H.2.2 a ha
    obtain rfl : b = xs[k].1 := by simpa using hb
    rw [← e]
    exact (idAt_mono h3 i k h2 hk).2.2 h1
  · rcases List.mem_append.1 ha with ha | ha
    · obtain ⟨i, h1, h2, h4⟩ := H.2.2 a ha
      exact ⟨i, by omega, h2, h4⟩
    · obtain rfl : a = xs[k].1 := by simpa using ha
      exact ⟨k, by omega, hk, e⟩
/-! ### Whether no rick becomes hot -/
/-! ### Days in two parts -/
/-! ### Days that repeat -/
/-! ### The longest days -/
/-! ### The plan -/
theorem plan_bound {h : Int} {xs : List Rk} (hw : watchB h xs = true) (he : everB h xs = true) {j : Nat} (hd : ∀ a b, a < b → b < j → planS h xs a ≠ planS h xs b) : (j : Int) ≤ prodE xs := by
  have hok := watchB_ok hw
  have hst0 : StOf xs xs := ⟨rfl, fun x hx => by have := hok x hx; unfold okR at this; omega⟩
  have hst := fun n => (planS_ever hst0 he n).1
  have hpos : 1 ≤ prodE xs := (prodE_bound (xs := xs) fun x hx => by have := hok x hx; unfold okR at this; omega).1
  have hb : ∀ n, 0 ≤ codeR (planS h xs n) ∧ codeR (planS h xs n) < prodE xs := fun n => by
    have := code_bound (hst n).2
    rwa [prodE_same (hst n).1] at this
  have hn : ((List.range j).map fun k => (codeR (planS h xs k)).toNat).Nodup := by
    rw [List.Nodup, List.pairwise_map]
    refine List.Pairwise.imp_of_mem (fun {a b} ha hb' hab => ?_) (List.pairwise_lt_range (n := j))
    intro e
    have e2 : codeR (planS h xs a) = codeR (planS h xs b) := by
      have := hb a; have := hb b; omega
    have e3 := at_code (hst a)
    rw [e2, at_code (hst b)] at e3
    exact hd a b hab (List.mem_range.1 hb') e3.symm
  have := nodup_sub_length (L := List.range (prodE xs).toNat) hn fun a ha => by
    obtain ⟨k, _, rfl⟩ := List.mem_map.1 ha
    have := hb k
    exact List.mem_range.2 (by omega)
  simp only [List.length_map, List.length_range] at this
  omega
end Go.Proofs.YtknpglgpkkhhiaaDoor

/- The program's Hot, After. -/
namespace Go.Proofs.YtknpglgpkkhhiaaDoor
set_option linter.unusedSimpArgs false
set_option linter.unusedVariables false
open Go.RowKit Go.Proofs.YtknpglgpkkhhiaaDoor.Free2

/-- What the program's played returns, in one form. -/
theorem PlayedP.one {h : Int} {xs : List Rk} {ds : List (List Int)} {e : Ending} {w' : World} (H : PlayedP h xs ds e w') :
    ∃ (pt : Option Addr) (S : Nat → Int) (p4 : Option Addr) (n4 c4 : Nat), e = .returned (.tuple #[.pointer pt, stV S, .slice p4 n4 c4, .int .i64 (askE h xs ds)]) ∧ n4 = (hotOut h xs ds).length ∧ PL (hotOut h xs ds) (.slice p4 n4 c4) w' ∧ (askE h xs ds = 0 → S = waits (endR xs ds)) := by
  rcases H with ⟨h1, S, rfl⟩ | ⟨h1, h2, S, rfl⟩ | ⟨h1, h2, yb, v, rfl, hpl⟩
  · have ha : askE h xs ds = 70 := by simp [askE, h1]
    have hh : hotOut h xs ds = [] := by rw [hotOut, if_neg (by rw [ha]; decide)]
    rw [ha, hh]
    exact ⟨_, S, none, 0, 0, rfl, rfl, PL.nil _, fun h => by simp at h⟩
  · have ha : askE h xs ds = 72 := by simp [askE, h1, h2]
    have hh : hotOut h xs ds = [] := by rw [hotOut, if_neg (by rw [ha]; decide)]
    rw [ha, hh]
    exact ⟨_, S, none, 0, 0, rfl, rfl, PL.nil _, fun h => by simp at h⟩
  · have ha : askE h xs ds = 0 := by simp [askE, h1, h2]
    have hh : hotOut h xs ds = heatR 0 xs ds := by rw [hotOut, if_pos ha]
    rw [ha, hh]
    obtain ⟨p4, c4, rfl, h5, h6⟩ := hpl
    exact ⟨_, _, p4, _, c4, rfl, rfl, ⟨p4, c4, rfl, h5, h6⟩, fun _ => rfl⟩

def RowIs (base : Nat) (e : TypeId) (v : Value) (n : Nat) (xs : List Value) (W : World) : Prop := W.ownsRow base e 3 v n xs
theorem RowIs.kept {base : Nat} {e : TypeId} {v : Value} {n : Nat} {xs : List Value} : ∀ a b : World, Below a.heap.size a b → RowIs base e v n xs a → RowIs base e v n xs b := fun a b h k => bel_row k h
end Go.Proofs.YtknpglgpkkhhiaaDoor

/- The program's Repeats. -/
namespace Go.Proofs.YtknpglgpkkhhiaaDoor
set_option linter.unusedSimpArgs false
set_option linter.unusedVariables false
open Go.RowKit Go.Proofs.YtknpglgpkkhhiaaDoor.Free2

end Go.Proofs.YtknpglgpkkhhiaaDoor

/- Plain law: the round is a proof. -/
namespace Go.Proofs.YtknpglgpkkhhiaaDoor
set_option linter.unusedSimpArgs false
set_option linter.unusedVariables false
open Go.Proofs.YtknpglgpkkhhiaaDoor.ML RR

end Go.Proofs.YtknpglgpkkhhiaaDoor

/- The reference's Days. -/
namespace Go.Proofs.YtknpglgpkkhhiaaDoor
set_option linter.unusedSimpArgs false
set_option linter.unusedVariables false
open Go.RowKit Go.Proofs.YtknpglgpkkhhiaaDoor.Free2 Go.Proofs.YtknpglgpkkhhiaaDoor.ML RR

set_option maxRecDepth 100000 in
set_option maxHeartbeats 16000000 in
theorem daysR_v (h : Int) (xs : List Rk) (n : Int) (u : Value) (w : World) (hu : RL xs u w) (hz : NZ u) :
    Calls Tryd.prog 40 #[.agg #[.int .i64 h, u], .int .i64 n] w fun e w' => DaysPost h xs n (daysE h xs n) w e w' ∧ Below w.heap.size w w' := by
  have HUX := Lib.hid (fun (W : World) (hW : Below w.heap.size w W) => hu.keeps hW)
  have HNZ := Lib.hid hz
  obtain ⟨p, cp, rfl, hm, hp⟩ := hu
  have HP := Lib.hid hp
  have KB : Free.Bel w (w.alloc (.cells #[.int .i64 h, .slice p xs.length cp] 24)) := belAlloc _ _
  have FA : ∀ W, Free.Bel (w.alloc (.cells #[.int .i64 h, .slice p xs.length cp] 24)) W → W.cell? ⟨w.heap.size, 0, none⟩ = some (.int .i64 h) ∧ W.cell? ⟨w.heap.size, 1, none⟩ = some (.slice p xs.length cp) := fun W hW => ⟨keepsB hW (by simp [go_sem]), keepsB hW (by simp [go_sem])⟩
  have KE : Free.Bel (w.alloc (.cells #[.int .i64 h, .slice p xs.length cp] 24)) (w.alloc (.cells #[.int .i64 h, .slice p xs.length cp] 24)) := Free.Bel.refl _
  have m0 : (w.alloc (.cells #[.int .i64 h, .slice p xs.length cp] 24)).heap[w.heap.size]? = some (.cells #[.int .i64 h, .slice p xs.length cp] 24 (0, 0)) := World.alloc_heap_new w _
  have HM0 := Lib.hid m0
  clear hz hm hp m0
  cases hw : watchB h xs with
  | false =>
    have HC := Lib.hid (watchR_v h xs _ _ (HUX.out _ KB) false (Lib.hid hw))
    have HW := Lib.hid hw
    clear hw
    go_enter Tryd.func40, Tryd.ntmps40
    go_wp2_with fail
    refine HC.out.mono ?_
    rintro e w1 ⟨rfl, hB1⟩
    go_wp2_with fail
    exact bodyPost_ret (v := .tuple #[.slice none 0 0, .int .i64 70]) (by simp [results, Tryd.results40, go_sem]) rfl ⟨by unfold daysE; rw [if_neg (by rw [HW.out]; simp)]; exact .inl ⟨by decide, rfl⟩, bt KB hB1⟩
  | true =>
    have HC := Lib.hid (watchR_v h xs _ _ (HUX.out _ KB) true (Lib.hid hw))
    have HW := Lib.hid hw
    have h4 : xs.length ≤ 4 := (watchB_iff.1 hw).2.1
    clear hw
    go_enter Tryd.func40, Tryd.ntmps40
    go_wp2_with fail
    refine HC.out.mono ?_
    rintro e w1 ⟨rfl, hB1⟩
    have K1 : Free.Bel (w.alloc (.cells #[.int .i64 h, .slice p xs.length cp] 24)) w1 := hB1
    have KW1 : Hid (Free.Bel w w1) := bt KB K1
    clear hB1 KE HC
    cases hin : inB 0 60 [n] with
    | false =>
      have HIN := Lib.hid hin
      go_wp2_with fail
      refine (within_any n 0 60 false w1 hin).mono ?_
      rintro e w2 ⟨rfl, rfl⟩
      clear hin
      go_wp2_with fail
      exact bodyPost_ret (v := .tuple #[.slice none 0 0, .int .i64 2]) (by simp [results, Tryd.results40, go_sem]) rfl ⟨by unfold daysE; rw [if_pos HW.out, if_neg (by rw [HIN.out]; simp)]; exact .inl ⟨by decide, rfl⟩, KW1.out⟩
    | true =>
      have HIN := Lib.hid hin
      obtain ⟨N, rfl⟩ : ∃ N : Nat, n = N := ⟨n.toNat, by simp [inB] at hin; omega⟩
      have hN60 : N ≤ 60 := by simp [inB] at hin; omega
      go_wp2_with fail
      refine (within_any N 0 60 true w1 hin).mono ?_
      rintro e wq ⟨rfl, rfl⟩
      clear hin
      go_wp2_with fail
      refine (longest_any h xs _ w1 (HUX.out _ KW1.out) HNZ.out HW.out).mono ?_
      rintro e w2 ⟨⟨vO, O, rfl, hLT, hDO⟩, hB2⟩
      have HLT := Lib.hid hLT
      obtain ⟨cn, val, hcn, hcl, hcv, hli⟩ := hLT.read (st_self HW.out)
      obtain ⟨gO, cO, rfl, hoc⟩ := hDO.at_ hcv
      have HDO := Lib.hid hDO
      have K2 : Free.Bel (w.alloc (.cells #[.int .i64 h, .slice p xs.length cp] 24)) w2 := bt K1 hB2
      have KW2 : Hid (Free.Bel w w2) := bt KW1.out hB2
      have HCC := Lib.hid (code_v h xs _ w2 (HUX.out _ KW2.out) (OkS.of_st HW.out (st_self HW.out)))
      rw [hcn] at HCC
      have hcl2 : (cn : Int) < (O.length : Int) := by omega
      have hcn0 : ¬ ((cn : Int) < 0) := by omega
      have HLI := Lib.hid hli
      clear hLT hDO hB2 hcn hcv K1 hli
      go_wp2_with fail
      refine HCC.out.mono ?_
      rintro e w3 ⟨rfl, hB3⟩
      have hoc3 := keepsB (show Free.Bel w2 w3 from hB3) hoc
      have K3 : Free.Bel (w.alloc (.cells #[.int .i64 h, .slice p xs.length cp] 24)) w3 := bt K2 hB3
      have KW3 : Hid (Free.Bel w w3) := bt KW2.out hB3
      have HDO3 : Hid (DayR O (.slice (some ⟨gO, 0, none⟩) O.length cO) w3) := HDO.out.stay fun k c f hk => ((show Free.Bel w2 w3 from hB3).block k (lt_of_heap hk)).trans hk
      clear hB3 hoc K2 HDO HCC
      cases he : everB h xs with
      | false =>
        have hval : (val != 1000000) = true := by have h9 := HLI.out.ever.2; rw [he] at h9; simpa [bne] using h9
        have HE := Lib.hid he
        clear he
        go_wp2_with fail
        exact bodyPost_ret (v := .tuple #[.slice none 0 0, .int .i64 8]) (by simp [results, Tryd.results40, go_sem]) rfl ⟨by unfold daysE goE; rw [if_pos HW.out, if_pos HIN.out, if_pos HW.out, if_neg (by rw [HE.out]; simp)]; exact .inl ⟨by decide, rfl⟩, KW3.out⟩
      | true =>
        have hval : val = 1000000 := by have h9 := HLI.out.ever.2; rw [he] at h9; simpa using h9
        subst hval
        have HE := Lib.hid he
        clear he

        have HI0 : Hid (DWI w h xs (.slice p xs.length cp) O (.slice (some ⟨gO, 0, none⟩) O.length cO) xs (.slice p xs.length cp) w3) := ⟨KW3.out, (K3.block _ (by simp)).trans HM0.out, .inl ⟨rfl, rfl⟩, HDO3.out⟩
        obtain ⟨i1, hi1, hy0, hy1, hy2⟩ := info_parts T.infoSl
        have HY := Lib.hid (And.intro hi1 (And.intro hy0 (And.intro hy1 hy2)))
        clear hi1 hy0 hy1 hy2
        go_wp2_with fail
        clear K3 hoc3 HDO3 FA

        go_loopw [8, 7] (fun i ov wr => ∃ (k : Nat) (v : Value), k ≤ N ∧ i = .int .i64 k ∧ DWI w h xs (.slice p xs.length cp) O (.slice (some ⟨gO, 0, none⟩) O.length cO) (planS h xs k) v wr ∧ DOB (w.heap.size + 1) (w.heap.size + 1) (planL h xs k) ov wr) (fun i _ _ => N - (intOf i).toNat)
        case atStart => exact ⟨0, _, Nat.zero_le _, rfl, HI0.out, DOB.nil _ _ _⟩
        case round =>
          obtain ⟨k, v, hk, rfl, hI, hdo⟩ := hrel
          by_cases hlt : k < N
          · have hklt : (k : Int) < (N : Int) := by omega
            have hkw : IntKind.i64.wrap ((k : Int) + 1) = (k : Int) + 1 := IntWalk.i64_in _ (by omega)
            obtain ⟨hst, hes⟩ := planS_ever (st_self HW.out) HE.out k
            have hfd := (ever_step hes).1
            have HL1 := Lib.hid (planL_succ h xs k)
            have HS1 : Hid (planS h xs (k + 1) = dayR (stepE h (planS h xs k)) (planS h xs k)) := rfl
            have hll := planL_length h xs k
            obtain ⟨d, hd⟩ : ∃ y, stepE h (planS h xs k) = y := ⟨_, rfl⟩
            obtain ⟨ys, hys⟩ : ∃ y, planS h xs k = y := ⟨_, rfl⟩
            obtain ⟨L, hL⟩ : ∃ y, planL h xs k = y := ⟨_, rfl⟩
            rw [hd] at hfd HL1 HS1
            rw [hys] at hI hst hfd HS1
            rw [hL] at hdo HL1 hll
            clear hes hd hys hL
            have hrl := hI.rl HUX.out
            obtain ⟨pv, cv, rfl, _, _⟩ := hrl
            have b0 : wr.cell? ⟨w.heap.size, 0, none⟩ = some (.int .i64 h) := cell_of_heap (o := 0) hI.bx rfl
            have b1 : wr.cell? ⟨w.heap.size, 1, none⟩ = some (.slice pv ys.length cv) := cell_of_heap (o := 1) hI.bx rfl
            obtain ⟨vs, hvl, hvo, hvr⟩ := hdo
            obtain ⟨qo, co, rfl⟩ := row_slice hvo
            have hsw : w.heap.size < wr.heap.size := lt_of_heap hI.bx
            have HI := Lib.hid hI
            have HVO := Lib.hid (And.intro hvl (And.intro hvo hvr))
            have HFC := Lib.hid (firstR_any h xs ys O 1000000 d (everB h) _ _ wr (hI.rl HUX.out) (hI.nz HNZ.out) hI.ro.il HW.out hst HLT.out.1 (HLT.out.ever_q) (hfd))
            have hLm : L.length ≤ 1000000 := by omega
            clear hI hvl hvo hvr hst hfd hll
            go_wp2_with fail
            refine HFC.out.mono ?_
            rintro e w6 ⟨⟨v1, v2, rfl, hd1, ho2⟩, hB6⟩
            have HD1 := Lib.hid hd1
            obtain ⟨q1, c1, rfl⟩ := row_slice hd1
            obtain ⟨q2, c2, rfl⟩ := row_slice ho2
            have HO2 := Lib.hid ho2
            have K6 : Free.Bel wr w6 := hB6
            have K7 : Free.Bel wr (w6.alloc (.cells #[.int .i64 h, .slice q2 ys.length c2] 24)) := bt K6 (belAlloc _ _)
            have K8 : Free.Bel wr ((w6.alloc (.cells #[.int .i64 h, .slice q2 ys.length c2] 24)).alloc (.cells #[.slice q1 d.length c1] 58)) := bt K7 (belAlloc _ _)
            have HK8 := Lib.hid K8
            have hg6 : wr.heap.size ≤ w6.heap.size := hB6.size
            have hvo8 := bel_row HVO.out.2.1 K8
            clear hd1 ho2 hB6 K6 K7 b0 b1 HFC
            go_wp2_with (first | (at_builtin; go_loud (refine wpList_append_own _ rfl _ _ 25 rfl (w.heap.size + 1) 58 i1 (.slice none 0 0) 1 24 Tryd.underlying25 HY.out.1 HY.out.2.1 HY.out.2.2.1 HY.out.2.2.2 rfl (by decide) _ _ _ rfl hvo8 ⟨w6.heap.size + 1, 0, none⟩ 1 1 [.slice q1 d.length c1] rfl rfl (by have := cell_one_new (w6.alloc (.cells #[.int .i64 h, .slice q2 ys.length c2] 24)) (.slice q1 d.length c1) 58; simpa using this) (fun x hx => by simp at hx; subst hx; rfl) (by unfold maxLen; omega) (by omega) (by simp; omega) ?_); intro v9 w9 hown9 hgrow8 hnil9; go_loud (have hgrow9 : World.grownBy ((w6.alloc (.cells #[.int .i64 h, .slice q2 ys.length c2] 24)).alloc (.cells #[.slice q1 d.length c1] 58)) w9 (Value.slice qo L.length co).ownBlock := hgrow8; clear hgrow8; have HG9 := Lib.hid (And.intro hown9 hgrow9); have hx10 : ((w6.alloc (.cells #[.int .i64 h, .slice q2 ys.length c2] 24)).alloc (.cells #[.slice q1 d.length c1] 58)).heap[w6.heap.size]? = some (.cells #[.int .i64 h, .slice q2 ys.length c2] 24 (0, 0)) := heap_old (World.alloc_heap_new _ _); have hx9 := heap_grown hx10 hgrow9 (fun e9 => by have h7 := (HVO.out.2.1.lt w6.heap.size (by simpa using e9.symm)).2; omega); have HI9 := Lib.hid ((HI.out.on K8).go (TK.grown hvo8 hgrow9) (grown_belR hvo8 hgrow9 (by simp; omega))); have z0 : w9.cell? ⟨w6.heap.size, 0, none⟩ = some (.int .i64 h) := cell_of_heap (o := 0) hx9 rfl; have z1 : w9.cell? ⟨w6.heap.size, 1, none⟩ = some (.slice q2 ys.length c2) := cell_of_heap (o := 1) hx9 rfl; have y2 : w9.cell? ⟨w.heap.size, 0, none⟩ = some (.int .i64 h) := cell_of_heap (o := 0) HI9.out.bx rfl; have y3 : w9.cell? ⟨w.heap.size, 1, none⟩ = some (.slice pv ys.length cv) := cell_of_heap (o := 1) HI9.out.bx rfl; have y4 : w9.frozen? ⟨w.heap.size, 0, none⟩ = false := frozen_of_heap (o := 0) HI9.out.bx; have y5 : w9.frozen? ⟨w.heap.size, 1, none⟩ = false := frozen_of_heap (o := 1) HI9.out.bx; obtain ⟨q9, c9, rfl⟩ := row_slice hown9; clear hown9 hgrow9 hnil9 hx10 hx9)) | fail)
            go_roundw
            case rel =>
              have hst8 : ∀ (k : Nat) c e f, wr.heap[k]? = some (.cells c e f) → ((w6.alloc (.cells #[.int .i64 h, .slice q2 ys.length c2] 24)).alloc (.cells #[.slice q1 d.length c1] 58)).heap[k]? = some (.cells c e f) := fun k c e f hk => (HK8.out.block k (lt_of_heap hk)).trans hk
              have hd8 : DayB (w.heap.size + 1) d (.slice q1 d.length c1) ((w6.alloc (.cells #[.int .i64 h, .slice q2 ys.length c2] 24)).alloc (.cells #[.slice q1 d.length c1] 58)) := (HD1.out.mono (by omega)).stay fun k c f hk => heap_old (heap_old hk)
              have hdo9 := DOB.snoc (d := d) HVO.out.1 hvo8 (fun i hi u hu => (HVO.out.2.2 i hi u hu).stay fun k c f hk => hst8 k c _ f hk) hd8 HG9.out.2 HG9.out.1
              have hwt : ∀ {W : World} {c : Array Value} {o : Nat} {x : Value} (_ : W.heap[w.heap.size]? = some (.cells c 24 (0, 0))) (_ : DOB (w.heap.size + 1) (w.heap.size + 1) (L ++ [d]) (.slice q9 (L.length + 1) c9) W), DOB (w.heap.size + 1) (w.heap.size + 1) (L ++ [d]) (.slice q9 (L.length + 1) c9) (W.setCell ⟨w.heap.size, o, none⟩ x) := fun {W c o x} hb hd => hd.stay (fun k c' f hk => heap_other hk (by rintro rfl; rw [hb] at hk; cases hk)) fun k c' f hk => heap_other hk (by rintro rfl; rw [hb] at hk; cases hk)
              have hdz := hwt (o := 1) (x := .slice q2 ys.length c2) (heap_setCell_same (o := 0) (.int .i64 h) HI9.out.bx) (hwt (o := 0) (x := .int .i64 h) HI9.out.bx hdo9)
              have ho9 := (TK.grown hvo8 HG9.out.2).ricks (bel_row (bel_row HO2.out (belAlloc _ _)) (belAlloc _ (.cells #[.slice q1 d.length c1] 58)))
              have hlen : (dayR d ys).length = ys.length := by simp [dayR]
              have hset := HI9.out.set (zs' := dayR d ys) (v' := .slice q2 ys.length c2) (by rw [hlen]; exact ho9)
              exact ⟨k + 1, .slice q2 ys.length c2, by omega, by go_num, by rw [HS1.out]; exact hset, by rw [HL1.out]; simpa using hdz⟩
            case measure => simp [intOf]; omega
          · obtain rfl : k = N := by omega
            have hge : ¬ (k : Int) < (k : Int) := by omega
            have HF := Lib.hid (And.intro hI.bel hdo)
            obtain ⟨vs, hvl, hvo, hvr⟩ := hdo
            obtain ⟨qo, co, rfl⟩ := row_slice hvo
            clear hI hvl hvo hvr
            go_wp2_with fail
            exact bodyPost_ret (v := .tuple #[.slice qo (planL h xs k).length co, .int .i64 0]) (by simp [results, Tryd.results40, go_sem]) rfl ⟨by unfold daysE goE; rw [if_pos HW.out, if_pos HIN.out, if_pos HW.out, if_pos HE.out]; exact .inr ⟨rfl, _, rfl, by rw [Int.toNat_natCast]; exact HF.out.2.do.mono (by omega)⟩, HF.out.1⟩
end Go.Proofs.YtknpglgpkkhhiaaDoor

/- The reference's Last. -/
namespace Go.Proofs.YtknpglgpkkhhiaaDoor
set_option linter.unusedSimpArgs false
set_option linter.unusedVariables false
open Go.RowKit Go.Proofs.YtknpglgpkkhhiaaDoor.Free2 Go.Proofs.YtknpglgpkkhhiaaDoor.ML RR

/-- What Last tells. -/
def LastRPost (h : Int) (xs : List Rk) (w : World) (e : Ending) (w' : World) : Prop := (watchB h xs = false ∧ e = .returned (.tuple #[.slice none 0 0, .int .i64 70])) ∨ (watchB h xs = true ∧ everB h xs = true ∧ e = .returned (.tuple #[.slice none 0 0, .int .i64 6])) ∨ (watchB h xs = true ∧ everB h xs = false ∧ ∃ n v, goodN h n xs = true ∧ goodN h (n + 1) xs = false ∧ e = .returned (.tuple #[v, .int .i64 0]) ∧ DO w.heap.size (lastL h n xs) v w')
set_option maxRecDepth 100000 in
set_option maxHeartbeats 16000000 in
theorem lastR_v (h : Int) (xs : List Rk) (u : Value) (w : World) (hu : RL xs u w) (hz : NZ u) :
    Calls Tryd.prog 48 #[.agg #[.int .i64 h, u]] w fun e w' => LastRPost h xs w e w' ∧ Below w.heap.size w w' := by
  have HUX := Lib.hid (fun (W : World) (hW : Below w.heap.size w W) => hu.keeps hW)
  have HNZ := Lib.hid hz
  obtain ⟨p, cp, rfl, hm, hp⟩ := hu
  have HP := Lib.hid hp
  have KB : Free.Bel w (w.alloc (.cells #[.int .i64 h, .slice p xs.length cp] 24)) := belAlloc _ _
  have FA : ∀ W, Free.Bel (w.alloc (.cells #[.int .i64 h, .slice p xs.length cp] 24)) W → W.cell? ⟨w.heap.size, 0, none⟩ = some (.int .i64 h) ∧ W.cell? ⟨w.heap.size, 1, none⟩ = some (.slice p xs.length cp) := fun W hW => ⟨keepsB hW (by simp [go_sem]), keepsB hW (by simp [go_sem])⟩
  have KE : Free.Bel (w.alloc (.cells #[.int .i64 h, .slice p xs.length cp] 24)) (w.alloc (.cells #[.int .i64 h, .slice p xs.length cp] 24)) := Free.Bel.refl _
  have m0 : (w.alloc (.cells #[.int .i64 h, .slice p xs.length cp] 24)).heap[w.heap.size]? = some (.cells #[.int .i64 h, .slice p xs.length cp] 24 (0, 0)) := World.alloc_heap_new w _
  have HM0 := Lib.hid m0
  clear hz hm hp m0
  cases hw : watchB h xs with
  | false =>
    have HC := Lib.hid (watchR_v h xs _ _ (HUX.out _ KB) false (Lib.hid hw))
    have HW := Lib.hid hw
    clear hw
    go_enter Tryd.func48, Tryd.ntmps48
    go_wp2_with fail
    refine HC.out.mono ?_
    rintro e w1 ⟨rfl, hB1⟩
    go_wp2_with fail
    exact bodyPost_ret (v := .tuple #[.slice none 0 0, .int .i64 70]) (by simp [results, Tryd.results48, go_sem]) rfl ⟨.inl ⟨HW.out, rfl⟩, bt KB hB1⟩
  | true =>
    have HC := Lib.hid (watchR_v h xs _ _ (HUX.out _ KB) true (Lib.hid hw))
    have HW := Lib.hid hw
    have h4 : xs.length ≤ 4 := (watchB_iff.1 hw).2.1
    clear hw
    go_enter Tryd.func48, Tryd.ntmps48
    go_wp2_with fail
    refine HC.out.mono ?_
    rintro e w1 ⟨rfl, hB1⟩
    have K1 : Free.Bel (w.alloc (.cells #[.int .i64 h, .slice p xs.length cp] 24)) w1 := hB1
    have KW1 : Hid (Free.Bel w w1) := bt KB K1
    clear hB1 KE HC
    go_wp2_with fail
    refine (longest_any h xs _ w1 (HUX.out _ KW1.out) HNZ.out HW.out).mono ?_
    rintro e w2 ⟨⟨vO, O, rfl, hLT, hDO⟩, hB2⟩
    have HLT := Lib.hid hLT
    obtain ⟨cn, val, hcn, hcl, hcv, hli⟩ := hLT.read (st_self HW.out)
    obtain ⟨gO, cO, rfl, hoc⟩ := hDO.at_ hcv
    have HDO := Lib.hid hDO
    have K2 : Free.Bel (w.alloc (.cells #[.int .i64 h, .slice p xs.length cp] 24)) w2 := bt K1 hB2
    have KW2 : Hid (Free.Bel w w2) := bt KW1.out hB2
    have HCC := Lib.hid (code_v h xs _ w2 (HUX.out _ KW2.out) (OkS.of_st HW.out (st_self HW.out)))
    rw [hcn] at HCC
    have hcl2 : (cn : Int) < (O.length : Int) := by omega
    have hcn0 : ¬ ((cn : Int) < 0) := by omega
    have HLI := Lib.hid hli
    clear hLT hDO hB2 hcn hcv K1 hli
    go_wp2_with fail
    refine HCC.out.mono ?_
    rintro e w3 ⟨rfl, hB3⟩
    have hoc3 := keepsB (show Free.Bel w2 w3 from hB3) hoc
    have K3 : Free.Bel (w.alloc (.cells #[.int .i64 h, .slice p xs.length cp] 24)) w3 := bt K2 hB3
    have KW3 : Hid (Free.Bel w w3) := bt KW2.out hB3
    have HDO3 : Hid (DayR O (.slice (some ⟨gO, 0, none⟩) O.length cO) w3) := HDO.out.stay fun k c f hk => ((show Free.Bel w2 w3 from hB3).block k (lt_of_heap hk)).trans hk
    clear hB3 hoc K2 HDO HCC
    cases he : everB h xs with

    | true =>
      have hval : val = 1000000 := by have h9 := HLI.out.ever.2; rw [he] at h9; simpa using h9
      subst hval
      have HE := Lib.hid he
      clear he
      go_wp2_with fail
      exact bodyPost_ret (v := .tuple #[.slice none 0 0, .int .i64 6]) (by simp [results, Tryd.results48, go_sem]) rfl ⟨.inr (.inl ⟨HW.out, HE.out, rfl⟩), KW3.out⟩
    | false =>
      have HE := Lib.hid he
      obtain ⟨n, hn6, hg1, hg2, hvn⟩ : ∃ n : Nat, n < 1000000 ∧ goodN h n xs = true ∧ goodN h (n + 1) xs = false ∧ val = n := by
        rcases HLI.out with ⟨h9, _⟩ | h9
        · rw [he] at h9; cases h9
        · exact h9
      subst hvn
      have hval : ((n : Int) == 1000000) = false := by simp; omega
      have HG := Lib.hid (And.intro hg1 hg2)
      have hnw : IntKind.i64.wrap ((n : Int) - 1) = (n : Int) - 1 := IntWalk.i64_in _ (by omega)
      clear he hg1 hg2

      have HI0 : Hid (DWI w h xs (.slice p xs.length cp) O (.slice (some ⟨gO, 0, none⟩) O.length cO) xs (.slice p xs.length cp) w3) := ⟨KW3.out, (K3.block _ (by simp)).trans HM0.out, .inl ⟨rfl, rfl⟩, HDO3.out⟩
      obtain ⟨i1, hi1, hy0, hy1, hy2⟩ := info_parts T.infoSl
      have HY := Lib.hid (And.intro hi1 (And.intro hy0 (And.intro hy1 hy2)))
      clear hi1 hy0 hy1 hy2
      go_wp2_with fail
      clear K3 hoc3 HDO3 FA

      go_loopw [7, 6] (fun i ov wr => ∃ (m : Nat) (ys : List Rk) (L : List (List Int)) (v : Value), m ≤ n ∧ i = .int .i64 ((m : Int) - 1) ∧ goodN h m ys = true ∧ StOf xs ys ∧ L ++ lastL h m ys = lastL h n xs ∧ L.length + m = n ∧ DWI w h xs (.slice p xs.length cp) O (.slice (some ⟨gO, 0, none⟩) O.length cO) ys v wr ∧ DOB (w.heap.size + 1) (w.heap.size + 1) L ov wr) (fun i _ _ => (intOf i + 1).toNat)
      case atStart => exact ⟨n, xs, [], _, Nat.le_refl _, rfl, HG.out.1, st_self HW.out, rfl, by simp, HI0.out, DOB.nil _ _ _⟩
      case round =>
        obtain ⟨m, ys, L, v, hm, rfl, hgm, hst, hLL, hLn, hI, hdo⟩ := hrel
        cases m with
        | succ m =>
          have hmi : (((m + 1 : Nat) : Int) - 1) = (m : Int) := by omega
          rw [hmi]
          have hm0 : (0 : Int) ≤ (m : Int) := by omega
          have hmw : IntKind.i64.wrap ((m : Int) - 1) = (m : Int) - 1 := IntWalk.i64_in _ (by omega)
          obtain ⟨d, hfd, hd1, hd2, hd3⟩ := good_step hgm
          have HL1 : Hid (lastL h (m + 1) ys = d :: lastL h m (dayR d ys)) := by show _ = _; rw [lastL, hfd]; rfl
          have HLX := Lib.hid (And.intro hLL (And.intro (hst.day d hd2) (And.intro hd3 hLn)))
          clear hgm hd1 hd2 hd3 hLL
          have hrl := hI.rl HUX.out
          obtain ⟨pv, cv, rfl, _, _⟩ := hrl
          have b0 : wr.cell? ⟨w.heap.size, 0, none⟩ = some (.int .i64 h) := cell_of_heap (o := 0) hI.bx rfl
          have b1 : wr.cell? ⟨w.heap.size, 1, none⟩ = some (.slice pv ys.length cv) := cell_of_heap (o := 1) hI.bx rfl
          obtain ⟨vs, hvl, hvo, hvr⟩ := hdo
          obtain ⟨qo, co, rfl⟩ := row_slice hvo
          have hsw : w.heap.size < wr.heap.size := lt_of_heap hI.bx
          have HI := Lib.hid hI
          have HVO := Lib.hid (And.intro hvl (And.intro hvo hvr))
          have HFC := Lib.hid (firstR_any h xs ys O (m : Int) d (goodN h m) _ _ wr (hI.rl HUX.out) (hI.nz HNZ.out) hI.ro.il HW.out hst HLT.out.1 (HLT.out.good_q (by omega)) (hfd))
          have hLm : L.length ≤ 1000000 := by omega
          clear hI hvl hvo hvr hst hfd hLn
          go_wp2_with fail
          refine HFC.out.mono ?_
          rintro e w6 ⟨⟨v1, v2, rfl, hd1, ho2⟩, hB6⟩
          have HD1 := Lib.hid hd1
          obtain ⟨q1, c1, rfl⟩ := row_slice hd1
          obtain ⟨q2, c2, rfl⟩ := row_slice ho2
          have HO2 := Lib.hid ho2
          have K6 : Free.Bel wr w6 := hB6
          have K7 : Free.Bel wr (w6.alloc (.cells #[.int .i64 h, .slice q2 ys.length c2] 24)) := bt K6 (belAlloc _ _)
          have K8 : Free.Bel wr ((w6.alloc (.cells #[.int .i64 h, .slice q2 ys.length c2] 24)).alloc (.cells #[.slice q1 d.length c1] 58)) := bt K7 (belAlloc _ _)
          have HK8 := Lib.hid K8
          have hg6 : wr.heap.size ≤ w6.heap.size := hB6.size
          have hvo8 := bel_row HVO.out.2.1 K8
          clear hd1 ho2 hB6 K6 K7 b0 b1 HFC
          go_wp2_with (first | (at_builtin; go_loud (refine wpList_append_own _ rfl _ _ 25 rfl (w.heap.size + 1) 58 i1 (.slice none 0 0) 1 24 Tryd.underlying25 HY.out.1 HY.out.2.1 HY.out.2.2.1 HY.out.2.2.2 rfl (by decide) _ _ _ rfl hvo8 ⟨w6.heap.size + 1, 0, none⟩ 1 1 [.slice q1 d.length c1] rfl rfl (by have := cell_one_new (w6.alloc (.cells #[.int .i64 h, .slice q2 ys.length c2] 24)) (.slice q1 d.length c1) 58; simpa using this) (fun x hx => by simp at hx; subst hx; rfl) (by unfold maxLen; omega) (by omega) (by simp; omega) ?_); intro v9 w9 hown9 hgrow8 hnil9; go_loud (have hgrow9 : World.grownBy ((w6.alloc (.cells #[.int .i64 h, .slice q2 ys.length c2] 24)).alloc (.cells #[.slice q1 d.length c1] 58)) w9 (Value.slice qo L.length co).ownBlock := hgrow8; clear hgrow8; have HG9 := Lib.hid (And.intro hown9 hgrow9); have hx10 : ((w6.alloc (.cells #[.int .i64 h, .slice q2 ys.length c2] 24)).alloc (.cells #[.slice q1 d.length c1] 58)).heap[w6.heap.size]? = some (.cells #[.int .i64 h, .slice q2 ys.length c2] 24 (0, 0)) := heap_old (World.alloc_heap_new _ _); have hx9 := heap_grown hx10 hgrow9 (fun e9 => by have h7 := (HVO.out.2.1.lt w6.heap.size (by simpa using e9.symm)).2; omega); have HI9 := Lib.hid ((HI.out.on K8).go (TK.grown hvo8 hgrow9) (grown_belR hvo8 hgrow9 (by simp; omega))); have z0 : w9.cell? ⟨w6.heap.size, 0, none⟩ = some (.int .i64 h) := cell_of_heap (o := 0) hx9 rfl; have z1 : w9.cell? ⟨w6.heap.size, 1, none⟩ = some (.slice q2 ys.length c2) := cell_of_heap (o := 1) hx9 rfl; have y2 : w9.cell? ⟨w.heap.size, 0, none⟩ = some (.int .i64 h) := cell_of_heap (o := 0) HI9.out.bx rfl; have y3 : w9.cell? ⟨w.heap.size, 1, none⟩ = some (.slice pv ys.length cv) := cell_of_heap (o := 1) HI9.out.bx rfl; have y4 : w9.frozen? ⟨w.heap.size, 0, none⟩ = false := frozen_of_heap (o := 0) HI9.out.bx; have y5 : w9.frozen? ⟨w.heap.size, 1, none⟩ = false := frozen_of_heap (o := 1) HI9.out.bx; obtain ⟨q9, c9, rfl⟩ := row_slice hown9; clear hown9 hgrow9 hnil9 hx10 hx9)) | fail)
          go_roundw
          case rel =>
            have hst8 : ∀ (k : Nat) c e f, wr.heap[k]? = some (.cells c e f) → ((w6.alloc (.cells #[.int .i64 h, .slice q2 ys.length c2] 24)).alloc (.cells #[.slice q1 d.length c1] 58)).heap[k]? = some (.cells c e f) := fun k c e f hk => (HK8.out.block k (lt_of_heap hk)).trans hk
            have hd8 : DayB (w.heap.size + 1) d (.slice q1 d.length c1) ((w6.alloc (.cells #[.int .i64 h, .slice q2 ys.length c2] 24)).alloc (.cells #[.slice q1 d.length c1] 58)) := (HD1.out.mono (by omega)).stay fun k c f hk => heap_old (heap_old hk)
            have hdo9 := DOB.snoc (d := d) HVO.out.1 hvo8 (fun i hi u hu => (HVO.out.2.2 i hi u hu).stay fun k c f hk => hst8 k c _ f hk) hd8 HG9.out.2 HG9.out.1
            have hwt : ∀ {W : World} {c : Array Value} {o : Nat} {x : Value} (_ : W.heap[w.heap.size]? = some (.cells c 24 (0, 0))) (_ : DOB (w.heap.size + 1) (w.heap.size + 1) (L ++ [d]) (.slice q9 (L.length + 1) c9) W), DOB (w.heap.size + 1) (w.heap.size + 1) (L ++ [d]) (.slice q9 (L.length + 1) c9) (W.setCell ⟨w.heap.size, o, none⟩ x) := fun {W c o x} hb hd => hd.stay (fun k c' f hk => heap_other hk (by rintro rfl; rw [hb] at hk; cases hk)) fun k c' f hk => heap_other hk (by rintro rfl; rw [hb] at hk; cases hk)
            have hdz := hwt (o := 1) (x := .slice q2 ys.length c2) (heap_setCell_same (o := 0) (.int .i64 h) HI9.out.bx) (hwt (o := 0) (x := .int .i64 h) HI9.out.bx hdo9)
            have ho9 := (TK.grown hvo8 HG9.out.2).ricks (bel_row (bel_row HO2.out (belAlloc _ _)) (belAlloc _ (.cells #[.slice q1 d.length c1] 58)))
            have hlen : (dayR d ys).length = ys.length := by simp [dayR]
            have hset := HI9.out.set (zs' := dayR d ys) (v' := .slice q2 ys.length c2) (by rw [hlen]; exact ho9)
            exact ⟨m, dayR d ys, L ++ [d], .slice q2 ys.length c2, by omega, rfl, HLX.out.2.2.1, HLX.out.2.1, by rw [List.append_assoc, List.singleton_append, ← HL1.out]; exact HLX.out.1, by have := HLX.out.2.2.2; simp; omega, hset, by simpa using hdz⟩
          case measure => simp [intOf]
        | zero =>
          have hmi : (((0 : Nat) : Int) - 1) = -1 := by omega
          have HF := Lib.hid (And.intro hI.bel hdo)
          have hLe : Hid (L = lastL h n xs) := by show _ = _; rw [← hLL]; simp [lastL]
          obtain ⟨vs, hvl, hvo, hvr⟩ := hdo
          obtain ⟨qo, co, rfl⟩ := row_slice hvo
          clear hI hvl hvo hvr hLL hgm hst hLn
          go_wp2_with fail
          exact bodyPost_ret (v := .tuple #[.slice qo L.length co, .int .i64 0]) (by simp [results, Tryd.results48, go_sem]) rfl ⟨.inr (.inr ⟨HW.out, HE.out, n, _, HG.out.1, HG.out.2, rfl, by rw [← hLe.out]; exact HF.out.2.do.mono (by omega)⟩), HF.out.1⟩
end Go.Proofs.YtknpglgpkkhhiaaDoor

/- The first days, and the rest; what Hot gave. -/
namespace Go.Proofs.YtknpglgpkkhhiaaDoor
set_option linter.unusedSimpArgs false
set_option linter.unusedVariables false
open Go.RowKit Go.Proofs.YtknpglgpkkhhiaaDoor.Free2

set_option maxRecDepth 100000 in
theorem sizeSl (W : World) : (Go.sizeOf 58).run Tryd.prog W = .ok 1 W := by kernel_rfl
set_option maxRecDepth 100000 in
theorem headD (p : Option Addr) (n cp k : Nat) (h : k ≤ cp) (W : World) : (Instr.slice 25 (.slice p n cp) none (some (.int .i64 (k : Int))) none).run Tryd.prog W = .ok (.slice p k cp) W := by
  rw [run_slice_h W 25 p n cp Tryd.underlying25 .i64 k (by omega) (by omega)]
  have he : Tryd.prog.elem 25 = 58 := by kernel_rfl
  rw [he, sizeSl]
  cases p with
  | none => simp [Result.andThen, sliced]
  | some a => simp [Result.andThen, sliced, Addr.add]
def tailD (p : Option Addr) (cp k : Nat) : Option Addr := if cp = k then p else p.map (·.add k)
set_option maxRecDepth 100000 in
theorem restD (p : Option Addr) (n cp k : Nat) (h : k ≤ n) (W : World) : (Instr.slice 25 (.slice p n cp) (some (.int .i64 (k : Int))) none none).run Tryd.prog W = .ok (.slice (tailD p cp k) (n - k) (cp - k)) W := by
  rw [run_slice_l W 25 p n cp Tryd.underlying25 .i64 k (by omega) (by omega)]
  have he : Tryd.prog.elem 25 = 58 := by kernel_rfl
  rw [he, sizeSl]
  simp [Result.andThen, sliced, tailD]
theorem row_cap {base : Nat} {e : TypeId} {size n c : Nat} {p : Option Addr} {xs : List Value} {w : World} (h : w.ownsRow base e size (.slice p n c) n xs) : n ≤ c := by
  rcases h.2 with ⟨he, _⟩ | ⟨g, cap, cur, he, _, _, hn, _⟩
  · cases he; exact Nat.le_refl _
  · cases he
    first | exact hn | exact hn.1 | omega
/-- What Hot gave. -/
def HotV (hs : List (Int × Int)) (E : Int) (v : Value) (W : World) : Prop := ∃ p c, v = .tuple #[.slice p hs.length c, .int .i64 E] ∧ PL hs (.slice p hs.length c) W
def HotW (hs : List (Int × Int)) (v : Value) (W : World) : Prop := ∃ p c, v = .slice p hs.length c ∧ PL hs (.slice p hs.length c) W
theorem HotV.stable (hs : List (Int × Int)) (E : Int) : Free.Stable Free.Bel (HotV hs E) := fun v a b hR ⟨p, c, h1, h2⟩ => ⟨p, c, h1, h2.keeps hR⟩
theorem HotW.stable (hs : List (Int × Int)) : Free.Stable Free.Bel (HotW hs) := fun v a b hR ⟨p, c, h1, h2⟩ => ⟨p, c, h1, h2.keeps hR⟩
end Go.Proofs.YtknpglgpkkhhiaaDoor

/- The examples of chapter 07's laws, in numbers. -/
namespace Go.Proofs.YtknpglgpkkhhiaaDoor
set_option linter.unusedSimpArgs false
set_option linter.unusedVariables false

def wl : List Rk := [(1, 2, 0), (2, 4, 2), (3, 4, 3)]
end Go.Proofs.YtknpglgpkkhhiaaDoor

/- The longest days: the walk through the days. -/
namespace Go.Proofs.YtknpglgpkkhhiaaDoor
set_option linter.unusedSimpArgs false
set_option linter.unusedVariables false
open Go.RowKit Go.Proofs.YtknpglgpkkhhiaaDoor.Free2 Go.Proofs.YtknpglgpkkhhiaaDoor.ML RR
attribute [local go_sem] Oper.semAt_some

set_option maxRecDepth 100000 in
set_option maxHeartbeats 32000000 in
theorem last_c (h : Int) (xs : List Rk) (u : Value) (w : World) (hT : TabR w) (hu : RL xs u w) (hw : watchB h xs = true) (he : everB h xs = false) :
    Calls Tryd.prog 47 #[.agg #[.int .i64 h, u]] w fun e w' => (∃ n v, n ≤ 1296 ∧ goodN h n xs = true ∧ goodN h (n + 1) xs = false ∧ e = .returned (.tuple #[v, .int .i64 0]) ∧ DO w.heap.size (lastL h n xs) v w') ∧ Below w.heap.size w w' := by
  have HU := Lib.hid hu
  obtain ⟨p, cp, rfl, _, _⟩ := hu
  have KB : Free.Bel w (w.alloc (.cells #[.int .i64 h, .slice p xs.length cp] 24)) := belAlloc _ _
  have m0 : (w.alloc (.cells #[.int .i64 h, .slice p xs.length cp] 24)).heap[w.heap.size]? = some (.cells #[.int .i64 h, .slice p xs.length cp] 24 (0, 0)) := World.alloc_heap_new w _
  have FA : ∀ W, Free.Bel (w.alloc (.cells #[.int .i64 h, .slice p xs.length cp] 24)) W → W.cell? ⟨w.heap.size, 0, none⟩ = some (.int .i64 h) ∧ W.cell? ⟨w.heap.size, 1, none⟩ = some (.slice p xs.length cp) := fun W hW => ⟨keepsB hW (cell_of_heap m0 rfl), keepsB hW (cell_of_heap m0 rfl)⟩
  have KE : Free.Bel (w.alloc (.cells #[.int .i64 h, .slice p xs.length cp] 24)) (w.alloc (.cells #[.int .i64 h, .slice p xs.length cp] 24)) := Free.Bel.refl _
  have HKB := Lib.hid KB
  have HCK := Lib.hid (checkP_v h xs _ (w.alloc (.cells #[.int .i64 h, .slice p xs.length cp] 24)) (hT.bel KB) (HU.out.keeps KB) 0 (by show _ = _; simp [hw]))
  have H4 := Lib.hid (watchB_iff.1 hw).2.1
  have HX := Lib.hid (watchB_ok hw)
  have HST := Lib.hid (st_self hw)
  have HWE := Lib.hid (And.intro hw he)
  clear hT hw he m0
  have hmx : Tryd.prog.follows .mixedOrders = true := by kernel_rfl
  refine (callsIn_wide (n := 5)).1 ?_
  refine callsIn_of_wp_marks Tryd.func47 rfl trivial ?_ rfl
  simp only [Tryd.ntmps47, List.size_toArray, List.length_cons, List.length_nil, Nat.reduceAdd, Nat.reduceSub, Array.replicate_succ, Array.replicate_zero, List.push_toArray, List.append_toArray, an1, an2]
  refine wpIn_wide.2 ?_
  go_wp2_with fail
  refine HCK.out.mono ?_
  rintro e w1 ⟨rfl, hB1⟩
  have HB1 := Lib.hid (bt HKB.out hB1)
  have K1 : Free.Bel (w.alloc (.cells #[.int .i64 h, .slice p xs.length cp] 24)) w1 := hB1
  clear hB1
  go_wp2_with fail
  refine (begun_any h xs _ w1 (HU.out.keeps (bt HKB.out K1)) HWE.out.1).mono ?_
  rintro e w2 ⟨yb, gb, dv, v, rfl, hyw, hm, hy1, hy2, hy3, hB2⟩
  have hB12 : Free.Bel w w2 := bt (bt HKB.out K1) hB2
  have hgl := hm.lt
  have hmo := (show MapIs quadV gb _ (w2.alloc (.cells #[.pointer (some ⟨yb, 0, none⟩)] 108)) from hm.bel (belAlloc _ _)).obj
  have hyl := lt_of_cell hyw.c1
  have hlb : ((w2.alloc (.cells #[.pointer (some ⟨yb, 0, none⟩)] 108)).alloc (.cells #[.slice none 0 0] 137)).heap[w2.heap.size + 1]? = some (.cells #[.slice none 0 0] 137 (0, 0)) := by
    have := World.alloc_heap_new (w2.alloc (.cells #[.pointer (some ⟨yb, 0, none⟩)] 108)) (.cells #[.slice none 0 0] 137)
    simpa using this
  have h5b : (w2.alloc (.cells #[.pointer (some ⟨yb, 0, none⟩)] 108)).heap[w2.heap.size]? = some (.cells #[.pointer (some ⟨yb, 0, none⟩)] 108 (0, 0)) := World.alloc_heap_new w2 _
  have HSET := Lib.hid (settle_told yb gb (w2.heap.size + 1) h xs v dv _ (w2.alloc (.cells #[.pointer (some ⟨yb, 0, none⟩)] 108)) ((w2.alloc (.cells #[.pointer (some ⟨yb, 0, none⟩)] 108)).alloc (.cells #[.slice none 0 0] 137)) (hyw.kc (.of_bel (belAlloc _ _))) (hm.bel (belAlloc _ _)) (belAlloc _ _) hlb (by simp) H4.out (fun x hx => (HX.out x hx).2.2.2.1) (keysY_good fun x hx => (HX.out x hx).2.2.1) (keys_small HWE.out.1))
  have HALL := Lib.hid (And.intro hB12 (And.intro h5b (And.intro hgl (And.intro hyw.c1 (And.intro hyw (And.intro hy2 (And.intro hmo hyl)))))))
  clear hyw hm hy1 hy2 hy3 hB2 hB12 hgl hyl hmo h5b hlb FA KE KB K1
  go_wp2_with fail
  refine HSET.out.mono ?_
  rintro e w5 ⟨⟨xv, rfl⟩, K, gs, tv, L, hK, hE, hM, hG, hTl, hstay⟩
  obtain ⟨hB12, h5b, hgl, hc1, hyw, hgy, hmo, hyl⟩ := HALL.out
  have hgw : w.heap.size ≤ gb := Nat.le_trans (by have := (show Free.Bel w w1 from HB1.out).size; exact this) hgy
  have h5 : w5.heap[w2.heap.size]? = some (.cells #[.pointer (some ⟨yb, 0, none⟩)] 108 (0, 0)) := heap_grown h5b hG (by simp; omega)
  have hyw5 : YW yb gb h xs v dv w5 := (hyw.kc (.of_bel (belAlloc _ _))).kc ((fun ⟨o, h1, h2⟩ => KC.of_grown hG h1 h2) hmo)
  have HYE := Lib.hid (show YE yb gb h xs v dv L w5 from ⟨hyw5, hM, hE⟩)
  have hB5 : Below w.heap.size w w5 := Below.trans (show Below w.heap.size w (w2.alloc (.cells #[.pointer (some ⟨yb, 0, none⟩)] 108)) from bt hB12 (belAlloc _ _)) (Below.of_grown hG (by have := hB12.size; simp; omega) (fun r e => by cases e; exact hgw))
  have hsz5 : w2.heap.size + 2 ≤ w5.heap.size := by have := lt_of_heap hTl.box; omega
  have HTL := Lib.hid (And.intro hTl (And.intro hK (And.intro hstay (And.intro hB5 (And.intro h5 (And.intro hsz5 (hB12.size)))))))
  have c5 := cell_of_heap (o := 0) h5 rfl
  clear hE hM hG hTl hstay hK hB5 h5 hsz5 hB12 h5b hgl hc1 hyw hgy hmo hyl hyw5 hgw
  go_wp2_with fail
  refine (now_any yb xs v w5 HYE.out.yw.c1 HYE.out.yw.rl H4.out).mono ?_
  rintro e w6 ⟨rfl, hB6⟩
  have hB6 : Free.Bel w5 w6 := hB6
  have HK6 := Lib.hid hB6
  clear c5 hB6
  go_wp2_with fail
  have KA : Free.Bel w6 (w6.alloc (.cells (arrV (waits xs)) 109)) := belAlloc _ _
  have hFB : ∀ W, Free.Bel (w6.alloc (.cells (arrV (waits xs)) 109)).drew W → Free.Bel w6 W := fun W hW => bt KA (bt (Bel.drewT (Free.Bel.refl _)) hW)
  have m7 : (w6.alloc (.cells (arrV (waits xs)) 109)).heap[w6.heap.size]? = some (.cells (arrV (waits xs)) 109 (0, 0)) := World.alloc_heap_new w6 _
  have HM7 := Lib.hid m7
  have hF : ∀ W, Free.Bel (w6.alloc (.cells (arrV (waits xs)) 109)).drew W → (W.cell? ⟨w2.heap.size, 0, none⟩ = some (.pointer (some ⟨yb, 0, none⟩)) ∧ W.cell? ⟨yb, 2, none⟩ = some (.map (some gb)) ∧ (Instr.lookup 139 (.map (some gb)) (.agg #[.int .i64 (waits xs 0), .int .i64 (waits xs 1), .int .i64 (waits xs 2), .int .i64 (waits xs 3)]) false).run Tryd.prog W = .ok (.bool false) W ∧ (W.cell? ⟨w6.heap.size, 0, none⟩ = some (.int .i64 (waits xs 0)) ∧ W.cell? ⟨w6.heap.size, 1, none⟩ = some (.int .i64 (waits xs 1)) ∧ W.cell? ⟨w6.heap.size, 2, none⟩ = some (.int .i64 (waits xs 2)) ∧ W.cell? ⟨w6.heap.size, 3, none⟩ = some (.int .i64 (waits xs 3)))) := fun W hW => by
    have h1 := HYE.out.bel (bt HK6.out (hFB W hW))
    have h2 := h1.has H4.out HST.out
    rw [HWE.out.2] at h2
    have hd : Free.Bel (w6.alloc (.cells (arrV (waits xs)) 109)) W := bt (Bel.drewT (Free.Bel.refl _)) hW
    obtain ⟨z0, z1, z2, z3, _⟩ := cells4 ((hd.block _ (lt_of_heap HM7.out)).trans HM7.out)
    exact ⟨keepsB (bt HK6.out (hFB W hW)) (cell_of_heap HTL.out.2.2.2.2.1 rfl), h1.yw.c2, h2, z0, z1, z2, z3⟩
  refine Free.wp_free (R := Free.Bel) (by kernel_rfl) (by kernel_rfl) Free.Bel.refl Free.Bel.trans ?_
  refine Free.Chain.ex ?_ [] [5] (by kernel_rfl) (by kernel_rfl) rfl Free.Bel.refl ?_ ?_
  rotate_left
  · (intro ev W hb hR hO hD; have hS := hF W hR; obtain ⟨hb1, hb2, hb3⟩ := hb; simp only [Free.AllDeps, Free.AllOuts, Free.At, al1, al2, al3, al4, al5, and_true] at hO hD; go_simp; rfl)
  simp only [an1, an2]
  refine Free.Chain.ex ?_ [(0, 27)] [] (by kernel_rfl) (by kernel_rfl) rfl Free.Bel.refl ?_ ?_
  rotate_left
  · (intro ev W hb hR hO hD; have hS := hF W hR; obtain ⟨hb1, hb2, hb3⟩ := hb; simp only [Free.AllDeps, Free.AllOuts, Free.At, al1, al2, al3, al4, al5, and_true] at hO hD; go_simp; rfl)
  simp only [an1, an2]
  refine Free.Chain.ex ?_ [(1, 28)] [] (by kernel_rfl) (by kernel_rfl) rfl Free.Bel.refl ?_ ?_
  rotate_left
  · (intro ev W hb hR hO hD; have hS := hF W hR; obtain ⟨hb1, hb2, hb3⟩ := hb; simp only [Free.AllDeps, Free.AllOuts, Free.At, al1, al2, al3, al4, al5, and_true] at hO hD; go_simp; rfl)
  simp only [an1, an2]
  refine Free.Chain.ex ?_ [(2, 29)] [] (by kernel_rfl) (by kernel_rfl) rfl Free.Bel.refl ?_ ?_
  rotate_left
  · (intro ev W hb hR hO hD; have hS := hF W hR; obtain ⟨hb1, hb2, hb3⟩ := hb; simp only [Free.AllDeps, Free.AllOuts, Free.At, al1, al2, al3, al4, al5, and_true] at hO hD; go_simp; rfl)
  simp only [an1, an2]
  refine Free.Chain.ex ?_ [] [7] (by kernel_rfl) (by kernel_rfl) rfl Free.Bel.refl ?_ ?_
  rotate_left
  · (intro ev W hb hR hO hD; have hS := hF W hR; obtain ⟨hb1, hb2, hb3⟩ := hb; simp only [Free.AllDeps, Free.AllOuts, Free.At, al1, al2, al3, al4, al5, and_true] at hO hD; go_simp; rfl)
  simp only [an1, an2]
  refine Free.Chain.ex ?_ [(3, 30), (4, 31)] [] (by kernel_rfl) (by kernel_rfl) rfl Free.Bel.refl ?_ ?_
  rotate_left
  · (intro ev W hb hR hO hD; have hS := hF W hR; obtain ⟨hb1, hb2, hb3⟩ := hb; simp only [Free.AllDeps, Free.AllOuts, Free.At, al1, al2, al3, al4, al5, and_true] at hO hD; go_simp; rfl)
  simp only [an1, an2]
  intro ys w8 hR hV
  simp only [Free.AllV, Free.At, List.length_cons, List.length_nil, Nat.reduceAdd, List.getElem?_cons_succ, List.getElem?_cons_zero, true_and, and_true] at hV
  simp only [Free.putsFrom, Act.put, Nat.zero_add, Nat.reduceAdd, hV, List.setIfInBounds_toArray, List.set_cons_succ, List.set_cons_zero]
  have HB8 := Lib.hid (show Free.Bel (w6.alloc (.cells (arrV (waits xs)) 109)) w8 from bt (Bel.drewT (Free.Bel.refl _)) hR)
  clear hR hV hF hFB KA m7
  have hE0 : goodN h K xs = false := by
    rw [good_ever HTL.out.2.2.1 xs HST.out]
    exact HWE.out.2
  have HE0 := Lib.hid hE0
  obtain ⟨NN, hNN⟩ : ∃ y, y = K + 1 := ⟨_, rfl⟩
  have HNN := Lib.hid hNN
  have HT8 := Lib.hid (HTL.out.1.bel (bt HK6.out (bt (belAlloc _ _) HB8.out)))
  obtain ⟨g, cap, cur, rfl, hgB, hgO, hgc1, hgc2, hgc3, hgcs⟩ := HTL.out.1.row.2.resolve_left (fun h9 => by have := h9.2; omega)
  rw [← hNN] at HT8
  have HGW := Lib.hid (And.intro (lt_of_heap hgO) hgc1)
  clear hE0 hNN hgB hgO hgc1 hgc2 hgc3 hgcs
  have HB5 := Lib.hid (And.intro HTL.out.2.2.2.1 (And.intro HTL.out.2.2.2.2.1 (And.intro HTL.out.2.2.2.2.2.1 HTL.out.2.2.2.2.2.2)))
  have HKK := Lib.hid (And.intro HTL.out.2.1 HTL.out.2.2.1)
  rw [← HNN.out] at HTL
  go_wp2_with fail
  go_loopw [8] (fun i wr => ∃ m : Nat, m < K ∧ i = .int .i64 m ∧ goodN h m xs = true ∧ Free.Bel w8 wr) (fun i _ => K - (intOf i).toNat)
  case atStart => exact ⟨0, by
    rcases Nat.eq_zero_or_pos K with h0 | h0
    · have h1 := HE0.out
      rw [h0] at h1
      cases h1
    · exact h0, rfl, rfl, Free.Bel.refl _⟩
  case round =>
    obtain ⟨m, hmK, rfl, hgm, hBr⟩ := hrel
    have HT9 := Lib.hid (HT8.out.bel hBr)
    have H7r := Lib.hid ((bt HB8.out hBr).block _ (lt_of_heap HM7.out) |>.trans HM7.out)
    have hlen : gs.length = NN := HT9.out.len
    obtain ⟨hbm, L9, hL9, hM9⟩ := HT9.out.maps (m + 1) (by have := HNN.out; omega)
    obtain ⟨gm, hgm9⟩ : ∃ y, gs[m + 1]'(by have := HNN.out; omega) = y := ⟨_, rfl⟩
    rw [hgm9] at hM9 hbm
    have hcm : wr.cell? ⟨g, m + 1, none⟩ = some (.map (some gm)) := by
      have h1 := HT9.out.row.cells (g := g) rfl (m + 1) (mapV gm) (by rw [List.getElem?_map, List.getElem?_eq_getElem (by have := HNN.out; omega), hgm9]; rfl)
      rw [addE] at h1
      simpa using h1
    obtain ⟨r, hr⟩ : ∃ r, goodN h (m + 1) xs = r := ⟨_, rfl⟩
    have hF : ∀ W, Free.Bel wr.drew W → (W.cell? ⟨w2.heap.size + 1, 0, none⟩ = some (.slice (some ⟨g, 0, none⟩) NN cap) ∧ W.cell? ⟨g, m + 1, none⟩ = some (.map (some gm)) ∧ (Instr.lookup 139 (.map (some gm)) (.agg #[.int .i64 (waits xs 0), .int .i64 (waits xs 1), .int .i64 (waits xs 2), .int .i64 (waits xs 3)]) false).run Tryd.prog W = .ok (.bool r) W ∧ (W.cell? ⟨w6.heap.size, 0, none⟩ = some (.int .i64 (waits xs 0)) ∧ W.cell? ⟨w6.heap.size, 1, none⟩ = some (.int .i64 (waits xs 1)) ∧ W.cell? ⟨w6.heap.size, 2, none⟩ = some (.int .i64 (waits xs 2)) ∧ W.cell? ⟨w6.heap.size, 3, none⟩ = some (.int .i64 (waits xs 3)))) := fun W hW => by
      have hd : Free.Bel wr W := bt (Bel.drewT (Free.Bel.refl _)) hW
      have h2 := good_lookup (hM9.bel hd) (waits xs)
      rw [hL9.has H4.out HST.out, hr] at h2
      obtain ⟨z0, z1, z2, z3, _⟩ := cells4 ((hd.block _ (lt_of_heap H7r.out)).trans H7r.out)
      exact ⟨keepsB hd (cell_of_heap HT9.out.box rfl), keepsB hd hcm, h2, z0, z1, z2, z3⟩
    have hmn : m + 1 < NN := by have := HNN.out; omega
    have hmw : IntKind.i64.wrap ((m : Int) + 1) = (m : Int) + 1 := IntWalk.i64_in _ (by have := HKK.out.1; omega)
    have hd1 : decide ((m : Int) + 1 < (NN : Int)) = true := decide_eq_true (by omega)
    have hd2 : (0 : Int) ≤ (m : Int) + 1 := by omega
    have hd3 : (m : Int) + 1 < (NN : Int) := by omega
    have hd4 : ((m : Int) + 1).toNat = m + 1 := by omega
    have HMM := Lib.hid (And.intro hmK (And.intro hgm (And.intro hBr hr)))
    clear hbm hL9 hM9 hgm9 hcm hmK hgm hBr hr hlen
    go_wp2_with fail
    refine Free.wp_free (R := Free.Bel) (by kernel_rfl) (by kernel_rfl) Free.Bel.refl Free.Bel.trans ?_
    refine Free.Chain.ex ?_ [] [8] (by kernel_rfl) (by kernel_rfl) rfl Free.Bel.refl ?_ ?_
    rotate_left
    · (intro ev W hb hR hO hD; have hS := hF W hR; obtain ⟨hb1, hb2, hb3⟩ := hb; simp only [Free.AllDeps, Free.AllOuts, Free.At, al1, al2, al3, al4, al5, and_true] at hO hD; go_simp; rfl)
    simp only [an1, an2]
    refine Free.Chain.ex ?_ [(0, 33)] [] (by kernel_rfl) (by kernel_rfl) rfl Free.Bel.refl ?_ ?_
    rotate_left
    · (intro ev W hb hR hO hD; have hS := hF W hR; obtain ⟨hb1, hb2, hb3⟩ := hb; simp only [Free.AllDeps, Free.AllOuts, Free.At, al1, al2, al3, al4, al5, and_true] at hO hD; go_simp; rfl)
    simp only [an1, an2]
    refine Free.Chain.ex ?_ [] [6] (by kernel_rfl) (by kernel_rfl) rfl Free.Bel.refl ?_ ?_
    rotate_left
    · (intro ev W hb hR hO hD; have hS := hF W hR; obtain ⟨hb1, hb2, hb3⟩ := hb; simp only [Free.AllDeps, Free.AllOuts, Free.At, al1, al2, al3, al4, al5, and_true] at hO hD; go_simp; rfl)
    simp only [an1, an2]
    refine Free.Chain.ex ?_ [(2, 35)] [] (by kernel_rfl) (by kernel_rfl) rfl Free.Bel.refl ?_ ?_
    rotate_left
    · (intro ev W hb hR hO hD; have hS := hF W hR; obtain ⟨hb1, hb2, hb3⟩ := hb; simp only [Free.AllDeps, Free.AllOuts, Free.At, al1, al2, al3, al4, al5, and_true] at hO hD; go_simp; rfl)
    simp only [an1, an2]
    refine Free.Chain.ex ?_ [(1, 34), (3, 36)] [] (by kernel_rfl) (by kernel_rfl) rfl Free.Bel.refl ?_ ?_
    rotate_left
    · (intro ev W hb hR hO hD; have hS := hF W hR; obtain ⟨hb1, hb2, hb3⟩ := hb; simp only [Free.AllDeps, Free.AllOuts, Free.At, al1, al2, al3, al4, al5, and_true] at hO hD; go_simp; rfl)
    simp only [an1, an2]
    refine Free.Chain.ex ?_ [(4, 37)] [] (by kernel_rfl) (by kernel_rfl) rfl Free.Bel.refl ?_ ?_
    rotate_left
    · (intro ev W hb hR hO hD; have hS := hF W hR; obtain ⟨hb1, hb2, hb3⟩ := hb; simp only [Free.AllDeps, Free.AllOuts, Free.At, al1, al2, al3, al4, al5, and_true] at hO hD; go_simp; rfl)
    simp only [an1, an2]
    refine Free.Chain.exG ?_ [(5, 38)] [6] 5 true 38 (by kernel_rfl) (by kernel_rfl) rfl (by kernel_rfl) Free.Bel.refl ?_ ?_
    rotate_left
    · (intro ev W hb hR hO hD; have hS := hF W hR; obtain ⟨hb1, hb2, hb3⟩ := hb; simp only [Free.AllDeps, Free.AllOuts, Free.At, al1, al2, al3, al4, al5, and_true] at hO hD; refine ⟨by simp [hD], ?_⟩; go_simp; rfl)
    simp only [an1, an2]
    refine Free.Chain.exG ?_ [(5, 38)] [8] 5 true 38 (by kernel_rfl) (by kernel_rfl) rfl (by kernel_rfl) Free.Bel.refl ?_ ?_
    rotate_left
    · (intro ev W hb hR hO hD; have hS := hF W hR; obtain ⟨hb1, hb2, hb3⟩ := hb; simp only [Free.AllDeps, Free.AllOuts, Free.At, al1, al2, al3, al4, al5, and_true] at hO hD; refine ⟨by simp [hD], ?_⟩; go_simp; rfl)
    simp only [an1, an2]
    refine Free.Chain.exG ?_ [(7, 40), (5, 38)] [] 5 true 38 (by kernel_rfl) (by kernel_rfl) rfl (by kernel_rfl) Free.Bel.refl ?_ ?_
    rotate_left
    · (intro ev W hb hR hO hD; have hS := hF W hR; obtain ⟨hb1, hb2, hb3⟩ := hb; simp only [Free.AllDeps, Free.AllOuts, Free.At, al1, al2, al3, al4, al5, and_true] at hO hD; refine ⟨by simp [hD], ?_⟩; go_simp; rfl)
    simp only [an1, an2]
    refine Free.Chain.exG ?_ [(6, 39), (8, 41), (5, 38)] [] 5 true 38 (by kernel_rfl) (by kernel_rfl) rfl (by kernel_rfl) Free.Bel.refl ?_ ?_
    rotate_left
    · (intro ev W hb hR hO hD; have hS := hF W hR; obtain ⟨hb1, hb2, hb3⟩ := hb; simp only [Free.AllDeps, Free.AllOuts, Free.At, al1, al2, al3, al4, al5, and_true] at hO hD; refine ⟨by simp [hD], ?_⟩; go_simp; rfl)
    simp only [an1, an2]
    refine Free.Chain.exG ?_ [(9, 42), (5, 38)] [] 5 true 38 (by kernel_rfl) (by kernel_rfl) rfl (by kernel_rfl) Free.Bel.refl ?_ ?_
    rotate_left
    · (intro ev W hb hR hO hD; have hS := hF W hR; obtain ⟨hb1, hb2, hb3⟩ := hb; simp only [Free.AllDeps, Free.AllOuts, Free.At, al1, al2, al3, al4, al5, and_true] at hO hD; refine ⟨by simp [hD], ?_⟩; go_simp; rfl)
    simp only [an1, an2]
    refine Free.Chain.exG ?_ [(5, 38)] [7] 5 true 38 (by kernel_rfl) (by kernel_rfl) rfl (by kernel_rfl) Free.Bel.refl ?_ ?_
    rotate_left
    · (intro ev W hb hR hO hD; have hS := hF W hR; obtain ⟨hb1, hb2, hb3⟩ := hb; simp only [Free.AllDeps, Free.AllOuts, Free.At, al1, al2, al3, al4, al5, and_true] at hO hD; refine ⟨by simp [hD], ?_⟩; go_simp; rfl)
    simp only [an1, an2]
    refine Free.Chain.exG ?_ [(10, 43), (11, 44), (5, 38)] [] 5 true 38 (by kernel_rfl) (by kernel_rfl) rfl (by kernel_rfl) Free.Bel.refl ?_ ?_
    rotate_left
    · (intro ev W hb hR hO hD; have hS := hF W hR; obtain ⟨hb1, hb2, hb3⟩ := hb; simp only [Free.AllDeps, Free.AllOuts, Free.At, al1, al2, al3, al4, al5, and_true] at hO hD; refine ⟨by simp [hD], ?_⟩; go_simp; rfl)
    simp only [an1, an2]
    refine Free.Chain.ex ?_ [(5, 38), (12, 45)] [] (by kernel_rfl) (by kernel_rfl) rfl Free.Bel.refl ?_ ?_
    rotate_left
    · (intro ev W hb hR hO hD; have hS := hF W hR; obtain ⟨hb1, hb2, hb3⟩ := hb; simp only [Free.AllDeps, Free.AllOuts, Free.At, al1, al2, al3, al4, al5, and_true] at hO hD; go_simp; rfl)
    simp only [an1, an2]
    intro ys w9 hR hV
    simp only [Free.AllV, Free.At, List.length_cons, List.length_nil, Nat.reduceAdd, List.getElem?_cons_succ, List.getElem?_cons_zero, true_and, and_true] at hV
    simp only [Free.putsFrom, Act.put, Nat.zero_add, Nat.reduceAdd, hV, List.setIfInBounds_toArray, List.set_cons_succ, List.set_cons_zero]
    have HB9 := Lib.hid (show Free.Bel w8 w9 from bt HMM.out.2.2.1 (bt (Bel.drewT (Free.Bel.refl _)) hR))
    clear hR hV hF
    cases r with
    | true =>
      have hmK1 : m + 1 < K := by
        have h1 := HMM.out.2.2.2
        have h2 := HE0.out
        have h3 := HMM.out.1
        rcases Nat.lt_or_ge (m + 1) K with h9 | h9
        · exact h9
        · obtain rfl : K = m + 1 := by omega
          rw [h1] at h2
          cases h2
      have HMK1 := Lib.hid hmK1
      clear hmK1
      go_wp2_with fail
      go_roundw
      case rel => exact ⟨m + 1, HMK1.out, by go_num, HMM.out.2.2.2, HB9.out⟩
      case measure => have := HMM.out.1; simp [intOf]; omega
    | false =>
      have hsl : ∀ W, (Instr.slice 137 (.slice (some ⟨g, 0, none⟩) NN cap) none (some (.int .i64 m)) none).run Tryd.prog W = .ok (.slice (some ⟨g, 0, none⟩) m cap) W := fun W => slice_low g NN cap m (by
        have h1 := HT9.out.row
        have h2 := HGW.out.2
        have h3 := HMM.out.1
        omega) W
      have KL : Free.Bel w9 (w9.alloc (.cells #[.slice none 0 0] 25)) := belAlloc _ _
      have c6 : (w9.alloc (.cells #[.slice none 0 0] 25)).cell? ⟨w2.heap.size + 1, 0, none⟩ = some (.slice (some ⟨g, 0, none⟩) NN cap) := keepsB (bt HB9.out KL) (cell_of_heap HT8.out.box rfl)
      have mL : (w9.alloc (.cells #[.slice none 0 0] 25)).heap[w9.heap.size]? = some (.cells #[.slice none 0 0] 25 (0, 0)) := World.alloc_heap_new w9 _
      have HML := Lib.hid mL
      clear mL
      go_wp2_with fail
      clear c6 hsl
      refine (backM_any _ _ _ _).mono ?_
      rintro e wb ⟨rfl, hwb⟩
      go_wp2_with fail
      have HWB := Lib.hid hwb
      have hml : (gs.take m).length = m := by rw [List.length_take, HT8.out.len]; have := HNN.out; have := HMM.out.1; omega
      have hBI : BackI (w9.heap.size + 1) g cap (gs.take m) wb := by
        refine ⟨?_, fun j hj => ?_⟩
        · rw [hml, ← hwb]
          have := World.alloc_heap_new (w9.alloc (.cells #[.slice none 0 0] 25)) (.cells #[.slice (some ⟨g, 0, none⟩) m cap] 137)
          simpa using this
        · rw [hml] at hj
          have h0 : j < gs.length := by rw [HT8.out.len]; have := HNN.out; have := HMM.out.1; omega
          have h1 := HT8.out.row.cells (g := g) rfl j (mapV gs[j]) (by rw [List.getElem?_map, List.getElem?_eq_getElem h0]; rfl)
          rw [addE] at h1
          have h2 : (gs.take m).getD j 0 = gs[j] := by rw [List.getD_eq_getElem?_getD, List.getElem?_take_of_lt hj, List.getElem?_eq_getElem h0]; rfl
          rw [h2, ← hwb]
          exact keepsB (bt HB9.out (bt (belAlloc _ _) (belAlloc _ _))) (by simpa using h1)
      have hszb : wb.heap.size = w9.heap.size + 2 := by rw [← hwb]; simp
      have hK69 : Free.Bel w6 w9 := bt (belAlloc _ _) (bt HB8.out HB9.out)
      have h69 : w6.heap.size < w9.heap.size := by have := (bt HB8.out HB9.out).size; simp at this; omega
      have hgw6 : g < w6.heap.size := by have := HGW.out.1; have := HK6.out.size; omega
      have HS := Lib.hid (And.intro hszb (And.intro h69 hgw6))
      have hseq : SeqL Fence.wide (5 - 1) Tryd.prog 109 #[.pointer (some ⟨w9.heap.size + 1, 0, none⟩)] encM Free.Bel (KP w6.heap.size [w6.heap.size, w9.heap.size]) (revM (gs.take m) (gs.take m).length) wb := fun l J Jx W hW hJ hJx hY h0 =>
        backM1_in (5 - 1) l (w9.heap.size + 1) g cap (gs.take m) (by omega) W (by rw [hml]; have := HMM.out.1; have := HKK.out.1; omega) ⟨(hW.block _ (lt_of_heap hBI.1)).trans hBI.1, fun j hj => keepsB hW (hBI.2 j hj)⟩ J Jx (KP w6.heap.size [w6.heap.size, w9.heap.size]) (fun A B hA hk => ⟨hk.keep _ _ hA.1 (.inr ⟨rfl, by simp; omega, fun c f e => by cases e⟩), fun j hj => by
          have h1 := hA.2 j hj
          have h2 := lt_of_cell h1
          have h3 : A.heap[g]? = some A.heap[g] := Array.getElem?_eq_getElem h2
          exact (World.cell?_of_block (w := A) (w' := B) (a := ⟨g, j, none⟩) ((hk.keep g _ h3 (.inl hgw6)).trans h3.symm)).trans h1⟩) hY h0
      have HSEQ := Lib.hid hseq
      have HI := Lib.hid (show LastI w6 w6.heap.size w9.heap.size wb.heap.size h xs m 0 wb from ⟨bt hK69 (by rw [← hwb]; exact bt (belAlloc _ _) (belAlloc _ _)), Nat.le_refl _, Nat.zero_le _, xs, [], .slice none 0 0, HST.out, HMM.out.2.1, rfl, rfl, by
          have h1 := ((bt HB8.out HB9.out).block _ (lt_of_heap HM7.out)).trans HM7.out
          rw [← hwb]
          exact heap_old (heap_old h1), by rw [← hwb]; exact heap_old HML.out, DO.nil _ _⟩)
      have HML2 := Lib.hid hml
      clear hwb hBI hszb hK69 h69 hgw6 hseq hml
      refine (wpIn_wide (n := 5)).1 ?_
      refine wpIn_rangeFunc_R (F := Fence.wide) (n := 5) rfl (by omega) (gf := 109) (lb := #[.pointer (some ⟨w9.heap.size + 1, 0, none⟩)]) rfl trivial (enters_of Tryd.func109 (by kernel_rfl) rfl)
        HSEQ.out (fun A o _ h => bt h (belAlloc A o)) (Free.Bel.refl _) (fun A B k o h _ hA => (h.block k (lt_of_heap hA)).trans hA) KP.trans (fun W l o o' hl h hc _ => KP.put h hc (by have := HS.out; omega)) (fun x => rfl)
        (fun pre W => LastI w6 w6.heap.size w9.heap.size wb.heap.size h xs m pre.length W) (fun _ _ _ => False) ?own ?ownx ?abide ?abidex HI.out
        (fun x => { tmps := #[.agg #[.int .i64 h, .slice p xs.length cp], .pointer (some ⟨w.heap.size, 0, none⟩), .slice none 0 0, .int .i64 0, .int .i64 0, .pointer (some ⟨w2.heap.size, 0, none⟩), .pointer (some ⟨w2.heap.size + 1, 0, none⟩), .pointer (some ⟨w6.heap.size, 0, none⟩), .int .i64 m, .pointer (some ⟨w9.heap.size, 0, none⟩), undef, .map (some x.2), undef, undef, undef, .agg #[.int .i64 h, .slice p xs.length cp], .int .i64 0, .int .i64 0, .bool false, undef, .agg #[.int .i64 h, .slice p xs.length cp], .pointer (some ⟨yb, 0, none⟩), .pointer (some ⟨yb, 0, none⟩), .func (.func 91) #[] #[.pointer (some ⟨w2.heap.size + 1, 0, none⟩)], xv, .pointer (some ⟨yb, 0, none⟩), stV (waits xs), .pointer (some ⟨yb, 0, none⟩), .pointer (some ⟨yb, 0, none⟩), .pointer (some ⟨yb, 2, none⟩), .map (some gb), .agg #[.int .i64 (waits xs 0), .int .i64 (waits xs 1), .int .i64 (waits xs 2), .int .i64 (waits xs 3)], .bool false, .int .i64 m, .int .i64 (m + 1), .slice (some ⟨g, 0, none⟩) NN cap, .int .i64 NN, .bool true, .bool true, .slice (some ⟨g, 0, none⟩) NN cap, .int .i64 m, .int .i64 (m + 1), .pointer (some ⟨g, m + 1, none⟩), .map (some gm), .agg #[.int .i64 (waits xs 0), .int .i64 (waits xs 1), .int .i64 (waits xs 2), .int .i64 (waits xs 3)], .bool false, .bool false, u47, u48, .slice (some ⟨g, 0, none⟩) NN cap, .int .i64 m, .slice (some ⟨g, 0, none⟩) m cap, .func (.func 109) #[] #[.pointer (some ⟨w9.heap.size + 1, 0, none⟩)], .int .i64 x.1, .map (some x.2), undef, undef, undef, undef, undef, undef, undef, undef, undef, undef, undef, undef, undef, undef, undef, undef], defers := [] })
        ?assign ?body ?done ?stop
      case own =>
        rintro pre A B row h1 hgr hrow
        have hs := HS.out
        exact h1.own hgr hrow (by omega) (by omega) (by omega)
      case ownx => rintro c pre A B row h1 _ _; exact h1
      case abide => rintro pre A B h1 hR; exact h1.keep hR
      case abidex => rintro c pre A B h1 _; exact h1
      case assign =>
        rintro l x W K hK
        gi_wp2
        exact hK
      case body =>
        rintro l pre x W hI hpre
        obtain ⟨hpl, hx⟩ := revM_at hpre
        obtain ⟨x1, x2⟩ := x
        obtain ⟨pm, hpm⟩ : ∃ y, pre.length = y := ⟨_, rfl⟩
        rw [HML2.out] at hpl hx
        have hlp : (pre ++ [(x1, x2)]).length = pm + 1 := by simp [hpm]
        rw [hpm] at hI hpl hx
        obtain ⟨j, hj⟩ : ∃ j, m - pm = j + 1 := ⟨m - pm - 1, by omega⟩
        have hj1 : m - (pm + 1) = j := by omega
        have hj2 : j < gs.length := by rw [HT8.out.len]; have := HNN.out; have := HMM.out.1; omega
        rw [hj1] at hx
        have hx2 : x2 = gs[j] := by
          have h1 := (Prod.mk.inj hx).2
          rw [h1, List.getD_eq_getElem?_getD, List.getElem?_take_of_lt (by omega), List.getElem?_eq_getElem hj2]
          rfl
        obtain ⟨hb9, Lj, hLj, hMj⟩ := (HTL.out.1.bel (bt HK6.out hI.bel)).maps j (by exact hj2)
        obtain ⟨zs, ds, vl, hz, hg9, hl9, hdl, hB7, hB9, hdo⟩ := hI.st
        rw [hj] at hg9 hl9
        obtain ⟨d, hst, htn, hzd, hgd, hld⟩ := last_step HWE.out.1 hLj hz hg9
        rw [← hx2] at hMj
        have hye := HYE.out.bel (bt HK6.out hI.bel)
        have HSC := Lib.hid (step_any yb x2 xs (waits zs) (D7 h xs) Lj v dv W hye.yw.c1 hye.yw.c3 hye.yw.rl hye.yw.tl hMj H4.out (waits_st hz fun x hx => (HX.out x hx).2.2.2.1) (tset xs d) (waits (dayR d zs)) true (Lib.hid hst))
        have c5 : W.cell? ⟨w2.heap.size, 0, none⟩ = some (.pointer (some ⟨yb, 0, none⟩)) := keepsB (bt HK6.out hI.bel) (cell_of_heap HB5.out.2.1 rfl)
        have HID := Lib.hid (fun W' (hW : Free.Bel w6 W') => ids_any yb xs (tset xs d) v W' (HYE.out.bel (bt HK6.out hW)).yw.c1 (HYE.out.bel (bt HK6.out hW)).yw.rl H4.out)
        obtain ⟨S, hS⟩ : ∃ y, waits zs = y := ⟨_, rfl⟩
        obtain ⟨RS, hRS⟩ : ∃ y, waits (dayR d zs) = y := ⟨_, rfl⟩
        have HIDS := Lib.hid (ids_tset HWE.out.1 htn)
        obtain ⟨RTn, hRT⟩ : ∃ y, tset xs d = y := ⟨_, rfl⟩
        rw [hS, hRS, hRT] at HSC
        rw [hRT] at HID HIDS
        rw [hS] at hB7
        have HF := Lib.hid (And.intro hI (And.intro hz (And.intro hl9 (And.intro hdl (And.intro hB7 (And.intro hB9 (And.intro hdo (And.intro hzd (And.intro hgd (And.intro hld (And.intro hRS hlp)))))))))))
        obtain ⟨S0, S1, S2, S3, _⟩ := cells4 hB7
        dsimp only
        clear hpl hx hpre hpm hI hj2 hx2 hb9 hLj hMj hz hg9 hl9 hdl hB7 hB9 hdo hst htn hzd hgd hld hye hS hRS hRT hlp
        gi_wp2
        refine ⟨trivial, ?_⟩
        refine (CallsIn.inRound l (callsIn_wide.2 HSC.out)).mono ?_
        rintro e W1 ⟨rfl, hB1⟩
        have hB1 : Free.Bel W W1 := hB1
        clear c5 S0 S1 S2 S3
        obtain ⟨hI, hz, hl9, hdl, hB7, hB9, hdo, hzd, hgd, hld, hRS, hlp⟩ := HF.out
        obtain ⟨vs, hvl, how, hdr⟩ := hdo
        obtain ⟨pl, cl, rfl⟩ := row_slice how
        have hs := HS.out
        have hdl' : ds.length ≤ 1296 := by rw [hdl]; have := hI.le; have := HMM.out.1; have := HKK.out.1; omega
        have HDL := Lib.hid hdl'
        have K1 : Free.Bel W1 ((W1.alloc (.cells (arrB RTn) 149)).alloc (.cells (arrV RS) 109)) := bt (belAlloc _ _) (belAlloc _ _)
        have KW : Free.Bel W ((W1.alloc (.cells (arrB RTn) 149)).alloc (.cells (arrV RS) 109)) := bt hB1 K1
        have m12 : ((W1.alloc (.cells (arrB RTn) 149)).alloc (.cells (arrV RS) 109)).heap[W1.heap.size]? = some (.cells (arrB RTn) 149 (0, 0)) := heap_old (World.alloc_heap_new W1 _)
        have m13 : ((W1.alloc (.cells (arrB RTn) 149)).alloc (.cells (arrV RS) 109)).heap[W1.heap.size + 1]? = some (.cells (arrV RS) 109 (0, 0)) := by
          have := World.alloc_heap_new (W1.alloc (.cells (arrB RTn) 149)) (.cells (arrV RS) 109)
          simpa using this
        have hbs : ∀ k ∈ w9.heap.size :: w6.heap.size :: (Value.slice pl ds.length cl).ownBlock.toList, w6.heap.size ≤ k ∧ k < W.heap.size := by
          intro k hk
          have h1 := lt_of_heap hB7
          have h2 := lt_of_heap hB9
          simp only [List.mem_cons] at hk
          rcases hk with rfl | rfl | hk
          · omega
          · omega
          · rcases how.2 with ⟨h9, _⟩ | ⟨g9, cap9, cur9, h9, hb9, hg9, _⟩
            · rw [h9] at hk; simp [Value.ownBlock] at hk
            · rw [h9] at hk
              simp [Value.ownBlock] at hk
              subst hk
              have := lt_of_heap hg9
              omega
        have hsW : W.heap.size ≤ W1.heap.size := hB1.size
        have HJ0 := Lib.hid (show JL w6.heap.size w9.heap.size S RS (.slice pl ds.length cl) vs ds d (fun _ => none) ((W1.alloc (.cells (arrB RTn) 149)).alloc (.cells (arrV RS) 109)).drew from JL.start ((KW.block _ (lt_of_heap hB9)).trans hB9) ((KW.block _ (lt_of_heap hB7)).trans hB7) ⟨hvl, bel_row how (bt KW (Bel.drewT (Free.Bel.refl _))), fun i hi u hu => (hdr i hi u hu).stay fun k c f hk => (KW.block _ (lt_of_heap hk)).trans hk⟩)
        have HKP := Lib.hid (fun (W' : World) (hR : RX W.heap.size (w9.heap.size :: w6.heap.size :: (Value.slice pl ds.length cl).ownBlock.toList) W W') => rx_kp (n0 := wb.heap.size) how hB7 hB9 hs.2.1 hR)
        have HWD : Hid (∀ W', RX (W1.heap.size + 2) (w9.heap.size :: w6.heap.size :: (Value.slice pl ds.length cl).ownBlock.toList) ((W1.alloc (.cells (arrB RTn) 149)).alloc (.cells (arrV RS) 109)).drew W' → RX W.heap.size (w9.heap.size :: w6.heap.size :: (Value.slice pl ds.length cl).ownBlock.toList) W W') := fun W' hR => RX.trans _ _ _ (RX.of_bel (bt KW (Bel.drewT (Free.Bel.refl _))) (Nat.le_refl _)) (hR.less (by omega))
        have HFF : Hid (∀ W', RX (W1.heap.size + 2) (w9.heap.size :: w6.heap.size :: (Value.slice pl ds.length cl).ownBlock.toList) ((W1.alloc (.cells (arrB RTn) 149)).alloc (.cells (arrV RS) 109)).drew W' → Free.Bel w6 W' ∧ W'.heap[W1.heap.size]? = some (.cells (arrB RTn) 149 (0, 0)) ∧ W'.heap[W1.heap.size + 1]? = some (.cells (arrV RS) 109 (0, 0))) := fun W' hR => by
          have h1 := HWD.out W' hR
          have h2 := hI.bel
          refine ⟨⟨h1.os.trans h2.os, h1.tape.trans h2.tape, h1.output.trans h2.output, Nat.le_trans h2.size h1.size, fun k hk => (h1.block k (Nat.lt_of_lt_of_le hk h2.size) (fun hm => by have := (hbs k hm).1; omega)).trans (h2.block k hk)⟩, ?_, ?_⟩
          · exact (hR.block _ (by omega) (fun hm => by have := (hbs _ hm).2; omega)).trans m12
          · exact (hR.block _ (by omega) (fun hm => by have := (hbs _ hm).2; omega)).trans m13
        have HW5 := Lib.hid (cell_of_heap (o := 0) HB5.out.2.1 rfl)
        have hF : ∀ W', RX (W1.heap.size + 2) (w9.heap.size :: w6.heap.size :: (Value.slice pl ds.length cl).ownBlock.toList) ((W1.alloc (.cells (arrB RTn) 149)).alloc (.cells (arrV RS) 109)).drew W' → (W'.cell? ⟨w2.heap.size, 0, none⟩ = some (.pointer (some ⟨yb, 0, none⟩)) ∧ (W'.cell? ⟨W1.heap.size, 0, none⟩ = some (.bool (RTn 0)) ∧ W'.cell? ⟨W1.heap.size, 1, none⟩ = some (.bool (RTn 1)) ∧ W'.cell? ⟨W1.heap.size, 2, none⟩ = some (.bool (RTn 2)) ∧ W'.cell? ⟨W1.heap.size, 3, none⟩ = some (.bool (RTn 3))) ∧ (W'.cell? ⟨W1.heap.size + 1, 0, none⟩ = some (.int .i64 (RS 0)) ∧ W'.cell? ⟨W1.heap.size + 1, 1, none⟩ = some (.int .i64 (RS 1)) ∧ W'.cell? ⟨W1.heap.size + 1, 2, none⟩ = some (.int .i64 (RS 2)) ∧ W'.cell? ⟨W1.heap.size + 1, 3, none⟩ = some (.int .i64 (RS 3)))) := fun W' hR => by
          obtain ⟨h1, h2, h3⟩ := HFF.out W' hR
          obtain ⟨a0, a1, a2, a3, _⟩ := cells4 h2
          obtain ⟨b0, b1, b2, b3, _⟩ := cells4 h3
          exact ⟨keepsB (bt HK6.out h1) HW5.out, ⟨a0, a1, a2, a3⟩, b0, b1, b2, b3⟩
        have HF2 := Lib.hid (And.intro hI (And.intro hz (And.intro hl9 (And.intro hdl (And.intro hzd (And.intro hgd (And.intro hld (And.intro hRS hlp))))))))
        have HSZ := Lib.hid (And.intro hsW (And.intro (lt_of_heap hB9) hs))
        obtain ⟨i0, hi0, hz0, hz1, hz2⟩ := info_parts Go.Proofs.YtknpglgpkkhhiaaDoor.T.infoDT
        have HZ := Lib.hid (And.intro hi0 (And.intro hz0 (And.intro hz1 hz2)))
        clear hi0 hz0 hz1 hz2 hI hz hl9 hdl hB7 hB9 hzd hgd hld hRS hlp hvl how hdr hs hdl' K1 KW m12 m13 hbs hsW hB1
        gi_wp2
        refine Free2R.wp_free (R := RX (W1.heap.size + 2) (w9.heap.size :: w6.heap.size :: (Value.slice pl ds.length cl).ownBlock.toList)) (J := JL w6.heap.size w9.heap.size S RS (.slice pl ds.length cl) vs ds d) (by kernel_rfl) (by kernel_rfl) (by kernel_rfl) (RX.refl _ _) RX.trans HJ0.out ?_
        refine Free2R.Chain.pr (fun v _ => v = .slice pl ds.length cl) 0 rfl [] [9] (by kernel_rfl) (by kernel_rfl) rfl (fun _ _ _ _ h => h) ?_ ?_
        · (intro ev W X hb hR hO hD hj hx hax; have hS := hF W hR; obtain ⟨hb1, hb2, hb3⟩ := hb; simp only [Free.AllDeps, Free.AllOuts, Free.At, al1, al2, al3, al4, al5, and_true] at hO hD; simp only [Free2.AllX, and_true] at hax; have h5 := JL.no5 hj (.inl hx); have c0 := cell_of_heap (o := 0) (hj.c9 (hj.no7 h5).1) rfl; have hg := JL.skip hj 0 (.slice pl ds.length cl) (by decide); go_simp; first | exact ⟨RX.refl _ _ _, rfl, hg⟩ | exact ⟨RX.refl _ _ _, hg⟩)
        simp only [an1, an2]
        refine Free2R.Chain.ex ?_ 1 rfl [] [5] (by kernel_rfl) (by kernel_rfl) rfl (RX.refl _ _) (fun X W v h => JL.skip h 1 v (by decide)) ?_ ?_
        rotate_left
        · (intro ev W hb hR hO hD; have hS := hF W hR; obtain ⟨hb1, hb2, hb3⟩ := hb; simp only [Free.AllDeps, Free.AllOuts, Free.At, al1, al2, al3, al4, al5, and_true] at hO hD; go_simp; rfl)
        simp only [an1, an2]
        refine Free2R.Chain.ex ?_ 2 rfl [] [12] (by kernel_rfl) (by kernel_rfl) rfl (RX.refl _ _) (fun X W v h => JL.skip h 2 v (by decide)) ?_ ?_
        rotate_left
        · (intro ev W hb hR hO hD; have hS := hF W hR; obtain ⟨hb1, hb2, hb3⟩ := hb; simp only [Free.AllDeps, Free.AllOuts, Free.At, al1, al2, al3, al4, al5, and_true] at hO hD; go_simp; rfl)
        simp only [an1, an2]
        refine Free2R.Chain.pr (fun _ _ => True) 3 rfl [(1, 64), (2, 65)] [] (by kernel_rfl) (by kernel_rfl) rfl (fun _ _ _ _ h => h) ?_ ?_
        · (intro ev W X hb hR hO hD hj hx hax; have hS := hF W hR; obtain ⟨hb1, hb2, hb3⟩ := hb; simp only [Free.AllDeps, Free.AllOuts, Free.At, al1, al2, al3, al4, al5, and_true] at hO hD; simp only [Free2.AllX, and_true] at hax; have hb := (HFF.out W hR).1; have hsz := hR.size; simp at hsz; go_simp; refine yields_enter ?_; (with_reducible refine (HID.out W hb).mono ?_); rintro e W2 ⟨⟨u, rfl, hrow⟩, hB2⟩; rw [HIDS.out] at hrow; exact ⟨_, rfl, RX.of_bel hB2 hsz, JL.ids hj hx hB2 ⟨_, hrow⟩⟩)
        simp only [an1, an2]
        refine Free2R.Chain.pr (fun _ _ => True) 4 rfl [(3, 66)] [] (by kernel_rfl) (by kernel_rfl) rfl (fun _ _ _ _ h => h) ?_ ?_
        · (intro ev W X hb hR hO hD hj hx hax; have hS := hF W hR; obtain ⟨hb1, hb2, hb3⟩ := hb; simp only [Free.AllDeps, Free.AllOuts, Free.At, al1, al2, al3, al4, al5, and_true] at hO hD; simp only [Free2.AllX, and_true] at hax; have h5 := JL.no5 hj (.inr hx); have hsz := hR.size; simp at hsz; have hX3 := hax; obtain ⟨b0, hrw⟩ := hj.id h5 _ hX3; obtain ⟨q9, c9, hev⟩ := row_slice hrw; rw [hev] at hX3; go_simp; exact ⟨RX.of_bel (belAlloc _ _) hsz, JL.made hj h5 (belAlloc _ _) hX3 (by simp [go_sem])⟩)
        simp only [an1, an2]
        refine Free2R.Chain.pr (fun _ _ => True) 5 rfl [(0, 63), (4, 67), (3, 66)] [] (by kernel_rfl) (by kernel_rfl) rfl (fun _ _ _ _ h => h) ?_ ?_
        · (intro ev W X hb hR hO hD hj hx hax; have hS := hF W hR; obtain ⟨hb1, hb2, hb3⟩ := hb; simp only [Free.AllDeps, Free.AllOuts, Free.At, al1, al2, al3, al4, al5, and_true] at hO hD; simp only [Free2.AllX, and_true] at hax; obtain ⟨sb, su, hsb, hsc, hs3⟩ := hj.src hx _ hax.2.1; have hsz := hR.size; simp at hsz; have hrw := hj.row hx; have ho1 : su.oneCell' = true := (hj.id hx _ hs3).one; have hdl := HDL.out; obtain ⟨v2, W2, hr2, ho2, hg2, _⟩ := run_append_own_wide (P := Tryd.prog) W w9.heap.size 25 25 58 i0 (.slice none 0 0) 1 24 Tryd.underlying25 HZ.out.1 HZ.out.2.1 HZ.out.2.2.1 HZ.out.2.2.2 rfl (by decide) (.slice pl ds.length cl) ds.length vs hrw.2.1 ⟨sb, 0, none⟩ 1 1 [su] rfl (cell_one_add hsc) (by simpa using ho1) (by unfold maxLen; omega) (by omega) (by have := HSZ.out; omega); simp only [execOp, resolve, invoke, builtin, Sem.run_bind, Sem.run_pure, Result.andThen_ok, List.map_toArray, List.map_cons, List.map_nil, hD, hsb, hr2]; exact ⟨RX.row hrw.2.1 hg2 hsz, trivial, JL.app hj hx (by rw [hax.1]; simp) (by rw [hax.2.1]; simp) hs3 HSZ.out.2.2.2.1 hg2 ho2⟩)
        simp only [an1, an2]
        refine Free2R.Chain.ex ?_ 6 rfl [] [13] (by kernel_rfl) (by kernel_rfl) rfl (RX.refl _ _) (fun X W v h => JL.skip h 6 v (by decide)) ?_ ?_
        rotate_left
        · (intro ev W hb hR hO hD; have hS := hF W hR; obtain ⟨hb1, hb2, hb3⟩ := hb; simp only [Free.AllDeps, Free.AllOuts, Free.At, al1, al2, al3, al4, al5, and_true] at hO hD; go_simp; rfl)
        simp only [an1, an2]
        refine Free2R.Chain.pr (fun _ _ => True) 7 rfl [(5, 68), (5, 68), (0, 63), (1, 64), (2, 65), (3, 66), (4, 67), (5, 68)] [9] (by kernel_rfl) (by kernel_rfl) rfl (fun _ _ _ _ h => h) ?_ ?_
        · (intro ev W X hb hR hO hD hj hx hax; have hS := hF W hR; obtain ⟨hb1, hb2, hb3⟩ := hb; simp only [Free.AllDeps, Free.AllOuts, Free.At, al1, al2, al3, al4, al5, and_true] at hO hD; simp only [Free2.AllX, and_true] at hax; have hb9 := hj.c9 hx; have c0 := cell_of_heap (o := 0) hb9 rfl; have c1 := frozen_of_heap (o := 0) hb9; have hX5 := hax.1; obtain ⟨vs9, _, hrw, _⟩ := hj.now _ hX5; obtain ⟨q9, c9, hev⟩ := row_slice hrw; rw [hev] at hX5; go_simp; exact ⟨RX.set (by simp), JL.put9 hj hx (by rw [hX5]; simp) HSZ.out.2.2.2.1⟩)
        simp only [an1, an2]
        refine Free2R.Chain.pr (fun _ _ => True) 8 rfl [(6, 69), (0, 63), (1, 64), (2, 65), (3, 66), (4, 67), (5, 68), (6, 69)] [7] (by kernel_rfl) (by kernel_rfl) rfl (fun _ _ _ _ h => h) ?_ ?_
        · (intro ev W X hb hR hO hD hj hx hax; have hS := hF W hR; obtain ⟨hb1, hb2, hb3⟩ := hb; simp only [Free.AllDeps, Free.AllOuts, Free.At, al1, al2, al3, al4, al5, and_true] at hO hD; simp only [Free2.AllX, and_true] at hax; have hb7 := hj.c7 hx; obtain ⟨c0, c1, c2, c3, f0, f1, f2, f3⟩ := cells4 hb7; have hX5 : X 5 ≠ none := (by rw [hax.2.2.2.2.2.2.1]; simp); go_simp; exact ⟨RX.trans _ _ _ (RX.trans _ _ _ (RX.set (by simp)) (RX.set (by simp))) (RX.trans _ _ _ (RX.set (by simp)) (RX.set (by simp))), JL.put7 hj hx hX5 HSZ.out.2.2.2.1⟩)
        simp only [an1, an2]
        intro ys w7 hR hV hX
        obtain ⟨X, hj, hxx⟩ := hX
        simp only [Free.AllV, Free.At, List.length_cons, List.length_nil, Nat.reduceAdd, List.getElem?_cons_succ, List.getElem?_cons_zero, true_and, and_true] at hV
        simp only [Free.putsFrom, Act.put, Nat.zero_add, Nat.reduceAdd, hV, List.setIfInBounds_toArray, List.set_cons_succ, List.set_cons_zero]
        have x5 : X 5 = some (ys 5) := hxx 5 (by decide)
        have x7 : X 7 ≠ none := by rw [hxx 7 (by decide)]; simp
        have x8 : X 8 ≠ none := by rw [hxx 8 (by decide)]; simp
        have HE := Lib.hid (And.intro (hj.d9 x7 _ x5) (And.intro (hj.d7 x8) (And.intro (hj.now _ x5) (And.intro (HWD.out w7 hR) (HFF.out w7 hR).1))))
        clear hR hV hj hxx hF x5 x7 x8
        gi_wp2
        obtain ⟨e1, e2, e3, e4, e5⟩ := HE.out
        obtain ⟨hI, hz, hl9, hdl, hzd, hgd, hld, hRS, hlp⟩ := HF2.out
        have hk := HKP.out w7 e4
        refine ⟨hk.1, hk.2, ?_⟩
        show LastI w6 w6.heap.size w9.heap.size wb.heap.size h xs m (pre ++ [(x1, x2)]).length w7
        rw [hlp]
        refine ⟨e5, Nat.le_trans hI.sz e4.size, by omega, dayR d zs, ds ++ [d], _, hzd, by rw [hj1]; exact hgd, by rw [hl9, hld, hj1]; simp, by simp [hdl], by rw [hRS]; exact e2, e1, e3⟩
      case done =>
        rintro D W hD hI hKD
        obtain ⟨zs, ds, vl, hz, hg9, hl9, hdl, hB7, hB9, hdo⟩ := hI.st
        have z0 := cell_of_heap (o := 0) hB9 rfl
        have hlen9 : (revM (gs.take m) (gs.take m).length).length = m := by rw [revM_length]; exact HML2.out
        rw [hlen9, Nat.sub_self] at hl9
        have HDI := Lib.hid (And.intro hI.bel (And.intro hl9 hdo))
        clear hz hg9 hl9 hdl hB7 hB9 hdo hI
        go_wp2_with fail
        refine ⟨by simp, .inl ⟨_, _, rfl, run_takeDeferred hKD, ?_⟩⟩
        obtain ⟨hbl, hl9, hdo⟩ := HDI.out
        have hs := HS.out
        have hB5 := HB5.out.1
        have hl9' : lastL h m xs = ds := by rw [hl9, lastL]; simp
        have hbw : Below w.heap.size w W := hB5.trans (Below.mono (bt HK6.out hbl) hB5.size)
        refine ⟨.tuple #[vl, .int .i64 0], by simp [results, Tryd.f47, go_sem], ⟨m, vl, by have := HMM.out.1; have := HKK.out.1; omega, HMM.out.2.1, HMM.out.2.2.2, rfl, ?_⟩, hbw.trans (Below.putNew _ (by have := hB5.size; have := HK6.out.size; omega))⟩
        rw [hl9']
        exact (hdo.put hKD rfl).mono (by have := hB5.size; have := HK6.out.size; omega)
      case stop => rintro D c pre W _ _ h _; exact h.elim
theorem lastP_v (h : Int) (xs : List Rk) (u : Value) (w : World) (hT : TabR w) (hu : RL xs u w) (c : Int) (hc : Hid (lastE h xs = c)) :
    Calls Tryd.prog 47 #[.agg #[.int .i64 h, u]] w fun e w' => LastPost h xs c w e w' ∧ Below w.heap.size w w' := by
  have hC := hc.out
  unfold lastE at hC
  cases hw : watchB h xs with
  | false =>
    rw [hw] at hC
    obtain rfl : c = 70 := by simpa using hC.symm
    exact (last_a h xs u w hT hu hw).mono fun e w' ⟨h1, h2⟩ => ⟨.inl ⟨by decide, h1⟩, h2⟩
  | true =>
    cases he : everB h xs with
    | true =>
      rw [hw, he] at hC
      obtain rfl : c = 6 := by simpa using hC.symm
      exact (last_b h xs u w hT hu hw he).mono fun e w' ⟨h1, h2⟩ => ⟨.inl ⟨by decide, h1⟩, h2⟩
    | false =>
      rw [hw, he] at hC
      obtain rfl : c = 0 := by simpa using hC.symm
      exact (last_c h xs u w hT hu hw he).mono fun e w' ⟨h1, h2⟩ => ⟨.inr ⟨rfl, h1⟩, h2⟩
end Go.Proofs.YtknpglgpkkhhiaaDoor

/- The share. -/
namespace Go.Proofs.YtknpglgpkkhhiaaDoor
set_option linter.unusedSimpArgs false
set_option linter.unusedVariables false
open Go.RowKit Go.Proofs.YtknpglgpkkhhiaaDoor.Free2 Go.Proofs.YtknpglgpkkhhiaaDoor.ML RR

def shareI (xs : List Rk) : Int := sumI (xs.map fun x => 60 / x.2.1)
def ShPost (h : Int) (xs : List Rk) (e : Ending) : Prop := (watchB h xs = false ∧ e = .returned (.tuple #[.agg #[.int .i64 0, .int .i64 0], .int .i64 70])) ∨ (watchB h xs = true ∧ e = .returned (.tuple #[partV (shareI xs).toNat 60, .int .i64 0]))
theorem share_step (n d S c E : Int) (h : n * 60 = S * d) (hE : c * E = 60) : (n * E + d) * 60 = (S + c) * (d * E) := by
  have h1 : (S + c) * (d * E) = S * d * E + c * E * d := by
    rw [Int.add_mul, Int.mul_assoc S d E, Int.mul_comm d E, ← Int.mul_assoc c E d]
  rw [h1, hE, ← h, Int.add_mul, Int.mul_right_comm n E 60, Int.mul_comm 60 d]
theorem share_bound (k : Nat) (n d E : Int) (h0 : 0 ≤ n) (hn : n ≤ k * 6 ^ k) (hd0 : 1 ≤ d) (hd : d ≤ 6 ^ k) (h1 : 1 ≤ E) (h6 : E ≤ 6) : 0 ≤ n * E + d ∧ n * E + d ≤ (k + 1 : Nat) * 6 ^ (k + 1) ∧ 1 ≤ d * E ∧ d * E ≤ 6 ^ (k + 1) ∧ 0 ≤ n * E := by
  have hP : (0 : Int) ≤ 6 ^ k := Int.pow_nonneg (by omega)
  have a1 : n * E ≤ (k * 6 ^ k) * 6 := Int.mul_le_mul hn h6 (by omega) (Int.mul_nonneg (by omega) hP)
  have a2 : d * E ≤ 6 ^ k * 6 := Int.mul_le_mul hd h6 (by omega) hP
  have a3 : 0 ≤ n * E := Int.mul_nonneg h0 (by omega)
  have a4 : 1 * 1 ≤ d * E := Int.mul_le_mul hd0 h1 (by omega) (by omega)
  have e1 : (6 : Int) ^ (k + 1) = 6 ^ k * 6 := Int.pow_succ 6 k
  have e2 : ((k + 1 : Nat) : Int) * 6 ^ (k + 1) = (k * 6 ^ k) * 6 + 6 ^ k * 6 := by
    rw [e1, Int.natCast_add, Int.add_mul, ← Int.mul_assoc]
    simp
  rw [e2, e1]
  generalize (k : Int) * 6 ^ k = M at *
  generalize (6 : Int) ^ k = P at *
  omega
theorem sixty {E : Int} (h1 : 1 ≤ E) (h6 : E ≤ 6) : (60 / E) * E = 60 := by
  rcases (show E = 1 ∨ E = 2 ∨ E = 3 ∨ E = 4 ∨ E = 5 ∨ E = 6 by omega) with rfl | rfl | rfl | rfl | rfl | rfl <;> decide
theorem sumI_append (a b : List Int) : sumI (a ++ b) = sumI a + sumI b := by
  induction a with
  | nil => simp [sumI]
  | cons x r ih => simp only [List.cons_append, sumI, ih]; omega
theorem pow6 {k : Nat} (h : k ≤ 4) : (6 : Int) ^ k ≤ 1296 ∧ (k : Int) * 6 ^ k ≤ 5184 := by
  rcases (show k = 0 ∨ k = 1 ∨ k = 2 ∨ k = 3 ∨ k = 4 by omega) with rfl | rfl | rfl | rfl | rfl <;> decide
theorem share_nonneg {h : Int} {xs : List Rk} (hw : watchB h xs = true) : 0 ≤ shareI xs := by
  have key : ∀ xs : List Rk, (∀ x ∈ xs, okR x) → 0 ≤ shareI xs := by
    intro xs
    induction xs with
    | nil => exact fun _ => Int.le_refl _
    | cons x r ih =>
      intro hx
      have h1 := ih fun y hy => hx y (by simp [hy])
      have h2 := hx x (by simp)
      unfold okR at h2
      have h3 : 0 ≤ 60 / x.2.1 := Int.ediv_nonneg (by omega) (by omega)
      unfold shareI at h1 ⊢
      simp only [List.map_cons, sumI]
      omega
  exact key xs (watchB_ok hw)
set_option maxRecDepth 100000 in
set_option maxHeartbeats 8000000 in
theorem shareP_any (h : Int) (xs : List Rk) (u : Value) (w : World) (hT : TabR w) (hu : RL xs u w) :
    Calls Tryd.prog 30 #[.agg #[.int .i64 h, u]] w fun e w' => ShPost h xs e ∧ Below w.heap.size w w' := by
  have HU := Lib.hid hu
  obtain ⟨p, cp, rfl, hm, hp⟩ := hu
  have HP := Lib.hid hp
  have KB : Free.Bel w ((w.alloc (.cells #[.int .i64 h, .slice p xs.length cp] 24)).alloc (.cells #[.int .i64 0, .int .i64 0] 51)) := bt (belAlloc _ _) (belAlloc _ _)
  have m0 : ((w.alloc (.cells #[.int .i64 h, .slice p xs.length cp] 24)).alloc (.cells #[.int .i64 0, .int .i64 0] 51)).heap[w.heap.size]? = some (.cells #[.int .i64 h, .slice p xs.length cp] 24 (0, 0)) := heap_old (World.alloc_heap_new w _)
  have m1 : ((w.alloc (.cells #[.int .i64 h, .slice p xs.length cp] 24)).alloc (.cells #[.int .i64 0, .int .i64 0] 51)).heap[w.heap.size + 1]? = some (.cells #[.int .i64 0, .int .i64 0] 51 (0, 0)) := by
    have := World.alloc_heap_new (w.alloc (.cells #[.int .i64 h, .slice p xs.length cp] 24)) (.cells #[.int .i64 0, .int .i64 0] 51)
    simpa using this
  have FA : ∀ W, Free.Bel ((w.alloc (.cells #[.int .i64 h, .slice p xs.length cp] 24)).alloc (.cells #[.int .i64 0, .int .i64 0] 51)) W → W.cell? ⟨w.heap.size, 0, none⟩ = some (.int .i64 h) ∧ W.cell? ⟨w.heap.size, 1, none⟩ = some (.slice p xs.length cp) := fun W hW => ⟨keepsB hW (cell_of_heap m0 rfl), keepsB hW (cell_of_heap m0 rfl)⟩
  have KE : Free.Bel ((w.alloc (.cells #[.int .i64 h, .slice p xs.length cp] 24)).alloc (.cells #[.int .i64 0, .int .i64 0] 51)) ((w.alloc (.cells #[.int .i64 h, .slice p xs.length cp] 24)).alloc (.cells #[.int .i64 0, .int .i64 0] 51)) := Free.Bel.refl _
  have HCK := Lib.hid (fun c hc => checkP_v h xs _ ((w.alloc (.cells #[.int .i64 h, .slice p xs.length cp] 24)).alloc (.cells #[.int .i64 0, .int .i64 0] 51)) (hT.bel KB) (HU.out.keeps KB) c hc)
  have HKB := Lib.hid (And.intro KB m1)
  cases hw : watchB h xs with
  | false =>
    have HC := Lib.hid (HCK.out 70 (by show _ = _; simp [hw]))
    have HW0 := Lib.hid hw
    clear hT m0 m1 hw HCK hp
    go_enter Tryd.func30, Tryd.ntmps30
    go_wp2_with fail
    refine HC.out.mono ?_
    rintro e w1 ⟨rfl, hB1⟩
    have K1 : Free.Bel ((w.alloc (.cells #[.int .i64 h, .slice p xs.length cp] 24)).alloc (.cells #[.int .i64 0, .int .i64 0] 51)) w1 := hB1
    have n1 := (K1.block _ (lt_of_heap HKB.out.2)).trans HKB.out.2
    have y0 := cell_of_heap (o := 0) n1 rfl
    have y1 := cell_of_heap (o := 1) n1 rfl
    have f0 := frozen_of_heap (o := 0) n1
    have f1 := frozen_of_heap (o := 1) n1
    have HB := Lib.hid (bt KB K1)
    clear hB1 n1
    go_wp2_with fail
    exact bodyPost_ret (v := .tuple #[.agg #[.int .i64 0, .int .i64 0], .int .i64 70]) (by simp [results, Tryd.results30, go_sem, y0, y1]) rfl ⟨.inl ⟨HW0.out, rfl⟩, (HB.out.setCell (by simp) _).setCell (by simp) _⟩
  | true =>
    have HC := Lib.hid (HCK.out 0 (by show _ = _; simp [hw]))
    have hl4 := (watchB_iff.1 hw).2.1
    have HW := Lib.hid hw
    clear hT m0 m1 hw HCK hp
    go_enter Tryd.func30, Tryd.ntmps30
    go_wp2_with fail
    refine HC.out.mono ?_
    rintro e w1 ⟨rfl, hB1⟩
    have K1 : Free.Bel ((w.alloc (.cells #[.int .i64 h, .slice p xs.length cp] 24)).alloc (.cells #[.int .i64 0, .int .i64 0] 51)) w1 := hB1
    have HK1 := Lib.hid K1
    clear hB1
    go_wp2_with fail
    clear K1 KE FA KB
    go_loopw [18, 5, 6] (fun i n d wr => ∃ (k : Nat) (nv dv : Int), k ≤ xs.length ∧ i = .int .i64 k ∧ n = .int .i64 nv ∧ d = .int .i64 dv ∧ Free.Bel ((w.alloc (.cells #[.int .i64 h, .slice p xs.length cp] 24)).alloc (.cells #[.int .i64 0, .int .i64 0] 51)) wr ∧ 0 ≤ nv ∧ nv ≤ k * 6 ^ k ∧ 1 ≤ dv ∧ dv ≤ 6 ^ k ∧ Hid (nv * 60 = shareI (xs.take k) * dv)) (fun i _ _ _ => xs.length - (intOf i).toNat)
    case atStart => exact ⟨0, 0, 1, Nat.zero_le _, rfl, rfl, rfl, HK1.out, by omega, by decide, by omega, by decide, (show (0 : Int) * 60 = shareI (xs.take 0) * 1 by simp [shareI, sumI])⟩
    case round =>
      obtain ⟨k, nv, dv, hk, rfl, rfl, rfl, hK, h0, h1, h2, h3, HEQ⟩ := hrel
      by_cases hlt : k < xs.length
      · have hx : xs ≠ [] := by intro e; simp [e] at hlt
        obtain ⟨b, off, rfl, hcp⟩ := HP.out hx
        obtain ⟨d1, d2, d3⟩ := hcp k hlt
        have e1 := keepsB (bt HKB.out.1 hK) d1
        have e2 := keepsB (bt HKB.out.1 hK) d2
        have e3 := keepsB (bt HKB.out.1 hK) d3
        have hklt : (k : Int) < xs.length := by omega
        have hok := watchB_ok HW.out xs[k] (List.getElem_mem hlt)
        unfold okR at hok
        have htk : Hid (shareI (xs.take (k + 1)) = shareI (xs.take k) + 60 / xs[k].2.1) := by
          show _ = _
          rw [List.take_succ_eq_append_getElem hlt, shareI, List.map_append, sumI_append]
          simp [shareI, sumI]
        obtain ⟨b1, b2, b3, b4, b5⟩ := share_bound k nv dv xs[k].2.1 h0 h1 h2 h3 hok.2.2.1 hok.2.2.2.1
        obtain ⟨p1, p2⟩ := pow6 (show k + 1 ≤ 4 by omega)
        obtain ⟨p3, p4⟩ := pow6 (show k ≤ 4 by omega)
        have hb3 : 1 ≤ dv * xs[k].2.1 := b3
        have HB := Lib.hid (And.intro b1 (And.intro b2 (And.intro b3 b4)))
        have hd9 : dv ≤ 1296 := by omega
        have hn9 : nv ≤ 5184 := by omega
        have hs9 : nv * xs[k].2.1 + dv ≤ 5184 := Int.le_trans b2 p2
        have hm9 : dv * xs[k].2.1 ≤ 1296 := Int.le_trans b4 p1
        clear hcp hx d1 d2 d3 b2 b4 p1 p2 p3 p4 h1 h3
        have HSX := Lib.hid (sixty hok.2.2.1 hok.2.2.2.1)
        generalize xs[k] = x at *
        obtain ⟨x1, x2, x3⟩ := x
        simp only at *
        have hw1 : IntKind.i64.wrap (nv * x2) = nv * x2 := IntWalk.i64_in _ (by omega)
        have hw2 : IntKind.i64.wrap (nv * x2 + dv) = nv * x2 + dv := IntWalk.i64_in _ (by omega)
        have hw3 : IntKind.i64.wrap (dv * x2) = dv * x2 := IntWalk.i64_in _ (by omega)
        have hkw : IntKind.i64.wrap ((k : Int) + 1) = (k : Int) + 1 := IntWalk.i64_in _ (by omega)
        have KA : Free.Bel wr (wr.alloc (.cells #[.int .i64 x1, .int .i64 x2, .int .i64 x3] 47)) := belAlloc _ _
        have hx1 : (wr.alloc (.cells #[.int .i64 x1, .int .i64 x2, .int .i64 x3] 47)).cell? ⟨wr.heap.size, 1, none⟩ = some (.int .i64 x2) := by simp [go_sem]
        have HKA := Lib.hid (bt hK KA)
        go_wp2_with fail
        clear e1 e2 e3
        go_quiet (fail)
        go_wp2_with fail
        go_roundw
        case rel =>
          refine ⟨k + 1, nv * x2 + dv, dv * x2, by omega, by go_num, rfl, rfl, ?_, HB.out.1, HB.out.2.1, HB.out.2.2.1, HB.out.2.2.2, ?_⟩
          · exact bt HKA.out (belN _ _)
          · show _ = _
            rw [htk.out]
            exact share_step nv dv _ _ x2 HEQ.out HSX.out
        case measure => simp [intOf]; omega
      · obtain rfl : k = xs.length := by omega
        have hd9 := (pow6 (k := xs.length) (by omega))
        have hnn := share_nonneg HW.out
        rw [List.take_length] at HEQ
        have heq : partV nv.toNat dv.toNat = partV (shareI xs).toNat 60 := by
          have h9 : Samp.lowest nv.toNat dv.toNat = Samp.lowest (shareI xs).toNat 60 := by
            refine Samp.lowest_cross (by omega) (by decide) ?_
            have := HEQ.out
            obtain ⟨a, rfl⟩ := Int.eq_ofNat_of_zero_le h0
            obtain ⟨b, rfl⟩ := Int.eq_ofNat_of_zero_le (show 0 ≤ dv by omega)
            obtain ⟨s, hs⟩ := Int.eq_ofNat_of_zero_le hnn
            rw [hs] at this ⊢
            simp only [Int.toNat_natCast]
            exact_mod_cast this
          unfold partV
          rw [h9]
        have HPT := Lib.hid (part_int nv dv h0 (by omega) (by omega) (by omega) _ heq wr)
        have HK := Lib.hid hK
        clear hK hd9 hnn heq h1 h3
        go_wp2_with fail
        refine HPT.out.mono ?_
        rintro e w5 ⟨rfl, hB5⟩
        have K5 : Free.Bel ((w.alloc (.cells #[.int .i64 h, .slice p xs.length cp] 24)).alloc (.cells #[.int .i64 0, .int .i64 0] 51)) w5 := bt HK.out hB5
        have n1 := (K5.block _ (lt_of_heap HKB.out.2)).trans HKB.out.2
        have y0 := cell_of_heap (o := 0) n1 rfl
        have y1 := cell_of_heap (o := 1) n1 rfl
        have f0 := frozen_of_heap (o := 0) n1
        have f1 := frozen_of_heap (o := 1) n1
        have HB := Lib.hid (bt HKB.out.1 K5)
        obtain ⟨q1, hq1⟩ : ∃ y, ((Samp.lowest (shareI xs).toNat 60).1 : Int) = y := ⟨_, rfl⟩
        obtain ⟨q2, hq2⟩ : ∃ y, ((Samp.lowest (shareI xs).toNat 60).2 : Int) = y := ⟨_, rfl⟩
        have hpv : partV (shareI xs).toNat 60 = .agg #[.int .i64 q1, .int .i64 q2] := by unfold partV; rw [hq1, hq2]
        have HPV := Lib.hid hpv
        rw [hpv]
        clear hB5 n1 hpv hq1 hq2
        go_wp2_with fail
        exact bodyPost_ret (v := .tuple #[.agg #[.int .i64 q1, .int .i64 q2], .int .i64 0]) (by simp [results, Tryd.results30, go_sem, y0, y1]) rfl ⟨.inr ⟨HW.out, by rw [HPV.out]⟩, (HB.out.setCell (by simp) _).setCell (by simp) _⟩
end Go.Proofs.YtknpglgpkkhhiaaDoor

/- The examples of chapter 07's laws: what each call tells. -/
namespace Go.Proofs.YtknpglgpkkhhiaaDoor
set_option linter.unusedSimpArgs false
set_option linter.unusedVariables false
open Go.RowKit Go.Proofs.YtknpglgpkkhhiaaDoor.Free2 Go.Proofs.YtknpglgpkkhhiaaDoor.ML RR

/-- A watch of which two ricks are turned later. -/
def JW (b : Nat) (X : XT) (W : World) : Prop := W.heap[b]? = some (.cells #[.int .i64 1, .int .i64 2, .int .i64 0, .int .i64 2, .int .i64 4, .int .i64 (if (X 6).isSome = true then 2 else 1), .int .i64 3, .int .i64 4, .int .i64 (if (X 9).isSome = true then 3 else 0)] 47 (0, 0))
theorem JW.at {b : Nat} {X : XT} {W : World} (h : JW b X W) : ∃ x y, W.cell? ⟨b, 5, none⟩ = some x ∧ W.cell? ⟨b, 8, none⟩ = some y ∧ W.frozen? ⟨b, 5, none⟩ = false ∧ W.frozen? ⟨b, 8, none⟩ = false := by
  unfold JW at h
  exact ⟨_, _, cell_of_heap (o := 5) h rfl, cell_of_heap (o := 8) h rfl, frozen_of_heap (o := 5) h, frozen_of_heap (o := 8) h⟩
theorem JW.skip {b : Nat} {X : XT} {W : World} (h : JW b X W) (n : Nat) (v : Value) (h6 : n ≠ 6) (h9 : n ≠ 9) : JW b (upd X n v) W := by
  unfold JW
  rw [upd_other _ _ (Ne.symm h6), upd_other _ _ (Ne.symm h9)]
  exact h
theorem JW.put9 {b : Nat} {X : XT} {W : World} (h : JW b X W) (v : Value) : JW b (upd X 9 v) (W.setCell ⟨b, 8, none⟩ (.int .i64 3)) := by
  unfold JW at h ⊢
  rw [upd_same, upd_other _ _ (show (6 : Nat) ≠ 9 by decide)]
  have := heap_setCell_same (o := 8) (.int .i64 3) h
  simpa using this
end Go.Proofs.YtknpglgpkkhhiaaDoor

/- The reference's comparison of heats. -/
namespace Go.Proofs.YtknpglgpkkhhiaaDoor
set_option linter.unusedSimpArgs false
set_option linter.unusedVariables false
open Go.RowKit

end Go.Proofs.YtknpglgpkkhhiaaDoor

/- Watches: Great, Same. -/
namespace Go.Proofs.YtknpglgpkkhhiaaDoor
set_option linter.unusedSimpArgs false
set_option linter.unusedVariables false
open Go.RowKit

set_option maxRecDepth 100000 in
set_option maxHeartbeats 4000000 in
theorem sameW_any (h : Int) (xs : List (Int × Int × Int)) (u v : Value) (w : World) (hu : RL xs u w) (hv : RL xs v w) :
    Calls Tryd.prog 28 #[.agg #[.int .i64 h, u], .agg #[.int .i64 h, v]] w fun e w' => e = .returned (.bool true) ∧ Below w.heap.size w w' := by
  obtain ⟨p, cp, rfl, hm, hp⟩ := hu
  obtain ⟨q, cq, rfl, _, hq⟩ := hv
  unfold maxLen at hm
  have HP := Lib.hid hp
  have HQ := Lib.hid hq
  clear hp hq
  have hB0 : Below w.heap.size w ((w.alloc (.cells #[.int .i64 h, .slice p xs.length cp] 24)).alloc (.cells #[.int .i64 h, .slice q xs.length cq] 24)) := ((Below.refl _ w).alloc (Nat.le_refl _) _).alloc (by simp) _
  have c0_0 : ((w.alloc (.cells #[.int .i64 h, .slice p xs.length cp] 24)).alloc (.cells #[.int .i64 h, .slice q xs.length cq] 24)).cell? ⟨w.heap.size, 0, none⟩ = some (.int .i64 h) := by simp [go_sem]
  have c0_1 : ((w.alloc (.cells #[.int .i64 h, .slice p xs.length cp] 24)).alloc (.cells #[.int .i64 h, .slice q xs.length cq] 24)).cell? ⟨w.heap.size, 1, none⟩ = some (.slice p xs.length cp) := by simp [go_sem]
  have c1_0 : ((w.alloc (.cells #[.int .i64 h, .slice p xs.length cp] 24)).alloc (.cells #[.int .i64 h, .slice q xs.length cq] 24)).cell? ⟨w.heap.size + 1, 0, none⟩ = some (.int .i64 h) := by simp [go_sem]
  have c1_1 : ((w.alloc (.cells #[.int .i64 h, .slice p xs.length cp] 24)).alloc (.cells #[.int .i64 h, .slice q xs.length cq] 24)).cell? ⟨w.heap.size + 1, 1, none⟩ = some (.slice q xs.length cq) := by simp [go_sem]
  have FA : ∀ W, Free.Bel ((w.alloc (.cells #[.int .i64 h, .slice p xs.length cp] 24)).alloc (.cells #[.int .i64 h, .slice q xs.length cq] 24)) W → W.cell? ⟨w.heap.size, 0, none⟩ = some (.int .i64 h) ∧ W.cell? ⟨w.heap.size, 1, none⟩ = some (.slice p xs.length cp) ∧ W.cell? ⟨w.heap.size + 1, 0, none⟩ = some (.int .i64 h) ∧ W.cell? ⟨w.heap.size + 1, 1, none⟩ = some (.slice q xs.length cq) := fun W hW => ⟨keepsB hW c0_0, keepsB hW c0_1, keepsB hW c1_0, keepsB hW c1_1⟩
  go_enter Tryd.func28, Tryd.ntmps28
  go_wp2_with fail
  have hB9 : Below w.heap.size w ((w.alloc (.cells #[.int .i64 h, .slice p xs.length cp] 24)).alloc (.cells #[.int .i64 h, .slice q xs.length cq] 24)) := hB0
  clear hB0 c0_0 c0_1 c1_0 c1_1
  generalize ((w.alloc (.cells #[.int .i64 h, .slice p xs.length cp] 24)).alloc (.cells #[.int .i64 h, .slice q xs.length cq] 24)) = w1 at *
  go_loopw [5] (fun i wr => ∃ k : Nat, k ≤ xs.length ∧ i = .int .i64 k ∧ Free.Bel w1 wr) (fun i _ => xs.length - (intOf i).toNat)
  case atStart => exact ⟨0, Nat.zero_le _, rfl, Free.Bel.refl _⟩
  case round =>
    obtain ⟨k, hk, rfl, hB⟩ := hrel
    by_cases hlt : k < xs.length
    · have hx : xs ≠ [] := by intro e; simp [e] at hlt
      obtain ⟨b, off, rfl, hcp⟩ := HP.out hx
      obtain ⟨b2, off2, rfl, hcq⟩ := HQ.out hx
      have hww : Below w.heap.size w wr := hB9.trans (hB.mono hB9.size)
      obtain ⟨e1, e2, e3⟩ := hcp k hlt
      obtain ⟨e4, e5, e6⟩ := hcq k hlt
      have HC := Lib.hid (And.intro (keepsB hww e1) (And.intro (keepsB hww e2) (And.intro (keepsB hww e3) (And.intro (keepsB hww e4) (And.intro (keepsB hww e5) (keepsB hww e6))))))
      have hklt : (k : Int) < xs.length := by omega
      clear hcp hcq e1 e2 e3 e4 e5 e6 hx
      generalize xs[k] = x at *
      obtain ⟨x1, x2, x3⟩ := x
      go_wp2_with fail
      have hF : ∀ W, Free.Bel wr.drew W → (W.cell? ⟨b, off + k * 3, none⟩ = some (.int .i64 x1) ∧ W.cell? ⟨b, off + k * 3 + 1, none⟩ = some (.int .i64 x2) ∧ W.cell? ⟨b, off + k * 3 + 2, none⟩ = some (.int .i64 x3) ∧ W.cell? ⟨b2, off2 + k * 3, none⟩ = some (.int .i64 x1) ∧ W.cell? ⟨b2, off2 + k * 3 + 1, none⟩ = some (.int .i64 x2) ∧ W.cell? ⟨b2, off2 + k * 3 + 2, none⟩ = some (.int .i64 x3)) ∧ Free.Bel w1 W :=
        fun W hW => ⟨⟨keepsB (Free.Bel.first hW) HC.out.1, keepsB (Free.Bel.first hW) HC.out.2.1, keepsB (Free.Bel.first hW) HC.out.2.2.1, keepsB (Free.Bel.first hW) HC.out.2.2.2.1, keepsB (Free.Bel.first hW) HC.out.2.2.2.2.1, keepsB (Free.Bel.first hW) HC.out.2.2.2.2.2⟩, bt hB (Free.Bel.first hW)⟩
      refine Free.wp_free (R := Free.Bel) (by kernel_rfl) (by kernel_rfl) Free.Bel.refl Free.Bel.trans ?_
      refine Free.Chain.ex ?_ [] [2] (by kernel_rfl) (by kernel_rfl) rfl Free.Bel.refl ?_ ?_
      rotate_left 2
      simp only [an1, an2]
      refine Free.Chain.ex ?_ [(0, 27)] [] (by kernel_rfl) (by kernel_rfl) rfl Free.Bel.refl ?_ ?_
      rotate_left 2
      simp only [an1, an2]
      refine Free.Chain.ex ?_ [] [5] (by kernel_rfl) (by kernel_rfl) rfl Free.Bel.refl ?_ ?_
      rotate_left 2
      simp only [an1, an2]
      refine Free.Chain.ex ?_ [(1, 28), (2, 29)] [] (by kernel_rfl) (by kernel_rfl) rfl Free.Bel.refl ?_ ?_
      rotate_left 2
      simp only [an1, an2]
      refine Free.Chain.ex ?_ [(3, 30)] [] (by kernel_rfl) (by kernel_rfl) rfl Free.Bel.refl ?_ ?_
      rotate_left 2
      simp only [an1, an2]
      refine Free.Chain.ex ?_ [] [3] (by kernel_rfl) (by kernel_rfl) rfl Free.Bel.refl ?_ ?_
      rotate_left 2
      simp only [an1, an2]
      refine Free.Chain.ex ?_ [(5, 32)] [] (by kernel_rfl) (by kernel_rfl) rfl Free.Bel.refl ?_ ?_
      rotate_left 2
      simp only [an1, an2]
      refine Free.Chain.ex ?_ [] [5] (by kernel_rfl) (by kernel_rfl) rfl Free.Bel.refl ?_ ?_
      rotate_left 2
      simp only [an1, an2]
      refine Free.Chain.ex ?_ [(6, 33), (7, 34)] [] (by kernel_rfl) (by kernel_rfl) rfl Free.Bel.refl ?_ ?_
      rotate_left 2
      simp only [an1, an2]
      refine Free.Chain.ex ?_ [(8, 35)] [] (by kernel_rfl) (by kernel_rfl) rfl Free.Bel.refl ?_ ?_
      rotate_left 2
      simp only [an1, an2]
      refine Free.Chain.ex ?_ [(4, 31), (9, 36)] [] (by kernel_rfl) (by kernel_rfl) rfl Free.Bel.refl ?_ ?_
      rotate_left 2
      simp only [an1, an2]
      rotate_left
      iterate 11 (rotate_left; intro ev W hb hR hO hD; have hS := hF W hR; obtain ⟨hb1, hb2, hb3⟩ := hb; simp only [Free.AllDeps, Free.AllOuts, Free.At, al1, al2, al3, al4, al5, and_true] at hO hD; obtain ⟨hS, hS2⟩ := hS; go_simp; rfl)
      intro xs w' hR hV
      simp only [Free.AllV, Free.At, List.length_cons, List.length_nil, Nat.reduceAdd, List.getElem?_cons_succ, List.getElem?_cons_zero, true_and] at hV
      simp only [Free.putsFrom, Act.put, hV, List.setIfInBounds_toArray, List.set_cons_succ, List.set_cons_zero]
      have hB2 : Free.Bel w1 w' := bt hB (Free.Bel.first hR)
      clear hR hV hF
      go_wp2_with fail
      go_roundw
      case rel => exact ⟨k + 1, by omega, by go_num, hB2⟩
      case measure => simp [intOf]; omega
    · obtain rfl : k = xs.length := by omega
      go_wp2_with fail
      go_ret
      exact ⟨rfl, hB9.trans (hB.mono hB9.size)⟩

set_option maxRecDepth 100000 in
set_option maxHeartbeats 2000000 in
theorem great_any (h : Int) (n cap : Nat) (p : Option Addr) (w : World) :
    Calls Tryd.prog 17 #[.agg #[.int .i64 h, .slice p n cap]] w fun e w' => e = .returned (.bool (decide (10 < (n : Int)))) ∧ Below w.heap.size w w' := by
  have hB0 : Below w.heap.size w (w.alloc (.cells #[.int .i64 h, .slice p n cap] 24)) := (Below.refl _ w).alloc (Nat.le_refl _) _
  go_enter Tryd.func17, Tryd.ntmps17
  go_wp2_with fail
  go_ret
  exact ⟨by simp, hB0⟩
end Go.Proofs.YtknpglgpkkhhiaaDoor

/- The examples of chapter 07's laws: alive returns true. -/
namespace Go.Proofs.YtknpglgpkkhhiaaDoor
set_option linter.unusedSimpArgs false
set_option linter.unusedVariables false
open Go.RowKit Go.Proofs.YtknpglgpkkhhiaaDoor.Free2 Go.Proofs.YtknpglgpkkhhiaaDoor.ML RR

end Go.Proofs.YtknpglgpkkhhiaaDoor

/- ready, of chapter 07's laws. -/
namespace Go.Proofs.YtknpglgpkkhhiaaDoor
set_option linter.unusedSimpArgs false
set_option linter.unusedVariables false
open Go.RowKit Go.Proofs.YtknpglgpkkhhiaaDoor.Free2 Go.Proofs.YtknpglgpkkhhiaaDoor.ML RR

end Go.Proofs.YtknpglgpkkhhiaaDoor

/- A watch made by a call in a region that draws its order, and kept in a box made there too. -/
namespace Go.Proofs.YtknpglgpkkhhiaaDoor
set_option linter.unusedSimpArgs false
set_option linter.unusedVariables false
open Go.RowKit Go.Proofs.YtknpglgpkkhhiaaDoor.Free2 Go.Proofs.YtknpglgpkkhhiaaDoor.ML RR

/-- Blocks below n0 stay, and later ones but cells of one type. -/
structure RQt (t : TypeId) (n0 : Nat) (a b : World) : Prop where
  below : Below n0 a b
  other : ∀ (k : Nat) (o : Obj), a.heap[k]? = some o → (∀ c f, o ≠ .cells c t f) → b.heap[k]? = some o
section
variable {a b c : World} {n0 : Nat} {t : TypeId}
theorem RQt.refl (t : TypeId) (n0 : Nat) (a : World) : RQt t n0 a a := ⟨Below.refl _ _, fun _ _ h _ => h⟩
theorem RQt.trans (h : RQt t n0 a b) (k : RQt t n0 b c) : RQt t n0 a c := ⟨h.below.trans k.below, fun i o h1 h2 => k.other i o (h.other i o h1 h2) h2⟩
theorem RQt.of_bel (h : Free.Bel a b) (hn : n0 ≤ a.heap.size) : RQt t n0 a b := ⟨h.mono hn, fun k o h1 _ => (h.block k (lt_of_heap h1)).trans h1⟩
theorem RQt.set {g o : Nat} {v : Value} {cs : Array Value} {f : Nat × Nat} (hg : n0 ≤ g) (hq : a.heap[g]? = some (.cells cs t f)) : RQt t n0 a (a.setCell ⟨g, o, none⟩ v) :=
  ⟨(Below.refl _ a).setCell (by simpa using hg) v, fun k p h1 h2 => by
    have hne : k ≠ g := by
      rintro rfl
      rw [hq] at h1
      cases h1
      exact h2 _ _ rfl
    exact (Below.heap_setCell _ _ _ _ (by simpa using hne)).trans h1⟩
theorem RQt.row {base : Nat} {e : TypeId} {size n : Nat} {v : Value} {xs : List Value} (h : RQt t n0 a b) (ht : e ≠ t) (ho : a.ownsRow base e size v n xs) : b.ownsRow base e size v n xs :=
  own_typed ho fun k c f hk => h.other k _ hk fun c' f' e' => by cases e'; exact ht rfl
end
/-- Operation al makes a box of two cells, operation st stores in it what operation ex gave. -/
structure JK (t : TypeId) (s0 ex al st : Nat) (X : XT) (W : World) : Prop where
  ord : X st ≠ none → X ex ≠ none ∧ X al ≠ none
  size : s0 ≤ W.heap.size
  new : ∀ v, X al = some v → ∃ b, v = .pointer (some ⟨b, 0, none⟩) ∧ s0 ≤ b ∧ (X st = none → ∃ x y, W.heap[b]? = some (.cells #[x, y] t (0, 0))) ∧ (X st ≠ none → ∃ x y, X ex = some (.agg #[x, y]) ∧ W.heap[b]? = some (.cells #[x, y] t (0, 0)))
section
variable {t : TypeId} {s0 ex al st : Nat} {X : XT} {W W' : World}
theorem JK.start (hs : s0 ≤ W.heap.size) : JK t s0 ex al st (fun _ => none) W := ⟨fun h => absurd rfl h, hs, fun v h => (by cases h)⟩
theorem JK.bel (H : JK t s0 ex al st X W) (hB : Free.Bel W W') : JK t s0 ex al st X W' :=
  ⟨H.ord, Nat.le_trans H.size hB.size, fun v hv => by
    obtain ⟨b, h1, h2, h3, h4⟩ := H.new v hv
    exact ⟨b, h1, h2, fun h => let ⟨x, y, h5⟩ := h3 h; ⟨x, y, (hB.block _ (lt_of_heap h5)).trans h5⟩, fun h => let ⟨x, y, h5, h6⟩ := h4 h; ⟨x, y, h5, (hB.block _ (lt_of_heap h6)).trans h6⟩⟩⟩
theorem JK.skip (H : JK t s0 ex al st X W) (n : Nat) (v : Value) (h1 : n ≠ al) (h2 : n ≠ st) (h3 : n = ex → X ex = none) : JK t s0 ex al st (upd X n v) W := by
  have e1 := upd_other X v (Ne.symm h1)
  have e2 := upd_other X v (Ne.symm h2)
  refine ⟨fun h => ?_, H.size, fun u hu => ?_⟩
  · rw [e2] at h
    refine ⟨?_, by rw [e1]; exact (H.ord h).2⟩
    by_cases e : n = ex
    · subst e; rw [upd_same]; simp
    · rw [upd_other _ _ (Ne.symm e)]; exact (H.ord h).1
  · rw [e1] at hu
    obtain ⟨b, a1, a2, a3, a4⟩ := H.new u hu
    refine ⟨b, a1, a2, fun h => a3 (by rwa [e2] at h), fun h => ?_⟩
    rw [e2] at h
    by_cases e : n = ex
    · exact absurd (h3 e) (H.ord h).1
    · rw [upd_other _ _ (Ne.symm e)]; exact a4 h
theorem JK.made (H : JK t s0 ex al st X W) (hst : X al = none) {b : Nat} {x y : Value} (hB : Free.Bel W W') (hb : s0 ≤ b) (hh : W'.heap[b]? = some (.cells #[x, y] t (0, 0))) (hne : al ≠ st) : JK t s0 ex al st (upd X al (.pointer (some ⟨b, 0, none⟩))) W' := by
  have hs : X st = none := by
    cases h : X st with
    | none => rfl
    | some v => exact absurd hst (H.ord (by rw [h]; simp)).2
  have e2 := upd_other X (.pointer (some ⟨b, 0, none⟩)) (Ne.symm hne)
  refine ⟨fun h => absurd hs (by rwa [e2] at h), Nat.le_trans H.size hB.size, fun u hu => ?_⟩
  rw [upd_same] at hu
  cases hu
  exact ⟨b, rfl, hb, fun _ => ⟨x, y, hh⟩, fun h => absurd hs (by rwa [e2] at h)⟩
theorem JK.put (H : JK t s0 ex al st X W) (hst : X st = none) {b : Nat} {x y v : Value} (hal : X al = some (.pointer (some ⟨b, 0, none⟩))) (hex : X ex = some (.agg #[x, y])) (n1 : al ≠ st) (n2 : ex ≠ st) : JK t s0 ex al st (upd X st v) ((W.setCell ⟨b, 0, none⟩ x).setCell ⟨b, 1, none⟩ y) := by
  have e1 := upd_other X v n1
  have e2 := upd_other X v n2
  refine ⟨fun _ => ⟨by rw [e2, hex]; simp, by rw [e1, hal]; simp⟩, by simpa using H.size, fun u hu => ?_⟩
  rw [e1, hal] at hu
  cases hu
  obtain ⟨b', h1, h2, h3, _⟩ := H.new _ hal
  cases h1
  obtain ⟨x0, y0, h5⟩ := h3 hst
  refine ⟨b, rfl, h2, fun h => (by rw [upd_same] at h; cases h), fun _ => ⟨x, y, by rw [e2]; exact hex, ?_⟩⟩
  have h6 := heap_setCell_same (o := 1) y (heap_setCell_same (o := 0) x h5)
  simpa using h6
end
end Go.Proofs.YtknpglgpkkhhiaaDoor

/- Days on which nothing is turned. -/
namespace Go.Proofs.YtknpglgpkkhhiaaDoor
set_option linter.unusedSimpArgs false
set_option linter.unusedVariables false

end Go.Proofs.YtknpglgpkkhhiaaDoor

/- The fewest hands and the moistest cake: plain law. -/
namespace Go.Proofs.YtknpglgpkkhhiaaDoor
set_option linter.unusedSimpArgs false
set_option linter.unusedVariables false

end Go.Proofs.YtknpglgpkkhhiaaDoor

/- The index of a rick of a valid watch. -/
namespace Go.Proofs.YtknpglgpkkhhiaaDoor
set_option linter.unusedSimpArgs false
set_option linter.unusedVariables false

end Go.Proofs.YtknpglgpkkhhiaaDoor

/- RoundFewest: with the fewest hands it can go on, with one less it cannot; likewise with the moistest cake. -/
namespace Go.Proofs.YtknpglgpkkhhiaaDoor
set_option linter.unusedSimpArgs false
set_option linter.unusedVariables false
open Go.RowKit Go.Proofs.YtknpglgpkkhhiaaDoor.Free2 Go.Proofs.YtknpglgpkkhhiaaDoor.ML RR

theorem row_moist {base g n cap : Nat} {xs : List Rk} {i : Nat} {a : Int} {w : World} (h : w.ownsRow base 47 3 (.slice (some ⟨g, 0, none⟩) n cap) n (cellsR (moistR xs i a))) (hi : i < xs.length) (v : Int) :
    (w.setCell ⟨g, i * 3 + 1, none⟩ (.int .i64 v)).ownsRow base 47 3 (.slice (some ⟨g, 0, none⟩) n cap) n (cellsR (moistR xs i v)) := by
  have h1 := rick_storeE h i (by rw [moistR_length]; exact hi) v
  rw [moistR_get xs i hi, moistR_set xs i hi a v] at h1
  exact h1
end Go.Proofs.YtknpglgpkkhhiaaDoor

/- The reference's Round. -/
namespace Go.Proofs.YtknpglgpkkhhiaaDoor
set_option linter.unusedSimpArgs false
set_option linter.unusedVariables false
open Go.RowKit Go.Proofs.YtknpglgpkkhhiaaDoor.Free2 Go.Proofs.YtknpglgpkkhhiaaDoor.ML RR

theorem code_inj {xs a b : List Rk} (ha : StOf xs a) (hb : StOf xs b) (h : codeR a = codeR b) : a = b := by rw [← at_code ha, ← at_code hb, h]
/-- What seen holds. -/
structure SeenI (h : Int) (xs : List Rk) (m : Nat) (SV : Nat → Int) : Prop where
  dis : ∀ a b, a < b → b < m → planS h xs a ≠ planS h xs b
  at_ : ∀ j : Nat, (∃ i, i < m ∧ codeR (planS h xs i) = (j : Int) ∧ SV j = (i : Int) + 1) ∨ (SV j = 0 ∧ ∀ i, i < m → codeR (planS h xs i) ≠ (j : Int))
theorem SeenI.start (h : Int) (xs : List Rk) : SeenI h xs 0 (fun _ => 0) := ⟨fun a b _ hb => absurd hb (by omega), fun j => .inr ⟨rfl, fun i hi => absurd hi (by omega)⟩⟩
theorem SeenI.next {h : Int} {xs : List Rk} {m cm : Nat} {SV : Nat → Int} (H : SeenI h xs m SV) (hc : codeR (planS h xs m) = (cm : Int)) (h0 : SV cm = 0) : SeenI h xs (m + 1) (fun j => if j = cm then (m : Int) + 1 else SV j) := by
  have hn : ∀ i, i < m → codeR (planS h xs i) ≠ (cm : Int) := by
    rcases H.at_ cm with ⟨i, _, _, h9⟩ | ⟨_, h9⟩
    · omega
    · exact h9
  refine ⟨fun a b hab hb e => ?_, fun j => ?_⟩
  · by_cases hbm : b = m
    · subst hbm
      exact hn a hab (by rw [e]; exact hc)
    · exact H.dis a b hab (by omega) e
  · by_cases hj : j = cm
    · subst hj
      exact .inl ⟨m, by omega, hc, by simp⟩
    · simp only [if_neg hj]
      rcases H.at_ j with ⟨i, hi, h8, h9⟩ | ⟨h8, h9⟩
      · exact .inl ⟨i, by omega, h8, h9⟩
      · refine .inr ⟨h8, fun i hi e => ?_⟩
        by_cases him : i = m
        · subst him; rw [hc] at e; exact hj (by omega)
        · exact h9 i (by omega) e
theorem SeenI.last {h : Int} {xs : List Rk} {m cm : Nat} {SV : Nat → Int} (H : SeenI h xs m SV) (hs : ∀ n, StOf xs (planS h xs n)) (hc : codeR (planS h xs m) = (cm : Int)) (h0 : SV cm ≠ 0) : ∃ i : Nat, SV cm = (i : Int) + 1 ∧ RoundIs h xs i m := by
  rcases H.at_ cm with ⟨i, hi, h8, h9⟩ | ⟨h8, _⟩
  · exact ⟨i, h9, hi, (code_inj (hs i) (hs m) (h8.trans hc.symm)).symm, H.dis⟩
  · exact absurd h8 h0
def lenV : Value → Nat
  | .slice _ n _ => n
  | _ => 0
theorem DayR.other {d : List Int} {g n c b o : Nat} {x : Value} {W : World} (h : DayR d (.slice (some ⟨g, 0, none⟩) n c) W) (hg : g ≠ b) : DayR d (.slice (some ⟨g, 0, none⟩) n c) (W.setCell ⟨b, o, none⟩ x) := let ⟨b0, h1⟩ := h; ⟨b0, row_block h1 fun k hk _ => heap_setCell_other (by
  simp [Value.ownBlock] at hk
  omega)⟩
theorem DWI.seen {w W : World} {h : Int} {xs zs : List Rk} {uv v x : Value} {O : List Int} {gO n c sb o : Nat} {cs : Array Value} {f : Nat × Nat} (H : DWI w h xs uv O (.slice (some ⟨gO, 0, none⟩) n c) zs v W) (hb : W.heap[sb]? = some (.cells cs 3 f)) (hs : w.heap.size < sb) (hg : gO ≠ sb) : DWI w h xs uv O (.slice (some ⟨gO, 0, none⟩) n c) zs v (W.setCell ⟨sb, o, none⟩ x) :=
  ⟨H.bel.setCell (by simp; omega) _, heap_other H.bx (by simp; omega), H.rk.imp id (fun ⟨b0, h9⟩ => ⟨b0, own_typed h9 fun k c' f' hk => heap_other hk (by
    rintro rfl
    rw [hb] at hk
    simp only [Option.some.injEq, Obj.cells.injEq] at hk
    exact absurd hk.2.1 (by decide))⟩), H.ro.other hg⟩
theorem DOB.below {base b sb o : Nat} {ds : List (List Int)} {v x : Value} {W : World} (h : DOB base b ds v W) (h1 : sb < base) (h2 : sb < b) : DOB base b ds v (W.setCell ⟨sb, o, none⟩ x) :=
  let ⟨vs, a, q, c⟩ := h
  ⟨vs, a, ownsRow_setCell_below q h1 _, fun i hi u hu => ownsRow_setCell_below (c i hi u hu) h2 _⟩
theorem TK.rowIs {W W' : World} {b n : Nat} {f : Nat → Value} (k : TK W W') (h : W.rowIs b 3 n f) : W'.rowIs b 3 n f := let ⟨c, h1, h2, h3⟩ := h; ⟨c, k _ _ _ _ h1 (.inl rfl), h2, h3⟩
theorem DOB.dzs {base b g m cap i : Nat} {ds : List (List Int)} {W : World} (h : DOB base b ds (.slice (some ⟨g, 0, none⟩) m cap) W) (hm : ds.length = m) (hi : i < m) (hc : m ≤ cap) : DZ (ds.take i) (.slice (some ⟨g, 0, none⟩) i cap) W ∧ DZ (ds.drop i) (.slice (tailD (some ⟨g, 0, none⟩) cap i) (m - i) (cap - i)) W := by
  have h1 := h.do.part (a := 0) (n := i) (c := cap) (by omega)
  have h2 := h.do.part (a := i) (n := m - i) (c := cap - i) (by omega)
  rw [List.drop_zero] at h1
  rw [List.take_of_length_le (by simp; omega)] at h2
  refine ⟨h1, ?_⟩
  have e : tailD (some ⟨g, 0, none⟩) cap i = some ⟨g, i, none⟩ := by
    unfold tailD
    rw [if_neg (by omega)]
    simp [Addr.add]
    try (intro h9; omega)
  rw [e]
  exact h2
set_option maxRecDepth 100000 in
set_option maxHeartbeats 32000000 in
theorem roundR_v (h : Int) (xs : List Rk) (u : Value) (w : World) (hu : RL xs u w) (hz : NZ u) :
    Calls Tryd.prog 42 #[.agg #[.int .i64 h, u]] w fun e w' => RoundPost h xs (goE h xs) w e w' ∧ Below w.heap.size w w' := by
  have HUX := Lib.hid (fun (W : World) (hW : Below w.heap.size w W) => hu.keeps hW)
  have HNZ := Lib.hid hz
  obtain ⟨p, cp, rfl, hm, hp⟩ := hu
  have HP := Lib.hid hp
  have KB : Free.Bel w (w.alloc (.cells #[.int .i64 h, .slice p xs.length cp] 24)) := belAlloc _ _
  have FA : ∀ W, Free.Bel (w.alloc (.cells #[.int .i64 h, .slice p xs.length cp] 24)) W → W.cell? ⟨w.heap.size, 0, none⟩ = some (.int .i64 h) ∧ W.cell? ⟨w.heap.size, 1, none⟩ = some (.slice p xs.length cp) := fun W hW => ⟨keepsB hW (by simp [go_sem]), keepsB hW (by simp [go_sem])⟩
  have KE : Free.Bel (w.alloc (.cells #[.int .i64 h, .slice p xs.length cp] 24)) (w.alloc (.cells #[.int .i64 h, .slice p xs.length cp] 24)) := Free.Bel.refl _
  have m0 : (w.alloc (.cells #[.int .i64 h, .slice p xs.length cp] 24)).heap[w.heap.size]? = some (.cells #[.int .i64 h, .slice p xs.length cp] 24 (0, 0)) := World.alloc_heap_new w _
  have HM0 := Lib.hid m0
  clear hz hm hp m0
  cases hw : watchB h xs with
  | false =>
    have HC := Lib.hid (watchR_v h xs _ _ (HUX.out _ KB) false (Lib.hid hw))
    have HW := Lib.hid hw
    clear hw
    go_enter Tryd.func42, Tryd.ntmps42
    go_wp2_with fail
    refine HC.out.mono ?_
    rintro e w1 ⟨rfl, hB1⟩
    go_wp2_with fail
    exact bodyPost_ret (v := .tuple #[.slice none 0 0, .slice none 0 0, .int .i64 70]) (by simp [results, Tryd.results42, go_sem]) rfl ⟨by rw [goE, if_neg (by rw [HW.out]; simp)]; exact .inl ⟨by decide, rfl⟩, bt KB hB1⟩
  | true =>
    have HC := Lib.hid (watchR_v h xs _ _ (HUX.out _ KB) true (Lib.hid hw))
    have HW := Lib.hid hw
    have h4 : xs.length ≤ 4 := (watchB_iff.1 hw).2.1
    clear hw
    go_enter Tryd.func42, Tryd.ntmps42
    go_wp2_with fail
    refine HC.out.mono ?_
    rintro e w1 ⟨rfl, hB1⟩
    have K1 : Free.Bel (w.alloc (.cells #[.int .i64 h, .slice p xs.length cp] 24)) w1 := hB1
    have KW1 : Hid (Free.Bel w w1) := bt KB K1
    clear hB1 KE HC
    go_wp2_with fail
    refine (longest_any h xs _ w1 (HUX.out _ KW1.out) HNZ.out HW.out).mono ?_
    rintro e w2 ⟨⟨vO, O, rfl, hLT, hDO⟩, hB2⟩
    have HLT := Lib.hid hLT
    obtain ⟨cn, val, hcn, hcl, hcv, hli⟩ := hLT.read (st_self HW.out)
    obtain ⟨gO, cO, rfl, hoc⟩ := hDO.at_ hcv
    have HDO := Lib.hid hDO
    have K2 : Free.Bel (w.alloc (.cells #[.int .i64 h, .slice p xs.length cp] 24)) w2 := bt K1 hB2
    have KW2 : Hid (Free.Bel w w2) := bt KW1.out hB2
    have HCC := Lib.hid (code_v h xs _ w2 (HUX.out _ KW2.out) (OkS.of_st HW.out (st_self HW.out)))
    rw [hcn] at HCC
    have hcl2 : (cn : Int) < (O.length : Int) := by omega
    have hcn0 : ¬ ((cn : Int) < 0) := by omega
    have HLI := Lib.hid hli
    clear hLT hDO hB2 hcn hcv K1 hli
    go_wp2_with fail
    refine HCC.out.mono ?_
    rintro e w3 ⟨rfl, hB3⟩
    have hoc3 := keepsB (show Free.Bel w2 w3 from hB3) hoc
    have K3 : Free.Bel (w.alloc (.cells #[.int .i64 h, .slice p xs.length cp] 24)) w3 := bt K2 hB3
    have KW3 : Hid (Free.Bel w w3) := bt KW2.out hB3
    have HDO3 : Hid (DayR O (.slice (some ⟨gO, 0, none⟩) O.length cO) w3) := HDO.out.stay fun k c f hk => ((show Free.Bel w2 w3 from hB3).block k (lt_of_heap hk)).trans hk
    clear hB3 hoc K2 HDO HCC
    cases he : everB h xs with
    | false =>
      have hval : (val != 1000000) = true := by have h9 := HLI.out.ever.2; rw [he] at h9; simpa [bne] using h9
      have HE := Lib.hid he
      clear he
      go_wp2_with fail
      exact bodyPost_ret (v := .tuple #[.slice none 0 0, .slice none 0 0, .int .i64 8]) (by simp [results, Tryd.results42, go_sem]) rfl ⟨by rw [goE, if_pos HW.out, if_neg (by rw [HE.out]; simp)]; exact .inl ⟨by decide, rfl⟩, KW3.out⟩
    | true =>
      have hval : val = 1000000 := by have h9 := HLI.out.ever.2; rw [he] at h9; simpa using h9
      subst hval
      have HE := Lib.hid he
      clear he

      have hgo : Hid (goE h xs = 0) := by show _ = _; rw [goE, if_pos HW.out, if_pos HE.out]
      have hpb := prodE_small7 (xs := xs) (fun x hx => by have := watchB_ok HW.out x hx; unfold okR at this; omega) h4
      have hOl : O.length ≤ 1296 := by rw [HLT.out.1]; omega
      have HI0 : Hid (DWI w h xs (.slice p xs.length cp) O (.slice (some ⟨gO, 0, none⟩) O.length cO) xs (.slice p xs.length cp) w3) := ⟨KW3.out, (K3.block _ (by simp)).trans HM0.out, .inl ⟨rfl, rfl⟩, HDO3.out⟩
      obtain ⟨i1, hi1, hy0, hy1, hy2⟩ := info_parts T.infoSl
      have HY := Lib.hid (And.intro hi1 (And.intro hy0 (And.intro hy1 hy2)))
      clear hi1 hy0 hy1 hy2
      have hgO3 : gO < w3.heap.size := lt_of_cell hoc3
      have hmk := run_make_row' (P := Tryd.prog) 58 3 (.int .i64 0) 8 Tryd.underlying58 T.infoInt rfl .i64 .i64 O.length (by omega) (by omega)
      go_wp2_with fail
      have hw4 : Free.Bel w3 (w3.alloc (.cells (madeCells #[.int .i64 0] O.length) 3)) ∧ (w3.alloc (.cells (madeCells #[.int .i64 0] O.length) 3)).rowIs w3.heap.size 3 O.length (fun _ => .int .i64 0) := ⟨belAlloc _ _, World.rowIs_made w3 _ _ _⟩
      have HW4 := Lib.hid hw4
      have hsw3 : w.heap.size < w3.heap.size := lt_of_heap HI0.out.bx
      clear K3 hoc3 HDO3 FA hmk hw4
      obtain ⟨sb, hsb⟩ : ∃ x, w3.heap.size = x := ⟨_, rfl⟩
      rw [hsb] at hgO3 hsw3 HW4 ⊢
      have hgs : gO ≠ sb := by omega
      clear hsb
      generalize w3.alloc (.cells (madeCells #[.int .i64 0] O.length) 3) = w4 at *
      go_loopw [7] (fun ov wr => ∃ (m : Nat) (v : Value) (SV : Nat → Int), DWI w h xs (.slice p xs.length cp) O (.slice (some ⟨gO, 0, none⟩) O.length cO) (planS h xs m) v wr ∧ DOB (sb + 1) (sb + 1) (planL h xs m) ov wr ∧ wr.rowIs sb 3 O.length (fun j => .int .i64 (SV j)) ∧ SeenI h xs m SV) (fun ov _ => 1298 - lenV ov)
      case atStart => exact ⟨0, _, fun _ => 0, HI0.out.on HW4.out.1, DOB.nil _ _ _, HW4.out.2, SeenI.start h xs⟩
      case round =>
        obtain ⟨m, v, SV, hI, hdo, hrow, hSI⟩ := hrel
        have hPS : ∀ n, StOf xs (planS h xs n) := fun n => (planS_ever (st_self HW.out) HE.out n).1
        have hml : (m : Int) ≤ 1296 := Int.le_trans (plan_bound HW.out HE.out hSI.dis) hpb.2
        have hst := hPS m
        have hrl := hI.rl HUX.out
        obtain ⟨pv, cv, rfl, _, _⟩ := hrl
        obtain ⟨cm, hcm⟩ : ∃ n : Nat, codeR (planS h xs m) = (n : Int) := ⟨(codeR (planS h xs m)).toNat, by have := (code_lt hst).1; omega⟩
        have hcml : cm < O.length := by have h9 := (code_lt hst).2; rw [hcm] at h9; rw [HLT.out.1]; omega
        have hcml2 : (cm : Int) < (O.length : Int) := by omega
        have hcm0 : ¬ ((cm : Int) < 0) := by omega
        have HCMF : Hid (∀ W, Free.Bel wr W → Calls Tryd.prog 77 #[.agg #[.int .i64 h, .slice pv (planS h xs m).length cv]] W fun e W' => e = .returned (.int .i64 (cm : Int)) ∧ Below W.heap.size W W') := fun W hW => by
          have h9 := code_v h (planS h xs m) _ W ((hI.on hW).rl HUX.out) (OkS.of_st HW.out hst)
          rw [hcm] at h9
          exact h9
        have FB : ∀ W, Free.Bel wr W → W.cell? ⟨w.heap.size, 0, none⟩ = some (.int .i64 h) ∧ W.cell? ⟨w.heap.size, 1, none⟩ = some (.slice pv (planS h xs m).length cv) ∧ W.cell? ⟨sb, cm, none⟩ = some (.int .i64 (SV cm)) ∧ W.frozen? ⟨sb, cm, none⟩ = false := fun W hW => ⟨cell_of_heap (o := 0) (hI.on hW).bx rfl, cell_of_heap (o := 1) (hI.on hW).bx rfl, (rowIs_bel hrow hW).cell hcml, (rowIs_bel hrow hW).frozen cm⟩
        have HI := Lib.hid hI
        have HRWZ := Lib.hid hrow
        have HSI := Lib.hid hSI
        have hLl := planL_length h xs m
        have HDO := Lib.hid hdo
        obtain ⟨vs, hvl, hvo, hvr⟩ := hdo
        obtain ⟨qo, co, rfl⟩ := row_slice hvo
        have HCMN := Lib.hid hcm
        have HPS := Lib.hid hPS
        have hcap := row_cap hvo
        have HST := Lib.hid hst
        obtain ⟨ys, hys⟩ : ∃ y, planS h xs m = y := ⟨_, rfl⟩
        obtain ⟨L, hL⟩ : ∃ y, planL h xs m = y := ⟨_, rfl⟩
        rw [hys] at HI HCMF FB HST
        rw [hL] at HDO hLl hcap hvo
        try simp only [hys]
        try simp only [hL]
        have HYS := Lib.hid hys
        have HLL := Lib.hid hL
        have hLml : Hid (L.length = m ∧ m ≤ 1296) := ⟨hLl, by omega⟩
        have HVO := Lib.hid hvo
        clear hI hrow hSI hvl hvo hvr hcm hPS hst hys hL hLl
        obtain ⟨g0, g1, g2, g3⟩ := FB _ (Free.Bel.refl _)
        go_wp2_with fail
        refine (HCMF.out wr (Free.Bel.refl _)).mono ?_
        rintro e w5 ⟨rfl, hB5⟩
        have K5 : Free.Bel wr w5 := hB5
        clear g0 g1 g2 g3 hB5
        obtain ⟨g0, g1, g2, g3⟩ := FB _ K5
        by_cases hz0 : SV cm = 0
        · rw [hz0] at g2
          have HZ0 := Lib.hid hz0
          have hLw : IntKind.i64.wrap ((L.length : Int) + 1) = (L.length : Int) + 1 := IntWalk.i64_in _ (by have := hLml.out; omega)
          go_wp2_with fail
          refine (HCMF.out w5 K5).mono ?_
          rintro e w6 ⟨rfl, hB6⟩
          have K6 : Free.Bel wr w6 := bt K5 hB6
          have HK6 := Lib.hid K6
          clear g0 g1 g2 g3 hB6 K5
          obtain ⟨g0, g1, g2, g3⟩ := FB _ K6
          go_upto_region 10 with fail
          clear hz0
          have hrow6 := rowIs_bel HRWZ.out HK6.out
          obtain ⟨cs6, hcs6, _⟩ := hrow6
          have hIy := ((HI.out.on HK6.out).seen (o := cm) (x := .int .i64 ((L.length : Int) + 1)) hcs6 hsw3 hgs)
          have hdoy := (HDO.out.bel HK6.out).below (sb := sb) (o := cm) (x := .int .i64 ((L.length : Int) + 1)) (by omega) (by omega)
          have hrowy : (w6.setCell ⟨sb, cm, none⟩ (.int .i64 ((L.length : Int) + 1))).rowIs sb 3 O.length (fun j => .int .i64 (if j = cm then (m : Int) + 1 else SV j)) := ((rowIs_bel HRWZ.out HK6.out).set cm _).congr fun j _ => by
            by_cases e : j = cm
            · simp [e, hLml.out.1]
            · simp [e]
          have hsby := hrowy.lt
          clear g0 g1 g2 g3 FB HI HRWZ HDO HK6 K6 HVO hcs6
          generalize w6.setCell ⟨sb, cm, none⟩ (.int .i64 ((L.length : Int) + 1)) = wy at *
          have HROW := Lib.hid hrowy
          have HSI1 := Lib.hid (HSI.out.next HCMN.out HZ0.out)
          have HL1 := Lib.hid (planL_succ h xs m)
          have HS1 : Hid (planS h xs (m + 1) = dayR (stepE h (planS h xs m)) (planS h xs m)) := rfl
          have hes := (planS_ever (st_self HW.out) HE.out m).2
          have hfd := (ever_step hes).1
          have hst := HST.out
          obtain ⟨d, hd⟩ : ∃ y, stepE h (planS h xs m) = y := ⟨_, rfl⟩
          rw [hd] at hfd HL1 HS1
          rw [HYS.out] at hfd HS1
          rw [HLL.out] at HL1
          have hI := hIy
          have hdo := hdoy
          have hLl : L.length ≤ 1000000 := by have := hLml.out; omega
          clear hes hd hIy hdoy hrowy HSI HCMN HZ0
          have b0 : wy.cell? ⟨w.heap.size, 0, none⟩ = some (.int .i64 h) := cell_of_heap (o := 0) hI.bx rfl
          have b1 : wy.cell? ⟨w.heap.size, 1, none⟩ = some (.slice pv ys.length cv) := cell_of_heap (o := 1) hI.bx rfl
          obtain ⟨vs, hvl, hvo, hvr⟩ := hdo
          have hsw : w.heap.size < wy.heap.size := lt_of_heap hI.bx
          have HI := Lib.hid hI
          have HVO := Lib.hid (And.intro hvl (And.intro hvo hvr))
          have HFC := Lib.hid (firstR_any h xs ys O 1000000 d (everB h) _ _ wy (hI.rl HUX.out) (hI.nz HNZ.out) hI.ro.il HW.out hst HLT.out.1 (HLT.out.ever_q) (hfd))
          have hLm : L.length ≤ 1000000 := by exact hLl
          clear hI hvl hvo hvr hst hfd
          go_wp2_with fail
          refine HFC.out.mono ?_
          rintro e w6 ⟨⟨v1, v2, rfl, hd1, ho2⟩, hB6⟩
          have HD1 := Lib.hid hd1
          obtain ⟨q1, c1, rfl⟩ := row_slice hd1
          obtain ⟨q2, c2, rfl⟩ := row_slice ho2
          have HO2 := Lib.hid ho2
          have K6 : Free.Bel wy w6 := hB6
          have K7 : Free.Bel wy (w6.alloc (.cells #[.int .i64 h, .slice q2 ys.length c2] 24)) := bt K6 (belAlloc _ _)
          have K8 : Free.Bel wy ((w6.alloc (.cells #[.int .i64 h, .slice q2 ys.length c2] 24)).alloc (.cells #[.slice q1 d.length c1] 58)) := bt K7 (belAlloc _ _)
          have HK8 := Lib.hid K8
          have hg6 : wy.heap.size ≤ w6.heap.size := hB6.size
          have hvo8 := bel_row HVO.out.2.1 K8
          clear hd1 ho2 hB6 K6 K7 b0 b1 HFC
          go_wp2_with (first | (at_builtin; go_loud (refine wpList_append_own _ rfl _ _ 25 rfl (sb + 1) 58 i1 (.slice none 0 0) 1 24 Tryd.underlying25 HY.out.1 HY.out.2.1 HY.out.2.2.1 HY.out.2.2.2 rfl (by decide) _ _ _ rfl hvo8 ⟨w6.heap.size + 1, 0, none⟩ 1 1 [.slice q1 d.length c1] rfl rfl (by have := cell_one_new (w6.alloc (.cells #[.int .i64 h, .slice q2 ys.length c2] 24)) (.slice q1 d.length c1) 58; simpa using this) (fun x hx => by simp at hx; subst hx; rfl) (by unfold maxLen; omega) (by omega) (by simp; omega) ?_); intro v9 w9 hown9 hgrow8 hnil9; go_loud (have hgrow9 : World.grownBy ((w6.alloc (.cells #[.int .i64 h, .slice q2 ys.length c2] 24)).alloc (.cells #[.slice q1 d.length c1] 58)) w9 (Value.slice qo L.length co).ownBlock := hgrow8; clear hgrow8; have HG9 := Lib.hid (And.intro hown9 hgrow9); have hx10 : ((w6.alloc (.cells #[.int .i64 h, .slice q2 ys.length c2] 24)).alloc (.cells #[.slice q1 d.length c1] 58)).heap[w6.heap.size]? = some (.cells #[.int .i64 h, .slice q2 ys.length c2] 24 (0, 0)) := heap_old (World.alloc_heap_new _ _); have hx9 := heap_grown hx10 hgrow9 (fun e9 => by have h7 := (HVO.out.2.1.lt w6.heap.size (by simpa using e9.symm)).2; omega); have HI9 := Lib.hid ((HI.out.on K8).go (TK.grown hvo8 hgrow9) ((grown_belR hvo8 hgrow9 (by simp; omega)).mono (by omega))); have z0 : w9.cell? ⟨w6.heap.size, 0, none⟩ = some (.int .i64 h) := cell_of_heap (o := 0) hx9 rfl; have z1 : w9.cell? ⟨w6.heap.size, 1, none⟩ = some (.slice q2 ys.length c2) := cell_of_heap (o := 1) hx9 rfl; have y2 : w9.cell? ⟨w.heap.size, 0, none⟩ = some (.int .i64 h) := cell_of_heap (o := 0) HI9.out.bx rfl; have y3 : w9.cell? ⟨w.heap.size, 1, none⟩ = some (.slice pv ys.length cv) := cell_of_heap (o := 1) HI9.out.bx rfl; have y4 : w9.frozen? ⟨w.heap.size, 0, none⟩ = false := frozen_of_heap (o := 0) HI9.out.bx; have y5 : w9.frozen? ⟨w.heap.size, 1, none⟩ = false := frozen_of_heap (o := 1) HI9.out.bx; obtain ⟨q9, c9, rfl⟩ := row_slice hown9; clear hown9 hgrow9 hnil9 hx10 hx9)) | fail)
          go_roundw
          case rel =>
            have hst8 : ∀ (k : Nat) c e f, wy.heap[k]? = some (.cells c e f) → ((w6.alloc (.cells #[.int .i64 h, .slice q2 ys.length c2] 24)).alloc (.cells #[.slice q1 d.length c1] 58)).heap[k]? = some (.cells c e f) := fun k c e f hk => (HK8.out.block k (lt_of_heap hk)).trans hk
            have hd8 : DayB (sb + 1) d (.slice q1 d.length c1) ((w6.alloc (.cells #[.int .i64 h, .slice q2 ys.length c2] 24)).alloc (.cells #[.slice q1 d.length c1] 58)) := (HD1.out.mono (by omega)).stay fun k c f hk => heap_old (heap_old hk)
            have hdo9 := DOB.snoc (d := d) HVO.out.1 hvo8 (fun i hi u hu => (HVO.out.2.2 i hi u hu).stay fun k c f hk => hst8 k c _ f hk) hd8 HG9.out.2 HG9.out.1
            have hwt : ∀ {W : World} {c : Array Value} {o : Nat} {x : Value} (_ : W.heap[w.heap.size]? = some (.cells c 24 (0, 0))) (_ : DOB (sb + 1) (sb + 1) (L ++ [d]) (.slice q9 (L.length + 1) c9) W), DOB (sb + 1) (sb + 1) (L ++ [d]) (.slice q9 (L.length + 1) c9) (W.setCell ⟨w.heap.size, o, none⟩ x) := fun {W c o x} hb hd => hd.stay (fun k c' f hk => heap_other hk (by rintro rfl; rw [hb] at hk; cases hk)) fun k c' f hk => heap_other hk (by rintro rfl; rw [hb] at hk; cases hk)
            have hdz := hwt (o := 1) (x := .slice q2 ys.length c2) (heap_setCell_same (o := 0) (.int .i64 h) HI9.out.bx) (hwt (o := 0) (x := .int .i64 h) HI9.out.bx hdo9)
            have ho9 := (TK.grown hvo8 HG9.out.2).ricks (bel_row (bel_row HO2.out (belAlloc _ _)) (belAlloc _ (.cells #[.slice q1 d.length c1] 58)))
            have hlen : (dayR d ys).length = ys.length := by simp [dayR]
            have hset := HI9.out.set (zs' := dayR d ys) (v' := .slice q2 ys.length c2) (by rw [hlen]; exact ho9)
            have hTKf : TK wy ((w9.setCell ⟨w.heap.size, 0, none⟩ (.int .i64 h)).setCell ⟨w.heap.size, 1, none⟩ (.slice q2 ys.length c2)) := ((TK.of_bel HK8.out).trans (TK.grown hvo8 HG9.out.2)).trans ((TK.set HI9.out.bx).trans (TK.set (heap_setCell_same (o := 0) (.int .i64 h) HI9.out.bx)))
            exact ⟨m + 1, .slice q2 ys.length c2, _, by rw [HS1.out]; exact hset, by rw [HL1.out]; simpa using hdz, hTKf.rowIs HROW.out, HSI1.out⟩
          case measure => have h9 := hLml.out; simp [lenV]; omega
        · obtain ⟨i, hsi, hri⟩ := HSI.out.last HPS.out HCMN.out hz0
          have him : i < L.length := by rw [hLml.out.1]; exact hri.1
          have HRI := Lib.hid hri
          have hne0 : ((i : Int) + 1 == 0) = false := by simp; omega
          have hne1 : ¬ ((i : Int) + 1 = 0) := by omega
          have hne2 : decide ((i : Int) + 1 = 0) = false := decide_eq_false hne1
          have hiw : IntKind.i64.wrap (i : Int) = (i : Int) := IntWalk.i64_in _ (by have := hLml.out; omega)
          rw [hsi] at g2
          have HK5 := Lib.hid K5
          go_wp2_with fail
          refine (HCMF.out w5 K5).mono ?_
          rintro e w6 ⟨rfl, hB6⟩
          have K6 : Free.Bel wr w6 := bt K5 hB6
          have HK6 := Lib.hid K6
          clear g0 g1 g2 g3 hB6 K5
          obtain ⟨g0, g1, g2, g3⟩ := FB _ K6
          rw [hsi] at g2
          obtain ⟨g8, rfl⟩ : ∃ g, qo = some ⟨g, 0, none⟩ := by
            rcases HVO.out.2 with ⟨h9, h8⟩ | ⟨g, cap, cur, h9, _⟩
            · omega
            · cases h9; exact ⟨g, rfl⟩
          have hs1 := headD (some ⟨g8, 0, none⟩) L.length co i (by omega)
          have hs2 := restD (some ⟨g8, 0, none⟩) L.length co i (by omega)
          clear HCMF
          go_upto_region 14 with fail
          clear g0 g1 g2 g3 FB hsi K6 hz0
          go_region
          go_wp2_with fail
          have hdz := (HDO.out.bel HK6.out).dzs rfl him hcap
          exact bodyPost_ret (v := .tuple #[.slice (some ⟨g8, 0, none⟩) i co, .slice (tailD (some ⟨g8, 0, none⟩) co i) (L.length - i) (co - i), .int .i64 0]) (by simp [results, Tryd.results42, go_sem]) rfl ⟨by rw [hgo.out]; exact .inr ⟨rfl, i, m, _, _, HRI.out, rfl, by rw [show planL h xs i = (planL h xs m).take i by have h7 := planL_add h xs i (m - i); rw [show i + (m - i) = m by have := HRI.out.1; omega] at h7; rw [h7, List.take_left' (planL_length h xs i)], HLL.out]; exact hdz.1, by rw [HLL.out]; exact hdz.2⟩, ((HI.out.on HK6.out).bel).drew⟩
end Go.Proofs.YtknpglgpkkhhiaaDoor

/- The reference's Fewest and Moistest. -/
namespace Go.Proofs.YtknpglgpkkhhiaaDoor
set_option linter.unusedSimpArgs false
set_option linter.unusedVariables false
open Go.RowKit Go.Proofs.YtknpglgpkkhhiaaDoor.Free2 Go.Proofs.YtknpglgpkkhhiaaDoor.ML RR

set_option maxRecDepth 100000 in
set_option maxHeartbeats 8000000 in
theorem fewR_any (h : Int) (xs : List Rk) (u : Value) (w : World) (hu : RL xs u w) (hz : NZ u) :
    Calls Tryd.prog 50 #[.agg #[.int .i64 h, u]] w fun e w' => FewPost h xs e ∧ Below w.heap.size w w' := by
  have HUX := Lib.hid (fun (W : World) (hW : Below w.heap.size w W) => hu.keeps hW)
  have HNZ := Lib.hid hz
  obtain ⟨p, cp, rfl, hm, hp⟩ := hu
  have HP := Lib.hid hp
  have KB : Free.Bel w (w.alloc (.cells #[.int .i64 h, .slice p xs.length cp] 24)) := belAlloc _ _
  have FA : ∀ W, Free.Bel (w.alloc (.cells #[.int .i64 h, .slice p xs.length cp] 24)) W → W.cell? ⟨w.heap.size, 0, none⟩ = some (.int .i64 h) ∧ W.cell? ⟨w.heap.size, 1, none⟩ = some (.slice p xs.length cp) := fun W hW => ⟨keepsB hW (by simp [go_sem]), keepsB hW (by simp [go_sem])⟩
  have KE : Free.Bel (w.alloc (.cells #[.int .i64 h, .slice p xs.length cp] 24)) (w.alloc (.cells #[.int .i64 h, .slice p xs.length cp] 24)) := Free.Bel.refl _
  have m0 : (w.alloc (.cells #[.int .i64 h, .slice p xs.length cp] 24)).heap[w.heap.size]? = some (.cells #[.int .i64 h, .slice p xs.length cp] 24 (0, 0)) := World.alloc_heap_new w _
  have HM0 := Lib.hid m0
  clear hz hm hp m0
  cases hw : watchB h xs with
  | false =>
    have HC := Lib.hid (watchR_v h xs _ _ (HUX.out _ KB) false (Lib.hid hw))
    have HW := Lib.hid hw
    clear hw
    go_enter Tryd.func50, Tryd.ntmps50
    go_wp2_with fail
    refine HC.out.mono ?_
    rintro e w1 ⟨rfl, hB1⟩
    go_wp2_with fail
    exact bodyPost_ret (v := .tuple #[.int .i64 0, .int .i64 70]) (by simp [results, Tryd.results50, go_sem]) rfl ⟨.inl ⟨HW.out, rfl⟩, bt KB hB1⟩
  | true =>
    have HC := Lib.hid (watchR_v h xs _ _ (HUX.out _ KB) true (Lib.hid hw))
    have HW := Lib.hid hw
    have h4 : xs.length ≤ 4 := (watchB_iff.1 hw).2.1
    clear hw
    go_enter Tryd.func50, Tryd.ntmps50
    go_wp2_with fail
    refine HC.out.mono ?_
    rintro e w1 ⟨rfl, hB1⟩
    have K1 : Free.Bel (w.alloc (.cells #[.int .i64 h, .slice p xs.length cp] 24)) w1 := hB1
    have KW1 : Hid (Free.Bel w w1) := bt KB K1
    clear hB1 KE HC
    have HM1 := Lib.hid ((K1.block _ (by simp)).trans HM0.out)
    go_wp2_with fail
    clear FA K1
    go_loopw [4] (fun i wr => ∃ (k : Nat) (a : Int), k ≤ 4 ∧ i = .int .i64 k ∧ Below w.heap.size w wr ∧ wr.heap[w.heap.size]? = some (.cells #[.int .i64 a, .slice p xs.length cp] 24 (0, 0)) ∧ ∀ j : Int, 0 ≤ j → j < k → everB j xs = false) (fun i _ => 5 - (intOf i).toNat)
    case atStart => exact ⟨0, h, by omega, rfl, KW1.out, HM1.out, fun j h0 h1 => absurd h1 (by omega)⟩
    case round =>
      obtain ⟨k, a, hk, rfl, hB, hbx, hno⟩ := hrel
      by_cases hk3 : k ≤ 3
      · have hk3i : (k : Int) ≤ 3 := by omega
        have hkw : IntKind.i64.wrap ((k : Int) + 1) = (k : Int) + 1 := IntWalk.i64_in _ (by omega)
        have hb2 := heap_setCell_same (o := 0) (.int .i64 (k : Int)) hbx
        have hb3 : (wr.setCell ⟨w.heap.size, 0, none⟩ (.int .i64 (k : Int))).heap[w.heap.size]? = some (.cells #[.int .i64 (k : Int), .slice p xs.length cp] 24 (0, 0)) := by simpa using hb2
        have s0 : (wr.setCell ⟨w.heap.size, 0, none⟩ (.int .i64 (k : Int))).cell? ⟨w.heap.size, 0, none⟩ = some (.int .i64 (k : Int)) := cell_of_heap (o := 0) hb3 rfl
        have s1 : (wr.setCell ⟨w.heap.size, 0, none⟩ (.int .i64 (k : Int))).cell? ⟨w.heap.size, 1, none⟩ = some (.slice p xs.length cp) := cell_of_heap (o := 1) hb3 rfl
        have q0 : wr.cell? ⟨w.heap.size, 0, none⟩ = some (.int .i64 a) := cell_of_heap (o := 0) hbx rfl
        have f0 : wr.frozen? ⟨w.heap.size, 0, none⟩ = false := frozen_of_heap (o := 0) hbx
        have hBs : Below w.heap.size w (wr.setCell ⟨w.heap.size, 0, none⟩ (.int .i64 (k : Int))) := hB.setCell (by simp) _
        have HLG := Lib.hid (longR_any (k : Int) xs _ _ (HUX.out _ hBs) HNZ.out (watch_hands HW.out (by omega) hk3i))
        have HBS := Lib.hid (And.intro hBs hb3)
        have HNO := Lib.hid hno
        clear hB hbx hb2 hb3 hBs hno
        go_wp2_with fail
        refine HLG.out.mono ?_
        rintro e w5 ⟨⟨v, rfl, hv⟩, hB5⟩
        have hve := hv.ever.2
        have hb5 := (show Free.Bel _ w5 from hB5).block _ (lt_of_heap HBS.out.2) |>.trans HBS.out.2
        have HF := Lib.hid (And.intro (HBS.out.1.trans (hB5.mono (by simpa using Nat.le_of_lt (by have := lt_of_heap HBS.out.2; simpa using this)))) hb5)
        clear s0 s1 q0 f0 HLG hB5 hb5 hv
        obtain ⟨ev, hee⟩ : ∃ y, everB (k : Int) xs = y := ⟨_, rfl⟩
        rw [hee] at hve
        have HEE := Lib.hid hee
        clear hee
        cases ev with
        | true =>
          go_wp2_with fail
          exact bodyPost_ret (v := .tuple #[.int .i64 k, .int .i64 0]) (by simp [results, Tryd.results50, go_sem]) rfl ⟨.inr ⟨HW.out, (k : Int), 0, .inr ⟨rfl, by omega, hk3i, HEE.out, HNO.out⟩, rfl⟩, HF.out.1⟩
        | false =>
          go_wp2_with fail
          go_roundw
          case rel => exact ⟨k + 1, k, by omega, by go_num, HF.out.1, HF.out.2, fun j h0 h1 => by
            by_cases e : j = (k : Int)
            · rw [e]; exact HEE.out
            · exact HNO.out j h0 (by omega)⟩
          case measure => simp [intOf]; omega
      · have hk3i : ¬ (k : Int) ≤ 3 := by omega
        have HNO := Lib.hid (And.intro hB hno)
        clear hB hno hbx
        go_wp2_with fail
        exact bodyPost_ret (v := .tuple #[.int .i64 0, .int .i64 8]) (by simp [results, Tryd.results50, go_sem]) rfl ⟨.inr ⟨HW.out, 0, 8, .inl ⟨rfl, rfl, fun j h0 h1 => HNO.out.2 j h0 (by omega)⟩, rfl⟩, HNO.out.1⟩
set_option maxRecDepth 100000 in
set_option maxHeartbeats 16000000 in
theorem moistR_any (h : Int) (xs : List Rk) (id : Int) (u : Value) (w : World) (hu : RL xs u w) (hz : NZ u) (r : Int) (hr : Hid (RickIs xs id r)) :
    Calls Tryd.prog 52 #[.agg #[.int .i64 h, u], .int .i64 id] w fun e w' => MoPost h xs r e ∧ Below w.heap.size w w' := by
  have HUX := Lib.hid (fun (W : World) (hW : Below w.heap.size w W) => hu.keeps hW)
  have HNZ := Lib.hid hz
  obtain ⟨p, cp, rfl, hm, hp⟩ := hu
  have HP := Lib.hid hp
  have KB : Free.Bel w (w.alloc (.cells #[.int .i64 h, .slice p xs.length cp] 24)) := belAlloc _ _
  have FA : ∀ W, Free.Bel (w.alloc (.cells #[.int .i64 h, .slice p xs.length cp] 24)) W → W.cell? ⟨w.heap.size, 0, none⟩ = some (.int .i64 h) ∧ W.cell? ⟨w.heap.size, 1, none⟩ = some (.slice p xs.length cp) := fun W hW => ⟨keepsB hW (by simp [go_sem]), keepsB hW (by simp [go_sem])⟩
  have KE : Free.Bel (w.alloc (.cells #[.int .i64 h, .slice p xs.length cp] 24)) (w.alloc (.cells #[.int .i64 h, .slice p xs.length cp] 24)) := Free.Bel.refl _
  have m0 : (w.alloc (.cells #[.int .i64 h, .slice p xs.length cp] 24)).heap[w.heap.size]? = some (.cells #[.int .i64 h, .slice p xs.length cp] 24 (0, 0)) := World.alloc_heap_new w _
  have HM0 := Lib.hid m0
  clear hz hm hp m0
  cases hw : watchB h xs with
  | false =>
    have HC := Lib.hid (watchR_v h xs _ _ (HUX.out _ KB) false (Lib.hid hw))
    have HW := Lib.hid hw
    clear hw
    go_enter Tryd.func52, Tryd.ntmps52
    go_wp2_with fail
    refine HC.out.mono ?_
    rintro e w1 ⟨rfl, hB1⟩
    go_wp2_with fail
    exact bodyPost_ret (v := .tuple #[.int .i64 0, .int .i64 70]) (by simp [results, Tryd.results52, go_sem]) rfl ⟨.inl ⟨HW.out, rfl⟩, bt KB hB1⟩
  | true =>
    have HC := Lib.hid (watchR_v h xs _ _ (HUX.out _ KB) true (Lib.hid hw))
    have HW := Lib.hid hw
    have h4 : xs.length ≤ 4 := (watchB_iff.1 hw).2.1
    clear hw
    go_enter Tryd.func52, Tryd.ntmps52
    go_wp2_with fail
    refine HC.out.mono ?_
    rintro e w1 ⟨rfl, hB1⟩
    have K1 : Free.Bel (w.alloc (.cells #[.int .i64 h, .slice p xs.length cp] 24)) w1 := hB1
    have KW1 : Hid (Free.Bel w w1) := bt KB K1
    clear hB1 KE HC
    have HRX := Lib.hid (rickR_v h id xs _ w1 (HUX.out _ KW1.out) r hr)
    go_wp2_with fail
    refine HRX.out.mono ?_
    rintro e w2 ⟨rfl, hB2⟩
    have K2 : Free.Bel (w.alloc (.cells #[.int .i64 h, .slice p xs.length cp] 24)) w2 := bt K1 hB2
    have KW2 : Hid (Free.Bel w w2) := bt KW1.out hB2
    clear K1 hB2 HRX
    rcases hr.out with ⟨rfl, _⟩ | ⟨i, hi, rfl, _, _⟩
    · go_wp2_with fail
      exact bodyPost_ret (v := .tuple #[.int .i64 0, .int .i64 6]) (by simp [results, Tryd.results52, go_sem]) rfl ⟨.inr (.inl ⟨HW.out, by decide, rfl⟩), KW2.out⟩
    · have hi0 : ¬ ((i : Int) < 0) := by omega
      have hil : (i : Int) < xs.length := by omega
      have hx : xs ≠ [] := by intro e; simp [e] at hi
      obtain ⟨b9, off, rfl, hcp⟩ := HP.out hx
      have HCP := Lib.hid hcp
      have HTW := Lib.hid (twin_any h xs _ w2 (HUX.out _ KW2.out) HNZ.out (by omega))
      clear hcp hx
      go_wp2_with fail
      refine HTW.out.mono ?_
      rintro e w3 ⟨v3, rfl, ho3, hB3⟩
      obtain ⟨q3, c3, rfl⟩ := row_slice ho3
      obtain ⟨g3, rfl⟩ : ∃ g, q3 = some ⟨g, 0, none⟩ := by
        rcases ho3.2 with ⟨h9, h8⟩ | ⟨g, cap, cur, h9, _⟩
        · omega
        · cases h9; exact ⟨g, rfl⟩
      have K3 := bt K2 (show Free.Bel w2 w3 from hB3)
      have KW3 : Hid (Free.Bel w w3) := bt KW2.out hB3
      have KA : Free.Bel w3 (w3.alloc (.cells #[.int .i64 h, .slice (some ⟨g3, 0, none⟩) xs.length c3] 24)) := belAlloc _ _
      have K4 := bt K3 KA
      have hc2 := keepsB (bt KW3.out KA) (HCP.out i hi).2.2
      have hokw := watchB_ok HW.out xs[i] (List.getElem_mem hi)
      unfold okR at hokw
      have hww : IntKind.i64.wrap (xs[i].2.2 + 1) = xs[i].2.2 + 1 := IntWalk.i64_in _ (by omega)
      have hbx4 : Hid ((w3.alloc (.cells #[.int .i64 h, .slice (some ⟨g3, 0, none⟩) xs.length c3] 24)).heap[w3.heap.size]? = some (.cells #[.int .i64 h, .slice (some ⟨g3, 0, none⟩) xs.length c3] 24 (0, 0))) := World.alloc_heap_new _ _
      have hrow4 : Hid ((w3.alloc (.cells #[.int .i64 h, .slice (some ⟨g3, 0, none⟩) xs.length c3] 24)).ownsRow (w.heap.size + 1) 47 3 (.slice (some ⟨g3, 0, none⟩) xs.length c3) xs.length (cellsR (moistR xs i xs[i].2.1))) := by
        rw [moistR_self xs i hi]
        exact bel_row (row_mono ho3 (by have := K2.size; simp at this; omega)) KA
      have hg3 : g3 < w3.heap.size := (ho3.lt g3 rfl).2
      have hw3s : w.heap.size + 1 ≤ w3.heap.size := by have := K3.size; simp at this; omega
      have HMW : Hid (∀ n : Int, xs[i].2.2 + 1 ≤ n → n ≤ 6 → watchB h (moistR xs i n) = true) := fun n h1 h2 => watch_moist HW.out i hi h1 h2
      have HLO : Hid ((xs.getD i (0, 0, 0)).2.2 = xs[i].2.2) := by show _ = _; rw [List.getD_eq_getElem?_getD, List.getElem?_eq_getElem hi]; rfl
      have HB4 := Lib.hid (show Below w.heap.size w _ from bt KW3.out KA)
      clear hB3 K2 K3 HTW ho3 KA HCP
      obtain ⟨lo, hlo⟩ : ∃ y, xs[i].2.2 = y := ⟨_, rfl⟩
      obtain ⟨ev0, hev0⟩ : ∃ y, xs[i].2.1 = y := ⟨_, rfl⟩
      rw [hlo] at hc2 hokw hww HMW HLO
      rw [hev0] at hrow4 hokw
      clear hlo hev0
      go_wp2_with fail
      obtain ⟨bx, hbx⟩ : ∃ x, w3.heap.size = x := ⟨_, rfl⟩
      rw [hbx] at hbx4 hg3 hw3s ⊢
      clear K4 hc2 FA hbx
      generalize w3.alloc (.cells #[.int .i64 h, .slice (some ⟨g3, 0, none⟩) xs.length c3] 24) = w4 at *
      go_loopw [8] (fun nv wr => ∃ (n a : Int), lo + 1 ≤ n ∧ n ≤ 7 ∧ nv = .int .i64 n ∧ Below w.heap.size w wr ∧ wr.heap[bx]? = some (.cells #[.int .i64 h, .slice (some ⟨g3, 0, none⟩) xs.length c3] 24 (0, 0)) ∧ wr.ownsRow (w.heap.size + 1) 47 3 (.slice (some ⟨g3, 0, none⟩) xs.length c3) xs.length (cellsR (moistR xs i a)) ∧ ∀ j : Int, lo + 1 ≤ j → j < n → everB h (moistR xs i j) = false) (fun nv _ => (8 - intOf nv).toNat)
      case atStart => exact ⟨lo + 1, ev0, by omega, by omega, rfl, HB4.out, hbx4.out, hrow4.out, fun j h1 h2 => absurd h2 (by omega)⟩
      case round =>
        obtain ⟨n, a, hn1, hn7, rfl, hB, hbx, hrow, hno⟩ := hrel
        by_cases hn6 : n ≤ 6
        · have hnw : IntKind.i64.wrap (n + 1) = n + 1 := IntWalk.i64_in _ (by omega)
          have hrow2 := row_moist hrow hi n
          have him : i < (moistR xs i a).length := by rw [moistR_length]; exact hi
          obtain ⟨e1, d1⟩ : ∃ e1 : Int, wr.cell? ⟨g3, i * 3 + 1, none⟩ = some (.int .i64 e1) := ⟨_, (rick_row hrow (moistR_length xs i a) i him).2.1⟩
          have fz : wr.frozen? ⟨g3, i * 3 + 1, none⟩ = false := hrow.frozenAt _
          have hgw : w.heap.size + 1 ≤ g3 := (hrow.lt g3 rfl).1
          have b0 : wr.cell? ⟨bx, 0, none⟩ = some (.int .i64 h) := cell_of_heap (o := 0) hbx rfl
          have b1 : wr.cell? ⟨bx, 1, none⟩ = some (.slice (some ⟨g3, 0, none⟩) xs.length c3) := cell_of_heap (o := 1) hbx rfl
          have hbx2 : (wr.setCell ⟨g3, i * 3 + 1, none⟩ (.int .i64 n)).heap[bx]? = some (.cells #[.int .i64 h, .slice (some ⟨g3, 0, none⟩) xs.length c3] 24 (0, 0)) := heap_other hbx (by simp; omega)
          have s0 : (wr.setCell ⟨g3, i * 3 + 1, none⟩ (.int .i64 n)).cell? ⟨bx, 0, none⟩ = some (.int .i64 h) := cell_of_heap (o := 0) hbx2 rfl
          have s1 : (wr.setCell ⟨g3, i * 3 + 1, none⟩ (.int .i64 n)).cell? ⟨bx, 1, none⟩ = some (.slice (some ⟨g3, 0, none⟩) xs.length c3) := cell_of_heap (o := 1) hbx2 rfl
          have hBs : Below w.heap.size w (wr.setCell ⟨g3, i * 3 + 1, none⟩ (.int .i64 n)) := hB.setCell (by simp; omega) _
          have HLG := Lib.hid (longR_any h (moistR xs i n) _ _ (RL.of_row (moistR_length xs i n) (by unfold maxLen; omega) hrow2) (NZ.row hrow2) (HMW.out n hn1 hn6))
          have HBS := Lib.hid (And.intro hBs (And.intro hbx2 hrow2))
          have HNO := Lib.hid hno
          clear hB hbx hbx2 hrow hrow2 hBs hno him
          go_wp2_with fail
          refine HLG.out.mono ?_
          rintro e w5 ⟨⟨v, rfl, hv⟩, hB5⟩
          have hve := hv.ever.2
          have K5 : Free.Bel (wr.setCell ⟨g3, i * 3 + 1, none⟩ (.int .i64 n)) w5 := hB5
          have HF := Lib.hid (And.intro (HBS.out.1.trans (K5.mono HBS.out.1.size)) (And.intro ((K5.block _ (lt_of_heap HBS.out.2.1)).trans HBS.out.2.1) (bel_row HBS.out.2.2 K5)))
          clear s0 s1 b0 b1 d1 fz HLG hB5 K5 hv HBS
          obtain ⟨ev, hee⟩ : ∃ y, everB h (moistR xs i n) = y := ⟨_, rfl⟩
          rw [hee] at hve
          have HEE := Lib.hid hee
          clear hee
          cases ev with
          | true =>
            go_wp2_with fail
            exact bodyPost_ret (v := .tuple #[.int .i64 n, .int .i64 0]) (by simp [results, Tryd.results52, go_sem]) rfl ⟨.inr (.inr ⟨HW.out, by omega, n, 0, .inr ⟨rfl, by rw [Int.toNat_natCast, HLO.out]; exact hn1, hn6, HEE.out, fun j h1 h2 => HNO.out j (by rw [Int.toNat_natCast, HLO.out] at h1; exact h1) h2⟩, rfl⟩), HF.out.1⟩
          | false =>
            go_wp2_with fail
            go_roundw
            case rel => exact ⟨n + 1, n, by omega, by omega, rfl, HF.out.1, HF.out.2.1, HF.out.2.2, fun j h1 h2 => by
              by_cases e : j = n
              · rw [e]; exact HEE.out
              · exact HNO.out j h1 (by omega)⟩
            case measure => simp [intOf]; omega
        · have HNO := Lib.hid (And.intro hB hno)
          clear hB hno hbx hrow
          go_wp2_with fail
          exact bodyPost_ret (v := .tuple #[.int .i64 0, .int .i64 8]) (by simp [results, Tryd.results52, go_sem]) rfl ⟨.inr (.inr ⟨HW.out, by omega, 0, 8, .inl ⟨rfl, rfl, fun j h1 h2 => HNO.out.2 j (by rw [Int.toNat_natCast, HLO.out] at h1; exact h1) (by omega)⟩, rfl⟩), HNO.out.1⟩
end Go.Proofs.YtknpglgpkkhhiaaDoor

/- The reference's Share. -/
namespace Go.Proofs.YtknpglgpkkhhiaaDoor
set_option linter.unusedSimpArgs false
set_option linter.unusedVariables false
open Go.RowKit Go.Proofs.YtknpglgpkkhhiaaDoor.Free2 Go.Proofs.YtknpglgpkkhhiaaDoor.ML RR

set_option maxRecDepth 100000 in
set_option maxHeartbeats 8000000 in
theorem shareR_any (h : Int) (xs : List Rk) (u : Value) (w : World) (hu : RL xs u w) :
    Calls Tryd.prog 31 #[.agg #[.int .i64 h, u]] w fun e w' => ShPost h xs e ∧ Below w.heap.size w w' := by
  have HU := Lib.hid hu
  obtain ⟨p, cp, rfl, hm, hp⟩ := hu
  have HP := Lib.hid hp
  have KB : Free.Bel w ((w.alloc (.cells #[.int .i64 h, .slice p xs.length cp] 24)).alloc (.cells #[.int .i64 0, .int .i64 0] 51)) := bt (belAlloc _ _) (belAlloc _ _)
  have m0 : ((w.alloc (.cells #[.int .i64 h, .slice p xs.length cp] 24)).alloc (.cells #[.int .i64 0, .int .i64 0] 51)).heap[w.heap.size]? = some (.cells #[.int .i64 h, .slice p xs.length cp] 24 (0, 0)) := heap_old (World.alloc_heap_new w _)
  have m1 : ((w.alloc (.cells #[.int .i64 h, .slice p xs.length cp] 24)).alloc (.cells #[.int .i64 0, .int .i64 0] 51)).heap[w.heap.size + 1]? = some (.cells #[.int .i64 0, .int .i64 0] 51 (0, 0)) := by
    have := World.alloc_heap_new (w.alloc (.cells #[.int .i64 h, .slice p xs.length cp] 24)) (.cells #[.int .i64 0, .int .i64 0] 51)
    simpa using this
  have FA : ∀ W, Free.Bel ((w.alloc (.cells #[.int .i64 h, .slice p xs.length cp] 24)).alloc (.cells #[.int .i64 0, .int .i64 0] 51)) W → W.cell? ⟨w.heap.size, 0, none⟩ = some (.int .i64 h) ∧ W.cell? ⟨w.heap.size, 1, none⟩ = some (.slice p xs.length cp) := fun W hW => ⟨keepsB hW (cell_of_heap m0 rfl), keepsB hW (cell_of_heap m0 rfl)⟩
  have KE : Free.Bel ((w.alloc (.cells #[.int .i64 h, .slice p xs.length cp] 24)).alloc (.cells #[.int .i64 0, .int .i64 0] 51)) ((w.alloc (.cells #[.int .i64 h, .slice p xs.length cp] 24)).alloc (.cells #[.int .i64 0, .int .i64 0] 51)) := Free.Bel.refl _
  have HKB := Lib.hid (And.intro KB m1)
  cases hw : watchB h xs with
  | false =>
    have HC := Lib.hid (watchR_v h xs _ _ (HU.out.keeps KB) false (Lib.hid hw))
    have HW0 := Lib.hid hw
    clear m0 m1 hw hp
    go_enter Tryd.func31, Tryd.ntmps31
    go_wp2_with fail
    refine HC.out.mono ?_
    rintro e w1 ⟨rfl, hB1⟩
    have K1 : Free.Bel ((w.alloc (.cells #[.int .i64 h, .slice p xs.length cp] 24)).alloc (.cells #[.int .i64 0, .int .i64 0] 51)) w1 := hB1
    have n1 := (K1.block _ (lt_of_heap HKB.out.2)).trans HKB.out.2
    have y0 := cell_of_heap (o := 0) n1 rfl
    have y1 := cell_of_heap (o := 1) n1 rfl
    have f0 := frozen_of_heap (o := 0) n1
    have f1 := frozen_of_heap (o := 1) n1
    have HB := Lib.hid (bt KB K1)
    clear hB1 n1
    go_wp2_with fail
    exact bodyPost_ret (v := .tuple #[.agg #[.int .i64 0, .int .i64 0], .int .i64 70]) (by simp [results, Tryd.results31, go_sem, y0, y1]) rfl ⟨.inl ⟨HW0.out, rfl⟩, (HB.out.setCell (by simp) _).setCell (by simp) _⟩
  | true =>
    have HC := Lib.hid (watchR_v h xs _ _ (HU.out.keeps KB) true (Lib.hid hw))
    have hl4 := (watchB_iff.1 hw).2.1
    have HW := Lib.hid hw
    clear m0 m1 hw hp
    go_enter Tryd.func31, Tryd.ntmps31
    go_wp2_with fail
    refine HC.out.mono ?_
    rintro e w1 ⟨rfl, hB1⟩
    have K1 : Free.Bel ((w.alloc (.cells #[.int .i64 h, .slice p xs.length cp] 24)).alloc (.cells #[.int .i64 0, .int .i64 0] 51)) w1 := hB1
    have HK1 := Lib.hid K1
    clear hB1
    go_wp2_with fail
    clear K1 KE FA KB
    go_loopw [14, 4] (fun i n wr => ∃ (k : Nat) (nv : Int), k ≤ xs.length ∧ i = .int .i64 k ∧ n = .int .i64 nv ∧ Free.Bel ((w.alloc (.cells #[.int .i64 h, .slice p xs.length cp] 24)).alloc (.cells #[.int .i64 0, .int .i64 0] 51)) wr ∧ 0 ≤ nv ∧ nv ≤ k * 60 ∧ Hid (nv = shareI (xs.take k))) (fun i _ _ => xs.length - (intOf i).toNat)
    case atStart => exact ⟨0, 0, Nat.zero_le _, rfl, rfl, HK1.out, by omega, by simp, (show (0 : Int) = shareI (xs.take 0) by simp [shareI, sumI])⟩
    case round =>
      obtain ⟨k, nv, hk, rfl, rfl, hK, h0, h1, HEQ⟩ := hrel
      by_cases hlt : k < xs.length
      · have hx : xs ≠ [] := by intro e; simp [e] at hlt
        obtain ⟨b, off, rfl, hcp⟩ := HP.out hx
        obtain ⟨d1, d2, d3⟩ := hcp k hlt
        have e1 := keepsB (bt HKB.out.1 hK) d1
        have e2 := keepsB (bt HKB.out.1 hK) d2
        have e3 := keepsB (bt HKB.out.1 hK) d3
        have hklt : (k : Int) < xs.length := by omega
        have hkw : IntKind.i64.wrap ((k : Int) + 1) = (k : Int) + 1 := IntWalk.i64_in _ (by omega)
        have hok := watchB_ok HW.out xs[k] (List.getElem_mem hlt)
        unfold okR at hok
        have HEX : Hid (shareI (xs.take (k + 1)) = shareI (xs.take k) + 60 / xs[k].2.1) := by
          show _ = _
          rw [take_step xs k hlt]
          simp only [shareI, List.map_append, sumI_append, List.map_cons, List.map_nil, sumI]
          omega
        have HKr := Lib.hid hK
        clear hcp hx d1 d2 d3 hK
        generalize xs[k] = x at *
        obtain ⟨x1, x2, x3⟩ := x
        simp only at e1 e2 e3 hok
        have hd : (60 : Int).tdiv x2 = 60 / x2 := Int.tdiv_eq_ediv_of_nonneg (by omega)
        have hd0 : 0 ≤ 60 / x2 := Int.ediv_nonneg (by omega) (by omega)
        have hd1 : 60 / x2 ≤ 60 := Int.ediv_le_self _ (by omega)
        have hdw : IntKind.i64.wrap (60 / x2) = 60 / x2 := IntWalk.i64_in _ (by omega)
        have hz : ¬ (x2 = 0) := by omega
        have hzb : (x2 == 0) = false := by simp; omega
        have hzm : ¬ (x2 = -1) := by omega
        have HEX2 : Hid (shareI (xs.take (k + 1)) = shareI (xs.take k) + 60 / x2) := HEX.out
        clear HEX
        generalize 60 / x2 = q at *
        have hsw : IntKind.i64.wrap (nv + q) = nv + q := IntWalk.i64_in _ (by omega)
        have KA : Free.Bel wr (wr.alloc (.cells #[.int .i64 x1, .int .i64 x2, .int .i64 x3] 47)) := belAlloc _ _
        have hx1 : (wr.alloc (.cells #[.int .i64 x1, .int .i64 x2, .int .i64 x3] 47)).cell? ⟨wr.heap.size, 1, none⟩ = some (.int .i64 x2) := by simp [go_sem]
        clear hok
        go_wp2_with fail
        go_roundw
        case rel => exact ⟨k + 1, nv + q, by omega, by go_num, rfl, bt HKr.out KA, by omega, by push_cast; omega, (show nv + q = shareI (xs.take (k + 1)) by rw [HEX2.out, ← HEQ.out])⟩
        case measure => simp [intOf]; omega
      · obtain rfl : k = xs.length := by omega
        have hge : ¬ (xs.length : Int) < xs.length := by omega
        have HEX : Hid (nv = shareI xs) := by have h9 := HEQ.out; rw [List.take_length] at h9; exact h9
        have HKr := Lib.hid hK
        obtain ⟨pa, pb, hpv⟩ : ∃ a b : Int, partV nv.toNat (60 : Int).toNat = .agg #[.int .i64 a, .int .i64 b] := ⟨_, _, rfl⟩
        have HPV := Lib.hid hpv
        have HLS := Lib.hid (least_int nv 60 (by omega) (by decide) (by omega) (by decide) _ hpv wr)
        clear hK hpv
        go_wp2_with fail
        refine HLS.out.mono ?_
        rintro e w2 ⟨rfl, hB2⟩
        have K2 : Free.Bel ((w.alloc (.cells #[.int .i64 h, .slice p xs.length cp] 24)).alloc (.cells #[.int .i64 0, .int .i64 0] 51)) w2 := bt HKr.out hB2
        have n1 := (K2.block _ (lt_of_heap HKB.out.2)).trans HKB.out.2
        have y0 := cell_of_heap (o := 0) n1 rfl
        have y1 := cell_of_heap (o := 1) n1 rfl
        have f0 := frozen_of_heap (o := 0) n1
        have f1 := frozen_of_heap (o := 1) n1
        have HB := Lib.hid (bt HKB.out.1 K2)
        clear hB2 n1 K2 HLS
        go_wp2_with fail
        exact bodyPost_ret (v := .tuple #[.agg #[.int .i64 pa, .int .i64 pb], .int .i64 0]) (by simp [results, Tryd.results31, go_sem, y0, y1]) rfl ⟨.inr ⟨HW.out, by rw [← HEX.out]; have h9 := HPV.out; rw [show (60 : Int).toNat = 60 from rfl] at h9; rw [h9]⟩, (HB.out.setCell (by simp) _).setCell (by simp) _⟩
end Go.Proofs.YtknpglgpkkhhiaaDoor

/- What the program's answers and the reference's have in common. -/
namespace Go.Proofs.YtknpglgpkkhhiaaDoor
set_option linter.unusedSimpArgs false
set_option linter.unusedVariables false
open Go.RowKit Go.Proofs.YtknpglgpkkhhiaaDoor.Free2 Go.Proofs.YtknpglgpkkhhiaaDoor.ML RR

theorem DO.dl7 {base : Nat} {ds : List (List Int)} {v : Value} {W : World} (h : DO base ds v W) : DL ds v W := by
  refine (h.dz ?_ fun d hd => ?_).dl
  · obtain ⟨vs, h1, h2, h3⟩ := h
    exact own_le7 h2
  · obtain ⟨vs, h1, h2, h3⟩ := h
    obtain ⟨i, hi, rfl⟩ := List.getElem_of_mem hd
    obtain ⟨b0, h4⟩ := h3 i hi vs[i] (List.getElem?_eq_getElem (by omega))
    exact own_le7 h4
theorem share_both (h : Int) (xs : List Rk) : ∃ a b c : Int, ∀ e, ShPost h xs e → e = .returned (.tuple #[.agg #[.int .i64 a, .int .i64 b], .int .i64 c]) := by
  obtain ⟨pa, pb, hpv⟩ : ∃ a b : Int, partV (shareI xs).toNat 60 = .agg #[.int .i64 a, .int .i64 b] := ⟨_, _, rfl⟩
  cases hw : watchB h xs with
  | false =>
    refine ⟨0, 0, 70, fun e he => ?_⟩
    rcases he with ⟨_, h1⟩ | ⟨h1, _⟩
    · exact h1
    · rw [hw] at h1; cases h1
  | true =>
    refine ⟨pa, pb, 0, fun e he => ?_⟩
    rcases he with ⟨h1, _⟩ | ⟨_, h1⟩
    · rw [hw] at h1; cases h1
    · rw [h1, hpv]
theorem today_both (h : Int) (xs : List Rk) (c : Int) : ∃ D : List Int, ∀ e w', TodayPost h xs c e w' → ∃ v, e = .returned (.tuple #[v, .int .i64 c]) ∧ IL D v w' := by
  by_cases hc : c = 0
  · refine ⟨stepE h xs, fun e w' he => ?_⟩
    rcases he with ⟨h1, _⟩ | ⟨_, v, h1, h2⟩
    · exact absurd hc h1
    · exact ⟨v, by rw [hc]; exact h1, h2.il⟩
  · refine ⟨[], fun e w' he => ?_⟩
    rcases he with ⟨_, h1⟩ | ⟨h1, _⟩
    · exact ⟨_, h1, IL.nil _⟩
    · exact absurd h1 hc
theorem days_both (h : Int) (xs : List Rk) (n c : Int) : ∃ D : List (List Int), ∀ w e w', DaysPost h xs n c w e w' → ∃ v, e = .returned (.tuple #[v, .int .i64 c]) ∧ DL D v w' := by
  by_cases hc : c = 0
  · refine ⟨planL h xs n.toNat, fun w e w' he => ?_⟩
    rcases he with ⟨h1, _⟩ | ⟨_, v, h1, h2⟩
    · exact absurd hc h1
    · exact ⟨v, by rw [hc]; exact h1, h2.dl7⟩
  · refine ⟨[], fun w e w' he => ?_⟩
    rcases he with ⟨_, h1⟩ | ⟨h1, _⟩
    · exact ⟨_, h1, DL.nil _⟩
    · exact absurd h1 hc
theorem round_both (h : Int) (xs : List Rk) (c : Int) : ∃ A B : List (List Int), ∀ w e w', RoundPost h xs c w e w' → ∃ vl vr, e = .returned (.tuple #[vl, vr, .int .i64 c]) ∧ DL A vl w' ∧ DL B vr w' := by
  by_cases hc : c = 0
  · by_cases hr : ∃ i j, RoundIs h xs i j
    · obtain ⟨i, j, hij⟩ := hr
      refine ⟨planL h xs i, (planL h xs j).drop i, fun w e w' he => ?_⟩
      rcases he with ⟨h1, _⟩ | ⟨_, i', j', vl, vr, h1, h2, h3, h4⟩
      · exact absurd hc h1
      · obtain ⟨rfl, rfl⟩ := hij.unique h1
        exact ⟨vl, vr, by rw [hc]; exact h2, h3.dl, h4.dl⟩
    · refine ⟨[], [], fun w e w' he => ?_⟩
      rcases he with ⟨h1, _⟩ | ⟨_, i', j', vl, vr, h1, h2, h3, h4⟩
      · exact absurd hc h1
      · exact absurd ⟨i', j', h1⟩ hr
  · refine ⟨[], [], fun w e w' he => ?_⟩
    rcases he with ⟨_, h1⟩ | ⟨h1, _⟩
    · exact ⟨_, _, h1, DL.nil _, DL.nil _⟩
    · exact absurd h1 hc
theorem good_unique {h : Int} {xs : List Rk} {n m : Nat} (h1 : goodN h n xs = true) (h2 : goodN h (n + 1) xs = false) (h3 : goodN h m xs = true) (h4 : goodN h (m + 1) xs = false) : n = m := by
  rcases Nat.lt_trichotomy n m with hl | hl | hl
  · have := goodN_le (show n + 1 ≤ m by omega) xs h3; rw [h2] at this; cases this
  · exact hl
  · have := goodN_le (show m + 1 ≤ n by omega) xs h1; rw [h4] at this; cases this
theorem last_both (h : Int) (xs : List Rk) : ∃ D : List (List Int), (∀ w e w', LastPost h xs (lastE h xs) w e w' → ∃ v, e = .returned (.tuple #[v, .int .i64 (lastE h xs)]) ∧ DL D v w') ∧ (∀ w e w', LastRPost h xs w e w' → ∃ v, e = .returned (.tuple #[v, .int .i64 (lastE h xs)]) ∧ DL D v w') := by
  cases hw : watchB h xs with
  | false =>
    have hc : lastE h xs = 70 := by unfold lastE; simp [hw]
    rw [hc]
    refine ⟨[], fun w e w' he => ?_, fun w e w' he => ?_⟩
    · rcases he with ⟨_, h1⟩ | ⟨h1, _⟩
      · exact ⟨_, h1, DL.nil _⟩
      · cases h1
    · rcases he with ⟨_, h1⟩ | ⟨h1, _⟩ | ⟨h1, _⟩
      · exact ⟨_, h1, DL.nil _⟩
      · rw [hw] at h1; cases h1
      · rw [hw] at h1; cases h1
  | true =>
    cases hv : everB h xs with
    | true =>
      have hc : lastE h xs = 6 := by unfold lastE; simp [hw, hv]
      rw [hc]
      refine ⟨[], fun w e w' he => ?_, fun w e w' he => ?_⟩
      · rcases he with ⟨_, h1⟩ | ⟨h1, _⟩
        · exact ⟨_, h1, DL.nil _⟩
        · cases h1
      · rcases he with ⟨h1, _⟩ | ⟨_, _, h1⟩ | ⟨_, h1, _⟩
        · rw [hw] at h1; cases h1
        · exact ⟨_, h1, DL.nil _⟩
        · rw [hv] at h1; cases h1
    | false =>
      have hc : lastE h xs = 0 := by unfold lastE; simp [hw, hv]
      rw [hc]
      by_cases hn : ∃ n, goodN h n xs = true ∧ goodN h (n + 1) xs = false
      · obtain ⟨n, h1, h2⟩ := hn
        refine ⟨lastL h n xs, fun w e w' he => ?_, fun w e w' he => ?_⟩
        · rcases he with ⟨h3, _⟩ | ⟨_, m, v, _, h3, h4, h5, h6⟩
          · exact absurd rfl h3
          · obtain rfl := good_unique h1 h2 h3 h4
            exact ⟨v, h5, h6.dl7⟩
        · rcases he with ⟨h3, _⟩ | ⟨_, h3, _⟩ | ⟨_, _, m, v, h3, h4, h5, h6⟩
          · rw [hw] at h3; cases h3
          · rw [hv] at h3; cases h3
          · obtain rfl := good_unique h1 h2 h3 h4
            exact ⟨v, h5, h6.dl7⟩
      · refine ⟨[], fun w e w' he => ?_, fun w e w' he => ?_⟩
        · rcases he with ⟨h3, _⟩ | ⟨_, m, v, _, h3, h4, _⟩
          · exact absurd rfl h3
          · exact absurd ⟨m, h3, h4⟩ hn
        · rcases he with ⟨h3, _⟩ | ⟨_, h3, _⟩ | ⟨_, _, m, v, h3, h4, _⟩
          · rw [hw] at h3; cases h3
          · rw [hv] at h3; cases h3
          · exact absurd ⟨m, h3, h4⟩ hn
theorem few_both (h : Int) (xs : List Rk) : ∃ n c : Int, ∀ e, FewPost h xs e → e = .returned (.tuple #[.int .i64 n, .int .i64 c]) := by
  cases hw : watchB h xs with
  | false =>
    refine ⟨0, 70, fun e he => ?_⟩
    rcases he with ⟨_, h1⟩ | ⟨h1, _⟩
    · exact h1
    · rw [hw] at h1; cases h1
  | true =>
    by_cases hf : ∃ n c, FewIs xs n c
    · obtain ⟨n, c, hf⟩ := hf
      refine ⟨n, c, fun e he => ?_⟩
      rcases he with ⟨h1, _⟩ | ⟨_, n', c', h1, h2⟩
      · rw [hw] at h1; cases h1
      · obtain ⟨rfl, rfl⟩ := hf.unique h1
        exact h2
    · refine ⟨0, 0, fun e he => ?_⟩
      rcases he with ⟨h1, _⟩ | ⟨_, n', c', h1, h2⟩
      · rw [hw] at h1; cases h1
      · exact absurd ⟨n', c', h1⟩ hf
theorem moist_both (h : Int) (xs : List Rk) (r : Int) : ∃ n c : Int, ∀ e, MoPost h xs r e → e = .returned (.tuple #[.int .i64 n, .int .i64 c]) := by
  cases hw : watchB h xs with
  | false =>
    refine ⟨0, 70, fun e he => ?_⟩
    rcases he with ⟨_, h1⟩ | ⟨h1, _⟩ | ⟨h1, _⟩
    · exact h1
    · rw [hw] at h1; cases h1
    · rw [hw] at h1; cases h1
  | true =>
    by_cases hr : r < 0
    · refine ⟨0, 6, fun e he => ?_⟩
      rcases he with ⟨h1, _⟩ | ⟨_, _, h1⟩ | ⟨_, h1, _⟩
      · rw [hw] at h1; cases h1
      · exact h1
      · omega
    · by_cases hf : ∃ n c, MoistIs h xs r.toNat n c
      · obtain ⟨n, c, hf⟩ := hf
        refine ⟨n, c, fun e he => ?_⟩
        rcases he with ⟨h1, _⟩ | ⟨_, h1, _⟩ | ⟨_, _, n', c', h1, h2⟩
        · rw [hw] at h1; cases h1
        · exact absurd h1 hr
        · obtain ⟨rfl, rfl⟩ := hf.unique h1
          exact h2
      · refine ⟨0, 0, fun e he => ?_⟩
        rcases he with ⟨h1, _⟩ | ⟨_, h1, _⟩ | ⟨_, _, n', c', h1, h2⟩
        · rw [hw] at h1; cases h1
        · exact absurd h1 hr
        · exact absurd ⟨n', c', h1⟩ hf
theorem spare_both (h : Int) (xs : List Rk) (c : Int) : ∃ n c' : Int, ∀ e, SpPost h xs c e → e = .returned (.tuple #[.int .i64 n, .int .i64 c']) := by
  by_cases hc : c = 0
  · by_cases hx : xs = []
    · refine ⟨0, 6, fun e he => ?_⟩
      rcases he with ⟨h1, _⟩ | ⟨_, _, h1⟩ | ⟨_, h1, _⟩
      · exact absurd hc h1
      · exact h1
      · exact absurd hx h1
    · by_cases hs : ∃ n, SpareIs h xs n
      · obtain ⟨n, hs⟩ := hs
        refine ⟨n, 0, fun e he => ?_⟩
        rcases he with ⟨h1, _⟩ | ⟨_, h1, _⟩ | ⟨_, _, n', h1, h2⟩
        · exact absurd hc h1
        · exact absurd h1 hx
        · obtain rfl := hs.unique h1
          exact h2
      · refine ⟨0, 0, fun e he => ?_⟩
        rcases he with ⟨h1, _⟩ | ⟨_, h1, _⟩ | ⟨_, _, n', h1, h2⟩
        · exact absurd hc h1
        · exact absurd h1 hx
        · exact absurd ⟨n', h1⟩ hs
  · refine ⟨0, c, fun e he => ?_⟩
    rcases he with ⟨_, h1⟩ | ⟨h1, _⟩ | ⟨h1, _⟩
    · exact h1
    · exact absurd h1 hc
    · exact absurd h1 hc
end Go.Proofs.YtknpglgpkkhhiaaDoor

