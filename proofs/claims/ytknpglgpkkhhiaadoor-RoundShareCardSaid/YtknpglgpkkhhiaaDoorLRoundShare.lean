/- For every input the law RoundShare returns true, and its arguments read behind the call as they read before; what a watch is asked lies in the table as the program's text lays it (tied). Condition: that table. -/
/- RoundShare: the share is at most the hands. -/
import Derived.Test.YtknpglgpkkhhiaaDoorB8
namespace Go.Proofs.YtknpglgpkkhhiaaDoor
set_option linter.unusedSimpArgs false
set_option linter.unusedVariables false
open Go.RowKit Go.Proofs.YtknpglgpkkhhiaaDoor.Free2 Go.Proofs.YtknpglgpkkhhiaaDoor.ML RR

theorem share_most : ∀ {xs : List Rk}, (∀ x ∈ xs, okR x) → 0 ≤ shareI xs ∧ shareI xs ≤ 60 * xs.length
  | [], _ => by simp [shareI, sumI]
  | x :: r, hx => by
    obtain ⟨h1, h2⟩ := share_most (xs := r) fun y hy => hx y (by simp [hy])
    have h3 := hx x (by simp)
    unfold okR at h3
    have h4 : 0 ≤ 60 / x.2.1 := Int.ediv_nonneg (by omega) (by omega)
    have h5 : 60 / x.2.1 ≤ 60 := Int.ediv_le_self _ (by omega)
    unfold shareI at h1 h2 ⊢
    simp only [List.map_cons, sumI, List.length_cons, Int.natCast_add]
    omega
/-- The share in lowest terms. -/
theorem share_part {h : Int} {xs : List Rk} (hw : watchB h xs = true) : ∃ a b : Int, partV (shareI xs).toNat 60 = .agg #[.int .i64 a, .int .i64 b] ∧ 0 ≤ a ∧ 0 ≤ b ∧ b ≤ 60 ∧ (everB h xs = true → a ≤ h * b) := by
  have h0 := share_nonneg hw
  have hh := (watchB_iff.1 hw).1
  refine ⟨_, _, rfl, Int.natCast_nonneg _, Int.natCast_nonneg _, ?_, fun he => ?_⟩
  · have := Nat.div_le_self 60 (Nat.gcd (shareI xs).toNat 60)
    show ((60 / Nat.gcd (shareI xs).toNat 60 : Nat) : Int) ≤ 60
    omega
  · have h1 := share_le hw he
    obtain ⟨n, rfl⟩ := Int.eq_ofNat_of_zero_le hh.1
    have h2 : (shareI xs).toNat ≤ n * 60 := by
      have : shareI xs ≤ (n : Int) * 60 := h1
      omega
    obtain ⟨c, hc⟩ := Nat.gcd_dvd_right (shareI xs).toNat 60
    have hg : 0 < Nat.gcd (shareI xs).toNat 60 := Nat.gcd_pos_of_pos_right _ (by decide)
    show (((shareI xs).toNat / Nat.gcd (shareI xs).toNat 60 : Nat) : Int) ≤ (n : Int) * ((60 / Nat.gcd (shareI xs).toNat 60 : Nat) : Int)
    have h3 : 60 / Nat.gcd (shareI xs).toNat 60 = c := by
      conv => lhs; lhs; rw [hc]
      exact Nat.mul_div_cancel_left _ hg
    rw [h3]
    have h4 : (shareI xs).toNat / Nat.gcd (shareI xs).toNat 60 ≤ n * c := by
      refine Nat.div_le_of_le_mul ?_
      rw [← Nat.mul_assoc, Nat.mul_comm _ n, Nat.mul_assoc, ← hc]
      exact h2
    exact_mod_cast h4
set_option maxRecDepth 100000 in
set_option maxHeartbeats 16000000 in
theorem shareL_walk (h : Int) (xs : List Rk) (u : Value) (w : World) (hT : TabR w) (hu : RL xs u w) :
    Calls Tryd.prog 10 #[.agg #[.int .i64 h, u]] w fun e w' => e = .returned (.bool true) ∧ Below w.heap.size w w' := by
  have HU := Lib.hid hu
  obtain ⟨p, cp, rfl, hm, hp⟩ := hu
  have HP := Lib.hid hp
  have KB : Free.Bel w (w.alloc (.cells #[.int .i64 h, .slice p xs.length cp] 24)) := belAlloc _ _
  have FA : ∀ W, Free.Bel (w.alloc (.cells #[.int .i64 h, .slice p xs.length cp] 24)) W → W.cell? ⟨w.heap.size, 0, none⟩ = some (.int .i64 h) ∧ W.cell? ⟨w.heap.size, 1, none⟩ = some (.slice p xs.length cp) := fun W hW => ⟨keepsB hW (by simp [go_sem]), keepsB hW (by simp [go_sem])⟩
  have HFA := Lib.hid FA
  have HTAB := Lib.hid hT
  have HKB := Lib.hid KB
  clear hT hp hm KB
  go_enter Tryd.func10, Tryd.ntmps10
  go_wp2_with fail
  refine (alive_any (w.alloc (.cells #[.int .i64 h, .slice p xs.length cp] 24)) (HTAB.out.bel HKB.out)).mono ?_
  rintro e w1 ⟨rfl, hB1⟩
  have K1 : Free.Bel (w.alloc (.cells #[.int .i64 h, .slice p xs.length cp] 24)) w1 := hB1
  have HK1 := Lib.hid K1
  clear hB1
  go_wp2_with fail
  cases hw : watchB h xs with
  | false =>
    refine (ready_v h xs _ w1 (HU.out.keeps (bt HKB.out HK1.out)) false (Lib.hid hw)).mono ?_
    rintro e w2 ⟨rfl, hB2⟩
    have HB := Lib.hid (bt HKB.out (bt HK1.out hB2))
    clear hB2
    go_wp2_with fail
    go_ret
    exact ⟨rfl, HB.out⟩
  | true =>
    have HW := Lib.hid hw
    refine (ready_v h xs _ w1 (HU.out.keeps (bt HKB.out HK1.out)) true (Lib.hid hw)).mono ?_
    clear hw
    rintro e w2 ⟨rfl, hB2⟩
    have K2 : Free.Bel (w.alloc (.cells #[.int .i64 h, .slice p xs.length cp] 24)) w2 := bt HK1.out hB2
    have HK2 := Lib.hid K2
    clear hB2 K1
    go_wp2_with fail
    refine (shareP_any h xs _ w2 (HTAB.out.bel (bt HKB.out HK2.out)) (HU.out.keeps (bt HKB.out HK2.out))).mono ?_
    obtain ⟨a, b, hab, ha0, hb0, hb60, hle⟩ := share_part HW.out
    rintro e w3 ⟨hS, hB3⟩
    obtain rfl : e = .returned (.tuple #[.agg #[.int .i64 a, .int .i64 b], .int .i64 0]) := by
      rcases hS with ⟨h9, _⟩ | ⟨_, h9⟩
      · rw [HW.out] at h9; cases h9
      · rw [h9, hab]
    have K3 : Free.Bel (w.alloc (.cells #[.int .i64 h, .slice p xs.length cp] 24)) w3 := bt HK2.out hB3
    have HK3 := Lib.hid K3
    have HAB := Lib.hid (And.intro hab (And.intro ha0 (And.intro hb0 (And.intro hb60 hle))))
    clear hS hB3 K2 hab ha0 hb0 hb60 hle
    have KA : Free.Bel w3 (w3.alloc (.cells #[.int .i64 a, .int .i64 b] 51)) := belAlloc _ _
    have m4 : (w3.alloc (.cells #[.int .i64 a, .int .i64 b] 51)).heap[w3.heap.size]? = some (.cells #[.int .i64 a, .int .i64 b] 51 (0, 0)) := World.alloc_heap_new w3 _
    have HM4 := Lib.hid (And.intro KA m4)
    have K3a : Free.Bel (w.alloc (.cells #[.int .i64 h, .slice p xs.length cp] 24)) (w3.alloc (.cells #[.int .i64 a, .int .i64 b] 51)) := bt K3 KA
    clear K3 KA m4
    go_wp2_with fail
    obtain ⟨r, hr⟩ : ∃ r, everB h xs = r := ⟨_, rfl⟩
    have HR := Lib.hid hr
    refine (canP_v h xs _ (w3.alloc (.cells #[.int .i64 a, .int .i64 b] 51)) (HTAB.out.bel (bt HKB.out (bt HK3.out HM4.out.1))) (HU.out.keeps (bt HKB.out (bt HK3.out HM4.out.1))) 0 r (by rw [HW.out, hr]; exact ⟨rfl, rfl⟩)).mono ?_
    rintro e w4 ⟨rfl, hB4⟩
    have HK4 := Lib.hid (show Free.Bel (w3.alloc (.cells #[.int .i64 a, .int .i64 b] 51)) w4 from hB4)
    have K4 : Free.Bel (w.alloc (.cells #[.int .i64 h, .slice p xs.length cp] 24)) w4 := bt HK3.out (bt HM4.out.1 HK4.out)
    have HKW := Lib.hid K4
    clear hB4 K3a hr
    go_wp2_with fail
    clear K4 FA
    go_loopw [33, 8] (fun i s wr => ∃ k : Nat, k ≤ xs.length ∧ i = .int .i64 k ∧ s = .int .i64 (shareI (xs.take k)) ∧ Free.Bel w4 wr) (fun i _ _ => xs.length - (intOf i).toNat)
    case atStart => exact ⟨0, Nat.zero_le _, rfl, rfl, Free.Bel.refl _⟩
    case round =>
      obtain ⟨k, hk, rfl, rfl, hK⟩ := hrel
      by_cases hlt : k < xs.length
      · have hx : xs ≠ [] := by intro e; simp [e] at hlt
        obtain ⟨b9, off, rfl, hcp⟩ := HP.out hx
        obtain ⟨d1, d2, d3⟩ := hcp k hlt
        have hKK := bt HKB.out (bt HKW.out hK)
        have e1 := keepsB hKK d1
        have e2 := keepsB hKK d2
        have e3 := keepsB hKK d3
        have hklt : (k : Int) < xs.length := by omega
        have hok := watchB_ok HW.out xs[k] (List.getElem_mem hlt)
        unfold okR at hok
        have hl4 := (watchB_iff.1 HW.out).2.1
        have htk : shareI (xs.take (k + 1)) = shareI (xs.take k) + 60 / xs[k].2.1 := by
          rw [List.take_succ_eq_append_getElem hlt, shareI, List.map_append, sumI_append]
          simp [shareI, sumI]
        obtain ⟨q1, q2⟩ := share_most (xs := xs.take (k + 1)) fun x hx => watchB_ok HW.out x (List.mem_of_mem_take hx)
        obtain ⟨q3, q4⟩ := share_most (xs := xs.take k) fun x hx => watchB_ok HW.out x (List.mem_of_mem_take hx)
        rw [List.length_take] at q2 q4
        rw [htk] at q1 q2
        have HTK := Lib.hid htk
        have hd1 : (1 : Int) ≤ xs[k].2.1 := hok.2.2.1
        have hd0 : ¬ xs[k].2.1 = 0 := by omega
        have hE6 := hok.2.2.2.1
        clear hcp hx d1 d2 d3 htk hok
        generalize shareI (xs.take k) = SS at *
        generalize xs[k] = x at *
        obtain ⟨x1, x2, x3⟩ := x
        simp only at *
        have hq : (60 : Int) / x2 = Int.tdiv 60 x2 := by rw [Int.tdiv_eq_ediv_of_nonneg (by decide)]
        have hw0 : IntKind.i64.wrap ((60 : Int).tdiv x2) = 60 / x2 := by rw [← hq]; exact IntWalk.i64_in _ (by omega)
        have hw1 : IntKind.i64.wrap (SS + 60 / x2) = SS + 60 / x2 := IntWalk.i64_in _ (by omega)
        have hkw : IntKind.i64.wrap ((k : Int) + 1) = (k : Int) + 1 := IntWalk.i64_in _ (by omega)
        have HB9 := Lib.hid (bt hK (belAlloc wr (.cells #[.int .i64 x1, .int .i64 x2, .int .i64 x3] 47)))
        have hx1 : (wr.alloc (.cells #[.int .i64 x1, .int .i64 x2, .int .i64 x3] 47)).cell? ⟨wr.heap.size, 1, none⟩ = some (.int .i64 x2) := by simp [go_sem]
        clear hKK q1 q2 q3 q4 hl4 hE6 hq hd1
        go_wp2_with fail
        go_roundw
        case rel => exact ⟨k + 1, by omega, by go_num, by rw [HTK.out], HB9.out⟩
        case measure => simp [intOf]; omega
      · obtain rfl : k = xs.length := by omega
        rw [List.take_length]
        obtain ⟨q1, q2⟩ := share_most (xs := xs) fun x hx => watchB_ok HW.out x hx
        have hl4 := (watchB_iff.1 HW.out).2.1
        have hh := (watchB_iff.1 HW.out).1
        have HLE := Lib.hid (fun W => least_int (shareI xs) 60 q1 (by decide) (by omega) (by decide) (.agg #[.int .i64 a, .int .i64 b]) HAB.out.1 W)
        have hKK := bt HKW.out hK
        have y0 := HFA.out wr hKK
        have hK9 := Lib.hid hK
        have HSH := Lib.hid (And.intro hl4 hh)
        clear hKK q1 q2 hl4 hh hlt y0
        generalize shareI xs = SS at *
        go_wp2_with fail
        have hF : ∀ W, Free.Bel wr.drew W → (W.cell? ⟨w3.heap.size, 0, none⟩ = some (.int .i64 a) ∧ W.cell? ⟨w3.heap.size, 1, none⟩ = some (.int .i64 b)) := fun W hW => by
          have h4 := bt HK4.out (bt hK9.out (bt (Bel.drewT (Free.Bel.refl _)) hW))
          have h5 := (h4.block _ (lt_of_heap HM4.out.2)).trans HM4.out.2
          exact ⟨cell_of_heap (o := 0) h5 rfl, cell_of_heap (o := 1) h5 rfl⟩
        refine Free.wp_free (R := Free.Bel) (by kernel_rfl) (by kernel_rfl) Free.Bel.refl Free.Bel.trans ?_
        refine Free.Chain.ex ?_ [] [5] (by kernel_rfl) (by kernel_rfl) rfl Free.Bel.refl ?_ ?_
        rotate_left
        · (intro ev W hb hR hO hD; have hS := hF W hR; obtain ⟨hb1, hb2, hb3⟩ := hb; simp only [Free.AllDeps, Free.AllOuts, Free.At, al1, al2, al3, al4, al5, and_true] at hO hD; go_simp; rfl)
        simp only [an1, an2]
        refine Free.Chain.ex ?_ [(0, 43)] [] (by kernel_rfl) (by kernel_rfl) rfl Free.Bel.refl ?_ ?_
        rotate_left
        · (intro ev W hb hR hO hD; have hS := hF W hR; obtain ⟨hb1, hb2, hb3⟩ := hb; simp only [Free.AllDeps, Free.AllOuts, Free.At, al1, al2, al3, al4, al5, and_true] at hO hD; go_simp; rfl)
        simp only [an1, an2]
        refine Free.Chain.ex ?_ [(1, 44)] [] (by kernel_rfl) (by kernel_rfl) rfl Free.Bel.refl ?_ ?_
        rotate_left
        · (intro ev W hb hR hO hD; have hS := hF W hR; obtain ⟨hb1, hb2, hb3⟩ := hb; simp only [Free.AllDeps, Free.AllOuts, Free.At, al1, al2, al3, al4, al5, and_true] at hO hD; go_simp; rfl)
        simp only [an1, an2]
        refine Free.Chain.exG ?_ [(2, 45)] [7] 2 false 45 (by kernel_rfl) (by kernel_rfl) rfl (by kernel_rfl) Free.Bel.refl ?_ ?_
        rotate_left
        · (intro ev W hb hR hO hD; have hS := hF W hR; obtain ⟨hb1, hb2, hb3⟩ := hb; simp only [Free.AllDeps, Free.AllOuts, Free.At, al1, al2, al3, al4, al5, and_true] at hO hD; refine ⟨by simp [hD], ?_⟩; go_simp; rfl)
        simp only [an1, an2]
        refine Free.Chain.exG ?_ [(3, 46), (2, 45)] [] 2 false 45 (by kernel_rfl) (by kernel_rfl) rfl (by kernel_rfl) Free.Bel.refl ?_ ?_
        rotate_left
        · (intro ev W hb hR hO hD; have hS := hF W hR; obtain ⟨hb1, hb2, hb3⟩ := hb; simp only [Free.AllDeps, Free.AllOuts, Free.At, al1, al2, al3, al4, al5, and_true] at hO hD; refine ⟨by simp [hD], ?_⟩; go_simp; rfl)
        simp only [an1, an2]
        refine Free.Chain.ex ?_ [(2, 45), (4, 47)] [] (by kernel_rfl) (by kernel_rfl) rfl Free.Bel.refl ?_ ?_
        rotate_left
        · (intro ev W hb hR hO hD; have hS := hF W hR; obtain ⟨hb1, hb2, hb3⟩ := hb; simp only [Free.AllDeps, Free.AllOuts, Free.At, al1, al2, al3, al4, al5, and_true] at hO hD; go_simp; rfl)
        simp only [an1, an2]
        refine Free.Chain.ex ?_ [(5, 48), (2, 45)] [] (by kernel_rfl) (by kernel_rfl) rfl Free.Bel.refl ?_ ?_
        rotate_left
        · (intro ev W hb hR hO hD; have hS := hF W hR; obtain ⟨hb1, hb2, hb3⟩ := hb; simp only [Free.AllDeps, Free.AllOuts, Free.At, al1, al2, al3, al4, al5, and_true] at hO hD; go_simp; rfl)
        simp only [an1, an2]
        refine Free.Chain.exG ?_ [(6, 49)] [4] 6 false 49 (by kernel_rfl) (by kernel_rfl) rfl (by kernel_rfl) Free.Bel.refl ?_ ?_
        rotate_left
        · (intro ev W hb hR hO hD; have hS := hF W hR; obtain ⟨hb1, hb2, hb3⟩ := hb; simp only [Free.AllDeps, Free.AllOuts, Free.At, al1, al2, al3, al4, al5, and_true] at hO hD; refine ⟨by simp [hD], ?_⟩; go_simp; rfl)
        simp only [an1, an2]
        refine Free.Chain.exG ?_ [(6, 49)] [8] 6 false 49 (by kernel_rfl) (by kernel_rfl) rfl (by kernel_rfl) Free.Bel.refl ?_ ?_
        rotate_left
        · (intro ev W hb hR hO hD; have hS := hF W hR; obtain ⟨hb1, hb2, hb3⟩ := hb; simp only [Free.AllDeps, Free.AllOuts, Free.At, al1, al2, al3, al4, al5, and_true] at hO hD; refine ⟨by simp [hD], ?_⟩; go_simp; rfl)
        simp only [an1, an2]
        refine Free.Chain.prG (fun v _ => v = .agg #[.int .i64 a, .int .i64 b]) [(8, 51), (6, 49), (6, 49)] [] 6 false 49 (by kernel_rfl) (by kernel_rfl) rfl (by kernel_rfl) (fun _ _ _ _ h => h) ?_ ?_
        · (intro ev W hb hR hO hD; have hS := hF W hR; obtain ⟨hb1, hb2, hb3⟩ := hb; simp only [Free.AllDeps, Free.AllOuts, Free.At, al1, al2, al3, al4, al5, and_true] at hO hD; refine ⟨by simp [hD], ?_⟩; go_simp; refine yields_enter ?_; (with_reducible refine (HLE.out W).mono ?_); rintro e W2 ⟨rfl, hB2⟩; exact ⟨_, rfl, hB2, rfl⟩)
        simp only [an1, an2]
        refine Free.Chain.exG ?_ [(7, 50), (9, 52), (6, 49)] [] 6 false 49 (by kernel_rfl) (by kernel_rfl) rfl (by kernel_rfl) Free.Bel.refl ?_ ?_
        rotate_left
        · (intro ev W hb hR hO hD; have hS := hF W hR; obtain ⟨hb1, hb2, hb3⟩ := hb; simp only [Free.AllDeps, Free.AllOuts, Free.At, al1, al2, al3, al4, al5, and_true] at hO hD; refine ⟨by simp [hD], ?_⟩; go_simp; rfl)
        simp only [an1, an2]
        refine Free.Chain.ex ?_ [(6, 49), (10, 53)] [] (by kernel_rfl) (by kernel_rfl) rfl Free.Bel.refl ?_ ?_
        rotate_left
        · (intro ev W hb hR hO hD; have hS := hF W hR; obtain ⟨hb1, hb2, hb3⟩ := hb; simp only [Free.AllDeps, Free.AllOuts, Free.At, al1, al2, al3, al4, al5, and_true] at hO hD; go_simp; rfl)
        simp only [an1, an2]
        intro ys w9 hR hV
        simp only [Free.AllV, Free.At, List.length_cons, List.length_nil, Nat.reduceAdd, List.getElem?_cons_succ, List.getElem?_cons_zero, true_and, and_true] at hV
        simp only [Free.putsFrom, Act.put, Nat.zero_add, Nat.reduceAdd, hV, List.setIfInBounds_toArray, List.set_cons_succ, List.set_cons_zero]
        have HB9 := Lib.hid (show Free.Bel w4 w9 from bt hK9.out (bt (Bel.drewT (Free.Bel.refl _)) hR))
        have HBW := Lib.hid (bt HKB.out (bt HKW.out HB9.out))
        clear hR hV hF
        obtain ⟨y0, y1⟩ := HFA.out w9 (bt HKW.out HB9.out)
        have h5 := ((bt HK4.out HB9.out).block _ (lt_of_heap HM4.out.2)).trans HM4.out.2
        have y2 := cell_of_heap (o := 0) h5 rfl
        have y3 := cell_of_heap (o := 1) h5 rfl
        clear h5 hK
        cases r with
        | true =>
          have hle := HAB.out.2.2.2.2 HR.out
          have hb0 := HAB.out.2.2.1
          have hb6 := HAB.out.2.2.2.1
          have hh := HSH.out.2
          have hm1 : h * b ≤ 3 * b := Int.mul_le_mul_of_nonneg_right hh.2 hb0
          have hm2 : 0 ≤ h * b := Int.mul_nonneg hh.1 hb0
          have hmw : IntKind.i64.wrap (h * b) = h * b := IntWalk.i64_in _ (by omega)
          have hd : decide (a ≤ h * b) = true := decide_eq_true hle
          clear hle hb0 hb6 hh hm1 hm2
          by_cases hlh : (xs.length : Int) ≤ h
          · go_wp2_with fail
            go_ret
            exact ⟨rfl, HBW.out⟩
          · go_wp2_with fail
            go_ret
            exact ⟨rfl, HBW.out⟩
        | false =>
          have hlh : ¬ (xs.length : Int) ≤ h := fun h9 => by
            have := ever_many HW.out h9
            rw [HR.out] at this
            cases this
          go_wp2_with fail
          go_ret
          exact ⟨rfl, HBW.out⟩
end Go.Proofs.YtknpglgpkkhhiaaDoor

/- For every input the law RoundShare returns true, and its arguments read behind the call as they read before; what a watch is asked lies in the table as the program's text lays it (tied). Condition: that table. -/
namespace Go.Proofs.YtknpglgpkkhhiaaDoor.lawRoundShare
open Go Go.ChangeShapes Go.WideShapes Go.ChangeAt Go.RowKit
set_option linter.unusedVariables false
set_option linter.unusedSimpArgs false

set_option maxRecDepth 100000 in
theorem contract (H : Type) (enc : TypeId × Value → H) (W : World) (base : Nat) (args : Array Value) (ds gs : List (DataW H)) (before : List MemPlace)
    (hval : ∀ (j : Nat) t v, Tryd.f10.params[j]? = some t → args[j]? = some v → Value.okWide Tryd.prog W .any base t v)
    (hW : DataW.Whole enc Tryd.prog Tryd.f10.params.toList Rows.roundShareSpec.vars false W args.toList ds gs before) (hL : laidMetH Tryd.prog Rows.roundShareRow.laid W) :
    Calls Tryd.prog 10 args W fun e W' => ∃ v, e = .returned v ∧ Rows.roundShareSpec.post enc Tryd.prog Tryd.f10 false true false false W args v W' := by
  have hW' := hW
  obtain ⟨p, q, hA0, hV, rfl, hfz, hnd⟩ := hW
  have hA : DataW.TrodAll enc Tryd.prog W 0 (fun _ => true) true Tryd.f10.params.toList args.toList ds p := hA0
  have hAk := hA
  rw [Tryd.params10] at hA hval
  obtain ⟨v0, vs0, d0, ds0, p0, q0, hargs, rfl, rfl, h0, r0⟩ := trodAll_cons hA
  obtain ⟨rfl, rfl, rfl⟩ := trodAll_nil r0
  obtain rfl : args = #[v0] := by cases args; simp_all
  obtain ⟨rfl, rfl⟩ := trodVars_none hV
  have hlt : ∀ x ∈ p0 ++ ([]), x.block < W.heap.size := fun x hx => by
    have := hW'.lt x (by simpa using hx)
    simpa using this
  obtain ⟨a0, b0, y0, z0, n0, rfl, _, _, g0, k0⟩ := Joins.open_agg2 Tryd.underlying24 (by kernel_rfl) (by kernel_rfl) (hval 0 24 _ rfl rfl) h0
  obtain ⟨h, ea0, _, _⟩ := DataW.trod_int Tryd.underlying3 g0
  simp at ea0
  subst ea0
  obtain ⟨xs, pp0, cap0, eb0, hrl0, hnz0⟩ := ricks_open Tryd.underlying22 Tryd.underlying47 (by kernel_rfl) rfl rfl rfl (by kernel_rfl) (by kernel_rfl) (by kernel_rfl) Tryd.underlying3 Tryd.underlying3 Tryd.underlying3 k0
  refine (shareL_walk h xs _ W (Tab.of_laid hL) hrl0).mono fun e W' ⟨he, hg⟩ => ?_
  subst he
  refine ⟨_, rfl, _, _, _, [], p0 ++ ([]), [], hW', ?_, ?_, ?_, hg.frame _, fun h => by cases h⟩
  · exact trodAll_cons_mk (shut_bool Tryd.underlying4 true) trodAll_mk0
  · exact Law.args_below Tab.laidOut (by kernel_rfl) hg hAk hlt
  · rfl

set_option maxRecDepth 100000 in
theorem lifted (os : Os) (started : os.Started) (H : Type) (enc : TypeId × Value → H) :
    ReturnsInHanded {} Tryd.checked os 10 .any (fun w args => (Rows.roundShareSpec.pre enc Tryd.prog Tryd.f10 [] false w args ∧ laidMetH Tryd.prog Rows.roundShareRow.laid w) ∧ sizedMet enc Tryd.prog Tryd.f10 (OpenSpec.ofChange Rows.roundShareSpec) false w args) (Rows.roundShareSpec.post enc Tryd.prog Tryd.f10 false true false false) := by
  refine returnsInHanded_of_change_and (C := Tryd.checked) (X := fun w _ => laidMetH Tryd.prog Rows.roundShareRow.laid w) (fun _ _ _ hh h => h.of_heap hh) Tab.own started (by kernel_rfl) Tryd.func10
    (ChangeSpec.witness_shaped (enc := enc) (C := Tryd.checked) (os := os) (X := fun w _ => laidMetH Tryd.prog Rows.roundShareRow.laid w) false (World.doorLaid Tryd.prog 17 os) #[.agg #[.int .i64 0, .slice none 0 0]] 8 rfl (World.shaped_of_RefB (by kernel_rfl) (by kernel_rfl)) (by kernel_rfl) (by kernel_rfl) (by kernel_rfl) (Tab.door_met os _)) ?_
  intro W base args ds gs before hval hW _ _ hL _
  exact contract H enc W base args ds gs before hval hW hL

theorem said : Rows.RoundShareSaid :=
  OpenClaim.holds_of_wide 10 Tryd.f10 rfl rfl rfl rfl rfl rfl rfl ⟨rfl, rfl, rfl, rfl, rfl⟩ rfl rfl rfl rfl rfl (by kernel_rfl) Tryd.func10 (by kernel_rfl)
    (of_decide_eq_true (by kernel_rfl)) (by unfold Func.isWrapper; first | (rw [if_pos (by decide +kernel)]; kernel_rfl) | (rw [if_neg (by decide +kernel)]; exact ⟨rfl, rfl⟩))
    (fun os started H enc _ => lifted os started H enc)

theorem plain (f : FuncId) (fn : Func) (hf : Tryd.pinned.checked.prog.funcNamed "oilcake/oilcakelaw07.RoundShare" = some f) (hfn : Tryd.pinned.checked.prog.funcs[f]? = some fn) :
    false = Tryd.pinned.checked.prog.looks [] ∧ ∀ (j : Nat) t, fn.params[j]? = some t → Tryd.pinned.checked.prog.wantsStandIn t = false := by
  obtain rfl : f = 10 := Option.some.inj ((show Tryd.prog.funcNamed "oilcake/oilcakelaw07.RoundShare" = some 10 by kernel_rfl).symm.trans hf) |>.symm
  obtain rfl : fn = Tryd.f10 := (Option.some.inj (Tryd.func10.symm.trans hfn)).symm
  refine ⟨by kernel_rfl, fun j t ht => ?_⟩
  rw [Tryd.params10] at ht
  have hm := Array.mem_of_getElem? ht
  have hall : (Tryd.f10.params.toList.all fun u => !Tryd.prog.wantsStandIn u) = true := by kernel_rfl
  rw [Tryd.params10] at hall
  exact (show Tryd.prog.wantsStandIn t = false by simpa using List.all_eq_true.1 hall t (by simpa using hm))

theorem card : Rows.RoundShareCardSaid :=
  Claim7.holds_tied_plain_at .later [] _ _ _ _ said (fun _ h => by cases h) (by kernel_rfl) (fun _ h => by cases h) roundShare_row_tie rfl ⟨rfl, rfl⟩ (by kernel_rfl) rfl plain (by kernel_rfl)
#print axioms card
end Go.Proofs.YtknpglgpkkhhiaaDoor.lawRoundShare

