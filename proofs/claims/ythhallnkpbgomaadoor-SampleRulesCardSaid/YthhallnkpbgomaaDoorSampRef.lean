/- The reference of layer 1: numbers. -/
import Derived.Test.YthhallnkpbgomaaDoorSampExp
import Derived.RegionTactic
namespace Go.Proofs.YthhallnkpbgomaaDoor
set_option linter.unusedSimpArgs false
set_option linter.unusedVariables false
open Go.RowKit Go.Proofs.YthhallnkpbgomaaDoor.ML Go.Proofs.YthhallnkpbgomaaDoor.Samp

theorem within_any (n lo hi : Int) (r : Bool) (w : World) (hr : inB lo hi [n] = r) :
    Calls Tryd.prog 73 #[.int .i64 n, .int .i64 lo, .int .i64 hi] w fun e w' => e = .returned (.bool r) ∧ w = w' := by
  subst hr
  by_cases h1 : lo ≤ n
  · by_cases h2 : n ≤ hi
    all_goals
      go_enter Tryd.func73, Tryd.ntmps73
      go_wp2
      go_ret
      simp [inB, h1, h2]
  · go_enter Tryd.func73, Tryd.ntmps73
    go_wp2
    go_ret
    simp [inB, h1]
    intro h; omega

theorem chI_div (m i : Int) (hm : 0 ≤ m) (hi : 1 ≤ i) : chI (m + i - 1) (i - 1) * (m + i) / i = chI (m + i) i := by
  obtain ⟨a, rfl⟩ := Int.eq_ofNat_of_zero_le hm
  obtain ⟨j, rfl⟩ : ∃ j : Nat, i = (j + 1 : Nat) := ⟨(i - 1).toNat, by omega⟩
  show chI (((a : Nat) : Int) + ((j + 1 : Nat) : Int) - 1) (((j + 1 : Nat) : Int) - 1) * (((a : Nat) : Int) + ((j + 1 : Nat) : Int)) / ((j + 1 : Nat) : Int) = chI (((a : Nat) : Int) + ((j + 1 : Nat) : Int)) ((j + 1 : Nat) : Int)
  rw [show ((a : Nat) : Int) + ((j + 1 : Nat) : Int) - 1 = ((a + j : Nat) : Int) by omega, show ((j + 1 : Nat) : Int) - 1 = (j : Nat) by omega,
    show ((a : Nat) : Int) + ((j + 1 : Nat) : Int) = ((a + j + 1 : Nat) : Int) by omega, chI_nat, chI_nat]
  have := nCk_step a j
  rw [← this]
  simp

set_option maxRecDepth 100000 in
set_option maxHeartbeats 2000000 in
theorem choose_any (n k : Int) (w : World) (h0 : 0 ≤ n) (hn : n ≤ 36) (hk : -1000 ≤ k ∧ k ≤ 1000) :
    Calls Tryd.prog 33 #[.int .i64 n, .int .i64 k] w fun e w' => e = .returned (.int .i64 (chI n k)) ∧ w = w' := by
  by_cases h : k < 0 ∨ n < k
  · rw [chI_out n k (by omega) h]
    rcases h with h | h
    · go_enter Tryd.func33, Tryd.ntmps33
      go_wp2
      go_ret
      exact ⟨rfl, rfl⟩
    · by_cases h2 : k < 0
      · go_enter Tryd.func33, Tryd.ntmps33
        go_wp2
        go_ret
        exact ⟨rfl, rfl⟩
      · go_enter Tryd.func33, Tryd.ntmps33
        go_wp2
        go_ret
        exact ⟨rfl, rfl⟩
  · have hk0 : 0 ≤ k := by omega
    have hkn : k ≤ n := by omega
    go_enter Tryd.func33, Tryd.ntmps33
    go_wp2
    go_loop [5, 6] (fun c i => ∃ j : Int, 1 ≤ j ∧ j ≤ k + 1 ∧ i = .int .i64 j ∧ c = .int .i64 (chI (n - k + j - 1) (j - 1))) (fun _ i => (k + 1 - intOf i).toNat)
    case atStart => exact ⟨1, by omega, by omega, rfl, by simp [chI_zero]⟩
    case round =>
      obtain ⟨j, hj1, hj2, rfl, rfl⟩ := hrel
      by_cases hlt : j ≤ k
      · have hb := chI_bound (n - k + j - 1) (j - 1) (by omega)
        have hd := Lib.hid (chI_div (n - k) j (by omega) hj1)
        have hb2 := chI_bound (n - k + j) j (by omega)
        have hnext : Hid (chI (n - k + (j + 1) - 1) (j + 1 - 1) = chI (n - k + j) j) := by
          show _ = _; rw [show n - k + (j + 1) - 1 = n - k + j by omega, show j + 1 - 1 = j by omega]
        generalize chI (n - k + j - 1) (j - 1) = C at *
        generalize chI (n - k + j) j = C2 at *
        have hm : 0 ≤ C * (n - k + j) ∧ C * (n - k + j) ≤ 68719476736 * 36 := ⟨Int.mul_nonneg hb.1 (by omega), Int.mul_le_mul hb.2 (by omega) (by omega) (by omega)⟩
        have hdd := hd.out
        go_wp2
        go_round
        case rel => exact ⟨j + 1, by omega, by omega, by go_num, by rw [hnext.out, ← hd.out]⟩
        case measure => simp [intOf]; omega
      · have hjk : j = k + 1 := by omega
        have hfin : Hid (chI (n - k + j - 1) (j - 1) = chI n k) := by
          show _ = _; rw [hjk, show n - k + (k + 1) - 1 = n by omega, show k + 1 - 1 = k by omega]
        have hlt2 : k < j := by omega
        clear hjk
        generalize chI (n - k + j - 1) (j - 1) = C at *
        go_wp2
        go_ret
        exact ⟨by rw [← hfin.out]; rfl, rfl⟩

set_option maxRecDepth 100000 in
set_option maxHeartbeats 1000000 in
theorem countR_any (N D o f : Int) (w : World) (hN : N ≤ 36) (h0 : 0 ≤ D) (h1 : D ≤ N) (ho : -1000 ≤ o ∧ o ≤ 1000) (hf : -1000 ≤ f ∧ f ≤ 1000) (hof : -1000 ≤ o - f ∧ o - f ≤ 1000) :
    Calls Tryd.prog 67 #[.int .i64 N, .int .i64 D, .int .i64 o, .int .i64 f] w fun e w' => e = .returned (.int .i64 (waysI N D o f)) ∧ w = w' := by
  have hb := waysI_bound N D o f hN h0 h1
  have hv : waysI N D o f = chI D f * chI (N - D) (o - f) := rfl
  rw [hv] at hb ⊢
  have c1 := Lib.hid (choose_any D f w h0 (by omega) hf)
  have c2 := Lib.hid (choose_any (N - D) (o - f) w (by omega) (by omega) hof)
  generalize chI D f = A at *
  generalize chI (N - D) (o - f) = B at *
  clear hv
  go_enter Tryd.func67, Tryd.ntmps67
  go_wp2_with fail
  refine c1.out.mono ?_
  rintro e w1 ⟨rfl, rfl⟩
  go_wp2_with fail
  refine c2.out.mono ?_
  rintro e w1 ⟨rfl, rfl⟩
  go_wp2_with fail
  go_ret
  exact ⟨rfl, rfl⟩

/-- The sum of the ways of 0 .. n - 1 found ones. -/
def fewI (N D o : Int) (n : Nat) : Int := midI N D o (fun _ => 1) n
theorem fewI_succ (N D o : Int) (n : Nat) : fewI N D o (n + 1) = fewI N D o n + waysI N D o n := by simp [fewI, midI]
theorem fewI_bound (N D o : Int) (hN : N ≤ 36) (h0 : 0 ≤ D) (h1 : D ≤ N) (n : Nat) : 0 ≤ fewI N D o n ∧ fewI N D o n ≤ n * 68719476736 := by
  induction n with
  | zero => simp [fewI, midI]
  | succ n ih => have := waysI_bound N D o n hN h0 h1; rw [fewI_succ]; omega
theorem mostI_few (N D o f : Int) (hf : 0 ≤ f) (hfo : f ≤ o) : mostI N D o f = fewI N D o (f + 1).toNat := by
  have key : ∀ n : Nat, midI N D o (oneTo f) n = fewI N D o (min n (f + 1).toNat) := by
    intro n
    induction n with
    | zero => simp [fewI, midI]
    | succ n ih =>
      rw [midI, ih]
      by_cases h : (n : Int) ≤ f
      · rw [show min (n + 1) (f + 1).toNat = n + 1 by omega, show min n (f + 1).toNat = n by omega, fewI_succ]
        simp [oneTo, h]
      · rw [show min (n + 1) (f + 1).toNat = (f + 1).toNat by omega, show min n (f + 1).toNat = (f + 1).toNat by omega]
        simp [oneTo, h]
  rw [mostI, key, show min (o + 1).toNat (f + 1).toNat = (f + 1).toNat by omega]

set_option maxRecDepth 100000 in
set_option maxHeartbeats 1000000 in
theorem few_any (N D o f : Int) (w : World) (hN : N ≤ 36) (h0 : 0 ≤ D) (h1 : D ≤ N) (ho : 0 ≤ o ∧ o ≤ 36) (hf : -1 ≤ f ∧ f ≤ 100) :
    Calls Tryd.prog 59 #[.int .i64 N, .int .i64 D, .int .i64 o, .int .i64 f] w fun e w' => e = .returned (.int .i64 (fewI N D o (f + 1).toNat)) ∧ w = w' := by
  have hsum := Lib.hid (fewI_bound N D o hN h0 h1)
  go_enter Tryd.func59, Tryd.ntmps59
  go_wp2
  go_loop [9, 10] (fun s i => ∃ k : Nat, (k : Int) ≤ f + 1 ∧ i = .int .i64 k ∧ s = .int .i64 (fewI N D o k)) (fun _ i => (f + 1 - intOf i).toNat)
  case atStart => exact ⟨0, by omega, rfl, rfl⟩
  case round =>
    obtain ⟨k, hk, rfl, rfl⟩ := hrel
    by_cases hlt : (k : Int) ≤ f
    · have hs := hsum.out k
      have hs' := hsum.out (k + 1)
      have hw := waysI_bound N D o k hN h0 h1
      have hstep : Hid (fewI N D o (k + 1) = fewI N D o k + waysI N D o k) := fewI_succ N D o k
      have hc := Lib.hid (countR_any N D o k w hN h0 h1 (by omega) (by omega) (by omega))
      rw [hstep.out] at hs'
      generalize fewI N D o k = S at *
      generalize waysI N D o k = G at *
      go_wp2_with fail
      refine hc.out.mono ?_
      rintro e w1 ⟨rfl, rfl⟩
      go_wp2_with fail
      go_round
      case rel => exact ⟨k + 1, by omega, by go_num, by rw [hstep.out]⟩
      case measure => simp [intOf]; omega
    · have hkn : Hid (k = (f + 1).toNat) := by show k = _; omega
      go_wp2_with fail
      go_ret
      exact ⟨by rw [← hkn.out]; rfl, rfl⟩

set_option maxRecDepth 100000 in
set_option maxHeartbeats 1000000 in
theorem few_neg (N D o f : Int) (w : World) (hf : f < 0) :
    Calls Tryd.prog 59 #[.int .i64 N, .int .i64 D, .int .i64 o, .int .i64 f] w fun e w' => e = .returned (.int .i64 (fewI N D o (f + 1).toNat)) ∧ w = w' := by
  have hz : Hid (fewI N D o (f + 1).toNat = 0) := by show _ = _; rw [show (f + 1).toNat = 0 by omega]; rfl
  go_enter Tryd.func59, Tryd.ntmps59
  go_wp2
  go_loop [9, 10] (fun s i => s = .int .i64 0 ∧ i = .int .i64 0) (fun _ i => 0)
  case atStart => exact ⟨rfl, rfl⟩
  case round =>
    obtain ⟨rfl, rfl⟩ := hrel
    go_wp2_with fail
    go_ret
    exact ⟨by rw [hz.out]; rfl, rfl⟩
theorem few_all (N D o f : Int) (w : World) (hN : N ≤ 36) (h0 : 0 ≤ D) (h1 : D ≤ N) (ho : 0 ≤ o ∧ o ≤ 36) (hf : f ≤ 100) :
    Calls Tryd.prog 59 #[.int .i64 N, .int .i64 D, .int .i64 o, .int .i64 f] w fun e w' => e = .returned (.int .i64 (fewI N D o (f + 1).toNat)) ∧ w = w' := by
  by_cases h : f < 0
  · exact few_neg N D o f w h
  · exact few_any N D o f w hN h0 h1 ho (by omega)

set_option maxRecDepth 100000 in
set_option maxHeartbeats 2000000 in
theorem least_any (n d : Nat) (hd : 0 < d) (hn : n ≤ 4611686018427387904) (hd2 : d ≤ 4611686018427387904) (w : World) :
    Calls Tryd.prog 40 #[.int .i64 n, .int .i64 d] w fun e w' => e = .returned (partV n d) ∧ Below w.heap.size w w' := by
  have hg : Hid (0 < Nat.gcd n d) := Nat.gcd_pos_of_pos_right n hd
  have hg1 : Nat.gcd n d ≤ d := Nat.gcd_le_right n hd
  go_enter Tryd.func40, Tryd.ntmps40
  go_wp2
  go_loopw [5, 6] (fun a b wr => ∃ x y : Nat, a = .int .i64 x ∧ b = .int .i64 y ∧ Nat.gcd x y = Nat.gcd n d ∧ x ≤ 4611686018427387904 ∧ y ≤ 4611686018427387904 ∧ wr = w.alloc (.cells #[.int .i64 0, .int .i64 0] 31)) (fun _ b _ => (intOf b).toNat)
  case atStart => exact ⟨d, n, rfl, rfl, Nat.gcd_comm d n, hd2, hn, rfl⟩
  case round =>
    obtain ⟨x, y, rfl, rfl, hxy, hx, hy, rfl⟩ := hrel
    have HXY := Lib.hid hxy
    clear hxy
    by_cases h0 : y = 0
    · subst h0
      have hxg : x = Nat.gcd n d := by have := HXY.out; simpa using this
      have hx0 : 1 ≤ x := by have := hg.out; omega
      have HX := Lib.hid hxg
      clear hxg
      have hB : Below w.heap.size w (w.alloc (.cells #[.int .i64 0, .int .i64 0] 31)) := (Below.refl _ w).alloc (Nat.le_refl _) _
      have c0 : (w.alloc (.cells #[.int .i64 0, .int .i64 0] 31)).cell? ⟨w.heap.size, 0, none⟩ = some (.int .i64 0) := by simp [go_sem]
      have c1 : (w.alloc (.cells #[.int .i64 0, .int .i64 0] 31)).cell? ⟨w.heap.size, 1, none⟩ = some (.int .i64 0) := by simp [go_sem]
      have f0 : (w.alloc (.cells #[.int .i64 0, .int .i64 0] 31)).frozen? ⟨w.heap.size, 0, none⟩ = false := by simp [go_sem]
      have f1 : (w.alloc (.cells #[.int .i64 0, .int .i64 0] 31)).frozen? ⟨w.heap.size, 1, none⟩ = false := by simp [go_sem]
      go_wp2
      generalize w.alloc (.cells #[.int .i64 0, .int .i64 0] 31) = wr at *
      generalize hbb : w.heap.size = bb at *
      have HBB := Lib.hid hbb
      clear hbb
      obtain ⟨z0, hz0⟩ : ∃ z : Int, z = ((n / x : Nat) : Int) := ⟨_, rfl⟩
      obtain ⟨z1, hz1⟩ : ∃ z : Int, z = ((d / x : Nat) : Int) := ⟨_, rfl⟩
      have q1 : wrap64 ((n : Int) / (x : Int)) = z0 := by
        rw [hz0, ← Int.natCast_ediv]; have := Nat.div_le_self n x; generalize n / x = z at *; exact IntWalk.wrap64_in _ (by omega)
      have q2 : wrap64 ((d : Int) / (x : Int)) = z1 := by
        rw [hz1, ← Int.natCast_ediv]; have := Nat.div_le_self d x; generalize d / x = z at *; exact IntWalk.wrap64_in _ (by omega)
      have HZ := Lib.hid hz0
      have HY := Lib.hid hz1
      clear hz0 hz1
      go_region
      go_wp2
      obtain ⟨r0, r1⟩ := two_stores (w := wr) (b := bb) (.int .i64 z0) (.int .i64 z1) c0 c1
      have hB9 := Lib.hid (((hB.setCell (p := ⟨bb, 0, none⟩) (Nat.le_refl _) (.int .i64 z0)).setCell (p := ⟨bb, 1, none⟩) (Nat.le_refl _) (.int .i64 z1)).drew)
      generalize (wr.setCell ⟨bb, 0, none⟩ (.int .i64 z0)).setCell ⟨bb, 1, none⟩ (.int .i64 z1) = W1 at *
      refine bodyPost_ret (v := .agg #[.int .i64 z0, .int .i64 z1]) ?_ rfl ⟨?_, ?_⟩
      · simp [results, Tryd.results40, go_sem, r0, r1]
      · have hx' := HX.out
        subst hx'
        rw [HZ.out, HY.out]
        rfl
      · have hbb := HBB.out
        subst hbb
        exact hB9.out
    · have h0' : 1 ≤ y := by omega
      have hne : ((y : Int) != 0) = true := by simp; omega
      have hm : Hid (Nat.gcd y (x % y) = Nat.gcd n d) := by
        show _ = _
        rw [← HXY.out, Nat.gcd_comm x y, Nat.gcd_rec y x, Nat.gcd_comm]
      have hlt : x % y < y := Nat.mod_lt _ (by omega)
      have hcast : Hid (((x : Int) % (y : Int)) = ((x % y : Nat) : Int)) := by show _ = _; simp
      go_wp2
      go_roundw
      case rel => exact ⟨y, x % y, rfl, by rw [hcast.out], hm.out, by omega, by omega, by first | rfl | trivial⟩
      case measure => simp [intOf]; omega
theorem least_int (n d : Int) (h0 : 0 ≤ n) (hd : 0 < d) (hn : n ≤ 4611686018427387904) (hd2 : d ≤ 4611686018427387904) (v : Value) (hv : partV n.toNat d.toNat = v) (w : World) :
    Calls Tryd.prog 40 #[.int .i64 n, .int .i64 d] w fun e w' => e = .returned v ∧ Below w.heap.size w w' := by
  subst hv
  obtain ⟨n, rfl⟩ := Int.eq_ofNat_of_zero_le h0
  obtain ⟨d, rfl⟩ := Int.eq_ofNat_of_zero_le (Int.le_of_lt hd)
  exact least_any n d (by omega) (by omega) (by omega) w
end Go.Proofs.YthhallnkpbgomaaDoor
