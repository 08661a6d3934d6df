/- The reference of layer 1: numbers. -/
import Derived.Test.YtknpglgpkkhhiaaDoorB1
import Derived.RegionTactic
import Derived.RangeFuncNested
import Derived.RangeFuncBound
import Derived.RangeFuncCalls
import Derived.RangeFuncLeaves
import Derived.RangeFuncBox
import Derived.Shelf.Abstract
import Derived.WalkKit
import Derived.OwnWalkIn
import Derived.TacticsInMore
import Derived.LoopNIn
import Derived.LoopIn
import Derived.Maps.AppendAt
import Derived.Outline
import Derived.Shelf.Small.Wraps
import Derived.Shelf.Slices.Turned
import Derived.Ground.Names2Prog
import Derived.Shelf.Slices.SearchI
import Derived.Ground.SlgfProg
import Derived.Shelf.SlicesE.IndexFunc
import Derived.Test.YtknpglgpkkhhiaaDoorProg
import Derived.IntWalk
import Derived.Deep.SlicePairs
namespace Go.Proofs.YtknpglgpkkhhiaaDoor
set_option linter.unusedSimpArgs false
set_option linter.unusedVariables false
open Go.RowKit Go.Proofs.YtknpglgpkkhhiaaDoor.ML Go.Proofs.YtknpglgpkkhhiaaDoor.Samp

theorem within_any (n lo hi : Int) (r : Bool) (w : World) (hr : inB lo hi [n] = r) :
    Calls Tryd.prog 82 #[.int .i64 n, .int .i64 lo, .int .i64 hi] w fun e w' => e = .returned (.bool r) ∧ w = w' := by
  subst hr
  by_cases h1 : lo ≤ n
  · by_cases h2 : n ≤ hi
    all_goals
      go_enter Tryd.func82, Tryd.ntmps82
      go_wp2
      go_ret
      simp [inB, h1, h2]
  · go_enter Tryd.func82, Tryd.ntmps82
    go_wp2
    go_ret
    simp [inB, h1]
    intro h; omega

theorem chI_div (m i : Int) (hm : 0 ≤ m) (hi : 1 ≤ i) : chI (m + i - 1) (i - 1) * (m + i) / i = chI (m + i) i := by
  obtain ⟨a, rfl⟩ := Int.eq_ofNat_of_zero_le hm
  obtain ⟨j, rfl⟩ : ∃ j : Nat, i = (j + 1 : Nat) := ⟨(i - 1).toNat, by omega⟩
  show chI (((a : Nat) : Int) + ((j + 1 : Nat) : Int) - 1) (((j + 1 : Nat) : Int) - 1) * (((a : Nat) : Int) + ((j + 1 : Nat) : Int)) / ((j + 1 : Nat) : Int) = chI (((a : Nat) : Int) + ((j + 1 : Nat) : Int)) ((j + 1 : Nat) : Int)
  rw [show ((a : Nat) : Int) + ((j + 1 : Nat) : Int) - 1 = ((a + j : Nat) : Int) by omega, show ((j + 1 : Nat) : Int) - 1 = (j : Nat) by omega,
    show ((a : Nat) : Int) + ((j + 1 : Nat) : Int) = ((a + j + 1 : Nat) : Int) by omega, chI_nat, chI_nat]
  have := nCk_step a j
  rw [← this]
  simp

/-- The sum of the ways of 0 .. n - 1 found ones. -/
def fewI (N D o : Int) (n : Nat) : Int := midI N D o (fun _ => 1) n
theorem fewI_succ (N D o : Int) (n : Nat) : fewI N D o (n + 1) = fewI N D o n + waysI N D o n := by simp [fewI, midI]
theorem fewI_bound (N D o : Int) (hN : N ≤ 36) (h0 : 0 ≤ D) (h1 : D ≤ N) (n : Nat) : 0 ≤ fewI N D o n ∧ fewI N D o n ≤ n * 68719476736 := by
  induction n with
  | zero => simp [fewI, midI]
  | succ n ih => have := waysI_bound N D o n hN h0 h1; rw [fewI_succ]; omega
theorem mostI_few (N D o f : Int) (hf : 0 ≤ f) (hfo : f ≤ o) : mostI N D o f = fewI N D o (f + 1).toNat := by
  have key : ∀ n : Nat, midI N D o (oneTo f) n = fewI N D o (min n (f + 1).toNat) := by
    intro n
    induction n with
    | zero => simp [fewI, midI]
    | succ n ih =>
      rw [midI, ih]
      by_cases h : (n : Int) ≤ f
      · rw [show min (n + 1) (f + 1).toNat = n + 1 by omega, show min n (f + 1).toNat = n by omega, fewI_succ]
        simp [oneTo, h]
      · rw [show min (n + 1) (f + 1).toNat = (f + 1).toNat by omega, show min n (f + 1).toNat = (f + 1).toNat by omega]
        simp [oneTo, h]
  rw [mostI, key, show min (o + 1).toNat (f + 1).toNat = (f + 1).toNat by omega]

set_option maxRecDepth 100000 in
set_option maxHeartbeats 2000000 in
theorem least_any (n d : Nat) (hd : 0 < d) (hn : n ≤ 4611686018427387904) (hd2 : d ≤ 4611686018427387904) (w : World) :
    Calls Tryd.prog 64 #[.int .i64 n, .int .i64 d] w fun e w' => e = .returned (partV n d) ∧ Below w.heap.size w w' := by
  have hg : Hid (0 < Nat.gcd n d) := Nat.gcd_pos_of_pos_right n hd
  have hg1 : Nat.gcd n d ≤ d := Nat.gcd_le_right n hd
  go_enter Tryd.func64, Tryd.ntmps64
  go_wp2
  go_loopw [5, 6] (fun a b wr => ∃ x y : Nat, a = .int .i64 x ∧ b = .int .i64 y ∧ Nat.gcd x y = Nat.gcd n d ∧ x ≤ 4611686018427387904 ∧ y ≤ 4611686018427387904 ∧ wr = w.alloc (.cells #[.int .i64 0, .int .i64 0] 51)) (fun _ b _ => (intOf b).toNat)
  case atStart => exact ⟨d, n, rfl, rfl, Nat.gcd_comm d n, hd2, hn, rfl⟩
  case round =>
    obtain ⟨x, y, rfl, rfl, hxy, hx, hy, rfl⟩ := hrel
    have HXY := Lib.hid hxy
    clear hxy
    by_cases h0 : y = 0
    · subst h0
      have hxg : x = Nat.gcd n d := by have := HXY.out; simpa using this
      have hx0 : 1 ≤ x := by have := hg.out; omega
      have HX := Lib.hid hxg
      clear hxg
      have hB : Below w.heap.size w (w.alloc (.cells #[.int .i64 0, .int .i64 0] 51)) := (Below.refl _ w).alloc (Nat.le_refl _) _
      have c0 : (w.alloc (.cells #[.int .i64 0, .int .i64 0] 51)).cell? ⟨w.heap.size, 0, none⟩ = some (.int .i64 0) := by simp [go_sem]
      have c1 : (w.alloc (.cells #[.int .i64 0, .int .i64 0] 51)).cell? ⟨w.heap.size, 1, none⟩ = some (.int .i64 0) := by simp [go_sem]
      have f0 : (w.alloc (.cells #[.int .i64 0, .int .i64 0] 51)).frozen? ⟨w.heap.size, 0, none⟩ = false := by simp [go_sem]
      have f1 : (w.alloc (.cells #[.int .i64 0, .int .i64 0] 51)).frozen? ⟨w.heap.size, 1, none⟩ = false := by simp [go_sem]
      go_wp2
      generalize w.alloc (.cells #[.int .i64 0, .int .i64 0] 51) = wr at *
      generalize hbb : w.heap.size = bb at *
      have HBB := Lib.hid hbb
      clear hbb
      obtain ⟨z0, hz0⟩ : ∃ z : Int, z = ((n / x : Nat) : Int) := ⟨_, rfl⟩
      obtain ⟨z1, hz1⟩ : ∃ z : Int, z = ((d / x : Nat) : Int) := ⟨_, rfl⟩
      have q1 : wrap64 ((n : Int) / (x : Int)) = z0 := by
        rw [hz0, ← Int.natCast_ediv]; have := Nat.div_le_self n x; generalize n / x = z at *; exact IntWalk.wrap64_in _ (by omega)
      have q2 : wrap64 ((d : Int) / (x : Int)) = z1 := by
        rw [hz1, ← Int.natCast_ediv]; have := Nat.div_le_self d x; generalize d / x = z at *; exact IntWalk.wrap64_in _ (by omega)
      have HZ := Lib.hid hz0
      have HY := Lib.hid hz1
      clear hz0 hz1
      go_region
      go_wp2
      obtain ⟨r0, r1⟩ := two_stores (w := wr) (b := bb) (.int .i64 z0) (.int .i64 z1) c0 c1
      have hB9 := Lib.hid (((hB.setCell (p := ⟨bb, 0, none⟩) (Nat.le_refl _) (.int .i64 z0)).setCell (p := ⟨bb, 1, none⟩) (Nat.le_refl _) (.int .i64 z1)).drew)
      generalize (wr.setCell ⟨bb, 0, none⟩ (.int .i64 z0)).setCell ⟨bb, 1, none⟩ (.int .i64 z1) = W1 at *
      refine bodyPost_ret (v := .agg #[.int .i64 z0, .int .i64 z1]) ?_ rfl ⟨?_, ?_⟩
      · simp [results, Tryd.results64, go_sem, r0, r1]
      · have hx' := HX.out
        subst hx'
        rw [HZ.out, HY.out]
        rfl
      · have hbb := HBB.out
        subst hbb
        exact hB9.out
    · have h0' : 1 ≤ y := by omega
      have hne : ((y : Int) != 0) = true := by simp; omega
      have hm : Hid (Nat.gcd y (x % y) = Nat.gcd n d) := by
        show _ = _
        rw [← HXY.out, Nat.gcd_comm x y, Nat.gcd_rec y x, Nat.gcd_comm]
      have hlt : x % y < y := Nat.mod_lt _ (by omega)
      have hcast : Hid (((x : Int) % (y : Int)) = ((x % y : Nat) : Int)) := by show _ = _; simp
      go_wp2
      go_roundw
      case rel => exact ⟨y, x % y, rfl, by rw [hcast.out], hm.out, by omega, by omega, by first | rfl | trivial⟩
      case measure => simp [intOf]; omega
theorem least_int (n d : Int) (h0 : 0 ≤ n) (hd : 0 < d) (hn : n ≤ 4611686018427387904) (hd2 : d ≤ 4611686018427387904) (v : Value) (hv : partV n.toNat d.toNat = v) (w : World) :
    Calls Tryd.prog 64 #[.int .i64 n, .int .i64 d] w fun e w' => e = .returned v ∧ Below w.heap.size w w' := by
  subst hv
  obtain ⟨n, rfl⟩ := Int.eq_ofNat_of_zero_le h0
  obtain ⟨d, rfl⟩ := Int.eq_ofNat_of_zero_le (Int.le_of_lt hd)
  exact least_any n d (by omega) (by omega) (by omega) w
end Go.Proofs.YtknpglgpkkhhiaaDoor

/- The reference of layer 1: cargoes, draws, and what is asked of them. -/
namespace Go.Proofs.YtknpglgpkkhhiaaDoor
set_option linter.unusedSimpArgs false
set_option linter.unusedVariables false
open Go.RowKit Go.Proofs.YtknpglgpkkhhiaaDoor.ML Go.Proofs.YtknpglgpkkhhiaaDoor.Samp

theorem KeptR.of_below {mb rb : Nat} {xs : List Value} {a b : World} (h : Below a.heap.size a b) (hlt : rb < a.heap.size) : KeptR mb rb xs a b :=
  have hb := h.block rb hlt
  ⟨h.os, h.tape, h.output, h.size, fun k hk _ _ => h.block k hk, (Kept.of_below (mb := mb) h).memo, fun o => World.frozen?_of_block (w := a) (a := ⟨rb, o, none⟩) hb,
    fun o hs => by rw [World.cell?_of_block (w := a) (a := ⟨rb, o, none⟩) hb]; exact hs, .inl fun o => World.cell?_of_block (w := a) (a := ⟨rb, o, none⟩) hb⟩
theorem KeptR.store2' {rb : Nat} {x y u v : Value} {w : World} (c0 : w.cell? ⟨rb, 0, none⟩ = some u) (c1 : w.cell? ⟨rb, 1, none⟩ = some v) :
    KeptR rb rb [x, y] w ((w.setCell ⟨rb, 0, none⟩ x).setCell ⟨rb, 1, none⟩ y) ∧
      (((w.setCell ⟨rb, 0, none⟩ x).setCell ⟨rb, 1, none⟩ y).cell? ⟨rb, 0, none⟩ = some x ∧ ((w.setCell ⟨rb, 0, none⟩ x).setCell ⟨rb, 1, none⟩ y).cell? ⟨rb, 1, none⟩ = some y) :=
  have h := KeptR.store2 (mb := rb + 1) (x := x) (y := y) (w := w) (by omega) c0 c1
  have hb : ∀ k, k ≠ rb → ((w.setCell ⟨rb, 0, none⟩ x).setCell ⟨rb, 1, none⟩ y).heap[k]? = w.heap[k]? := fun k hk => by
    rw [Below.heap_setCell _ _ _ _ (by simpa using hk), Below.heap_setCell _ _ _ _ (by simpa using hk)]
  ⟨⟨h.1.os, h.1.tape, h.1.output, h.1.size, fun k _ h1 _ => hb k h1, fun m => absurd rfl (m.ne c0), h.1.frozen, h.1.there, h.1.cells⟩, h.2⟩

theorem cargoB_parts (N lo hi : Int) : cargoB N lo hi = (inB 1 36 [N] && (decide (0 ≤ lo) && (decide (lo ≤ hi) && decide (hi ≤ N)))) := by
  rw [Bool.eq_iff_iff, cargoB_iff]; simp [inB]; omega

end Go.Proofs.YtknpglgpkkhhiaaDoor

/- The reference of layer 1: rules, chances, risks. -/
namespace Go.Proofs.YtknpglgpkkhhiaaDoor
set_option linter.unusedSimpArgs false
set_option linter.unusedVariables false
open Go.RowKit Go.Proofs.YtknpglgpkkhhiaaDoor.ML Go.Proofs.YtknpglgpkkhhiaaDoor.Samp

/-- Whether a chance is valid. -/
def givenB (n d : Int) : Bool := inB 1 1000 [d] && inB 0 d [n]
theorem givenB_iff (n d : Int) : givenB n d = true ↔ 1 ≤ d ∧ d ≤ 1000 ∧ 0 ≤ n ∧ n ≤ d := by simp [givenB, inB]; omega
/-- Whether a double rule is valid. -/
def doubleB (N F A R S T : Int) : Bool := inB 0 N [F] && (inB 0 (N - F) [S] && (inB 0 F [A] && (inB (A + 1) (F + 1) [R] && inB A (R + S) [T])))
theorem doubleB_iff (N F A R S T : Int) : doubleB N F A R S T = true ↔ 0 ≤ F ∧ F ≤ N ∧ 0 ≤ S ∧ S ≤ N - F ∧ 0 ≤ A ∧ A ≤ F ∧ A + 1 ≤ R ∧ R ≤ F + 1 ∧ A ≤ T ∧ T ≤ R + S := by simp [doubleB, inB]; omega

end Go.Proofs.YtknpglgpkkhhiaaDoor

/- Chances that are given: the error of a list of them. -/
namespace Go.Proofs.YtknpglgpkkhhiaaDoor
set_option linter.unusedSimpArgs false
set_option linter.unusedVariables false
open Go.RowKit Go.Proofs.YtknpglgpkkhhiaaDoor.ML Go.Proofs.YtknpglgpkkhhiaaDoor.Samp

def encP (x : Int × Int) : Value := .agg #[.int .i64 x.1, .int .i64 x.2]
def idxP (p : Int × Int → Bool) (xs : List (Int × Int)) : Int := match xs.findIdx? p with | some i => (i : Int) | none => -1

end Go.Proofs.YtknpglgpkkhhiaaDoor

/- Rules: the reference's comparison of lists of fractions. -/
namespace Go.Proofs.YtknpglgpkkhhiaaDoor
set_option linter.unusedSimpArgs false
set_option linter.unusedVariables false
open Go.RowKit Go.Proofs.YtknpglgpkkhhiaaDoor.ML Go.Proofs.YtknpglgpkkhhiaaDoor.Samp

/-- A slice that holds this list of fractions. -/
def PL (xs : List (Int × Int)) (v : Value) (w : World) : Prop := ∃ p cap, v = .slice p xs.length cap ∧ xs.length ≤ maxLen ∧ (xs ≠ [] → ∃ b off, p = some ⟨b, off, none⟩ ∧ ∀ k, (h : k < xs.length) → w.cell? ⟨b, off + k * 2, none⟩ = some (.int .i64 xs[k].1) ∧ w.cell? ⟨b, off + k * 2 + 1, none⟩ = some (.int .i64 xs[k].2))
theorem PL.nil (w : World) : PL [] (.slice none 0 0) w := ⟨none, 0, rfl, by simp, fun h => absurd rfl h⟩
theorem PL.keeps {xs : List (Int × Int)} {v : Value} {w w' : World} (h : PL xs v w) (hB : Below w.heap.size w w') : PL xs v w' :=
  let ⟨p, cap, h1, h2, h3⟩ := h
  ⟨p, cap, h1, h2, fun hx => let ⟨b, off, h4, h5⟩ := h3 hx; ⟨b, off, h4, fun k hk => ⟨keepsB hB (h5 k hk).1, keepsB hB (h5 k hk).2⟩⟩⟩

end Go.Proofs.YtknpglgpkkhhiaaDoor

/- Terms: agreed. -/
namespace Go.Proofs.YtknpglgpkkhhiaaDoor
set_option linter.unusedSimpArgs false
set_option linter.unusedVariables false
open Go.RowKit Go.Proofs.YtknpglgpkkhhiaaDoor.ML Go.Proofs.YtknpglgpkkhhiaaDoor.Samp

/-- Whether terms rise, behind one from f on of p pence. -/
def agreedFrom (f p : Int) : List (Int × Int) → Bool
  | [] => true
  | x :: r => inB (f + 1) 100 [x.1] && (inB p 1000000 [x.2] && agreedFrom x.1 x.2 r)
/-- The error of terms. -/
def agreedE (xs : List (Int × Int)) : Int := if agreedFrom 0 0 xs = false then 14 else unlessV (decide ((xs.length : Int) ≤ 5)) 14

theorem Two.bel {b : Nat} {x y : Value} {w w' : World} (h : Two b x y w) (hB : Free.Bel w w') : Two b x y w' := h.of_block (hB.block b (lt_of_cell h.c0))

end Go.Proofs.YtknpglgpkkhhiaaDoor

/- Double rules: what is summed, and its bounds. No function of the program is walked here. -/
namespace Go.Proofs.YtknpglgpkkhhiaaDoor
set_option linter.unusedSimpArgs false
set_option linter.unusedVariables false
open Go.RowKit Go.Proofs.YtknpglgpkkhhiaaDoor.ML Go.Proofs.YtknpglgpkkhhiaaDoor.Samp

theorem nCk_three : ∀ n a : Nat, a ≤ n → nCk n a * 2 ^ (n - a) ≤ 3 ^ n
  | n, 0, _ => by rw [nCk_zero, Nat.one_mul, Nat.sub_zero]; exact Nat.pow_le_pow_left (by omega) n
  | 0, a + 1, h => by omega
  | n + 1, a + 1, h => by
    have h1 := nCk_three n a (by omega)
    rw [nCk_succ, Nat.add_sub_add_right, Nat.add_mul, Nat.pow_succ]
    by_cases h2 : a + 1 ≤ n
    · have h3 := nCk_three n (a + 1) h2
      have h4 : 2 ^ (n - a) = 2 ^ (n - (a + 1)) * 2 := by rw [← Nat.pow_succ]; congr 1; omega
      have h5 : nCk n (a + 1) * 2 ^ (n - a) = nCk n (a + 1) * 2 ^ (n - (a + 1)) * 2 := by rw [h4, Nat.mul_assoc]
      omega
    · rw [nCk_gt n (a + 1) (by omega)]
      omega
theorem chI_three (N F S : Int) (hN : N ≤ 36) (h0 : 0 ≤ F) (h1 : F ≤ N) : chI N F * chI (N - F) S ≤ 150094635296999121 := by
  obtain ⟨n, rfl⟩ := Int.eq_ofNat_of_zero_le (Int.le_trans h0 h1)
  obtain ⟨a, rfl⟩ := Int.eq_ofNat_of_zero_le h0
  obtain ⟨b0, b1⟩ := chI_pow ((n : Int) - a) S (by omega)
  have e : ((n : Int) - a).toNat = n - a := by omega
  rw [e] at b1
  have h3 := nCk_three n a (by omega)
  have h4 : (3 : Nat) ^ n ≤ 3 ^ 36 := Nat.pow_le_pow_right (by omega) (by omega)
  have h5 : (3 : Nat) ^ 36 = 150094635296999121 := by decide
  have h6 : chI (n : Int) (a : Int) = (nCk n a : Nat) := chI_nat n a
  rw [h6]
  have h7 : ((nCk n a : Nat) : Int) * chI ((n : Int) - a) S ≤ ((nCk n a : Nat) : Int) * ((2 ^ (n - a) : Nat) : Int) := Int.mul_le_mul_of_nonneg_left b1 (by omega)
  have h8 : ((nCk n a : Nat) : Int) * ((2 ^ (n - a) : Nat) : Int) = ((nCk n a * 2 ^ (n - a) : Nat) : Int) := by simp
  omega
theorem chI_ne (n k : Int) (h : chI n k ≠ 0) : k = 0 ∨ (0 ≤ k ∧ k ≤ n) := by
  unfold chI at h
  split at h
  · exact .inl ‹_›
  · split at h
    · exact absurd rfl h
    · exact .inr (by omega)
theorem ways_ne (N D F : Int) (k : Nat) (h0 : 0 ≤ D) (h1 : D ≤ N) (h : waysI N D F k ≠ 0) : (k : Int) ≤ D ∧ (k : Int) ≤ F ∧ F - k ≤ N - D := by
  unfold waysI at h
  have ha : chI D k ≠ 0 := fun e => h (by rw [e, Int.zero_mul])
  have hb : chI (N - D) (F - k) ≠ 0 := fun e => h (by rw [e, Int.mul_zero])
  rcases chI_ne _ _ ha with a | a <;> rcases chI_ne _ _ hb with b | b <;> omega
theorem waysI_cut (N D o : Int) (k : Nat) (h : o < k) : waysI N D o k = 0 := by
  unfold waysI
  rw [chI_out (N - D) (o - k) (by omega) (by omega), Int.mul_zero]
theorem fewI_cut (N D o : Int) : ∀ n : Nat, fewI N D o n = fewI N D o (min n (o + 1).toNat)
  | 0 => by simp
  | n + 1 => by
    rw [fewI_succ, fewI_cut N D o n]
    by_cases h : (n : Int) ≤ o
    · rw [show min (n + 1) (o + 1).toNat = n + 1 by omega, show min n (o + 1).toNat = n by omega, fewI_succ]
    · rw [show min (n + 1) (o + 1).toNat = (o + 1).toNat by omega, show min n (o + 1).toNat = (o + 1).toNat by omega, waysI_cut N D o n (by omega)]
      omega
theorem waysI_natT (N D o k : Nat) (hD : D ≤ N) (hk : k ≤ o) : waysI N D o k = (Samp.ways D (N - D) o k : Nat) := by
  unfold waysI Samp.ways
  rw [if_pos hk, show ((N : Int) - D) = ((N - D : Nat) : Int) by omega, show ((o : Int) - k) = ((o - k : Nat) : Int) by omega, chI_nat, chI_nat]
  simp
theorem fewI_nat (N D o : Nat) (hD : D ≤ N) : ∀ n : Nat, n ≤ o + 1 → fewI N D o n = (sumTo (Samp.ways D (N - D) o) n : Nat)
  | 0, _ => by simp [fewI, midI, sumTo]
  | n + 1, h => by
    rw [fewI_succ, fewI_nat N D o hD n (by omega), waysI_natT N D o n hD (by omega)]
    simp [sumTo]
/-- Together they are all sets. -/
theorem fewI_all (N D o : Int) (h0 : 0 ≤ D) (h1 : D ≤ N) (ho : 0 ≤ o) : fewI N D o (o + 1).toNat = chI N o := by
  obtain ⟨n, rfl⟩ := Int.eq_ofNat_of_zero_le (Int.le_trans h0 h1)
  obtain ⟨d, rfl⟩ := Int.eq_ofNat_of_zero_le h0
  obtain ⟨p, rfl⟩ := Int.eq_ofNat_of_zero_le ho
  have := fewI_nat n d p (by omega) (p + 1) (Nat.le_refl _)
  show fewI (n : Int) (d : Int) (p : Int) _ = chI (n : Int) (p : Int)
  rw [show ((p : Int) + 1).toNat = p + 1 by omega, this, ways_all, chI_nat, show d + (n - d) = n by omega]
theorem waysI_nonneg (N D o f : Int) (h0 : 0 ≤ D) (h1 : D ≤ N) : 0 ≤ waysI N D o f :=
  Int.mul_nonneg (chI_pow D f h0).1 (chI_pow (N - D) (o - f) (by omega)).1
theorem fewI_mono (N D o : Int) (h0 : 0 ≤ D) (h1 : D ≤ N) (m : Nat) : ∀ n : Nat, m ≤ n → fewI N D o m ≤ fewI N D o n
  | 0, h => by obtain rfl : m = 0 := by omega
               exact Int.le_refl _
  | n + 1, h => by
    by_cases e : m = n + 1
    · rw [e]; exact Int.le_refl _
    · have := fewI_mono N D o h0 h1 m n (by omega)
      have := waysI_nonneg N D o n h0 h1
      rw [fewI_succ]; omega
theorem fewI_le (N D o : Int) (h0 : 0 ≤ D) (h1 : D ≤ N) (ho : 0 ≤ o) (n : Nat) : 0 ≤ fewI N D o n ∧ fewI N D o n ≤ chI N o := by
  refine ⟨?_, ?_⟩
  · have := fewI_mono N D o h0 h1 0 n (Nat.zero_le _)
    simpa [fewI, midI] using this
  · rw [fewI_cut, ← fewI_all N D o h0 h1 ho]
    exact fewI_mono N D o h0 h1 _ _ (by omega)

/-- What the second bags add to the sets of the first, if k were found. -/
def restI (N D F A S T : Int) (k : Nat) : Int := if (k : Int) ≤ A then chI (N - F) S else fewI (N - F) (D - k) S (min S (T - k) + 1).toNat
def accI (N D F A S T : Int) : Nat → Int
  | 0 => 0
  | k + 1 => accI N D F A S T k + waysI N D F k * restI N D F A S T k
def againI (N D F A : Int) : Nat → Int
  | 0 => 0
  | k + 1 => againI N D F A k + if (k : Int) ≤ A then 0 else waysI N D F k
theorem restI_bound (N D F A S T : Int) (k : Nat) (h0 : 0 ≤ D) (h1 : D ≤ N) (hF : 0 ≤ F) (hF2 : F ≤ N) (hS : 0 ≤ S) (h : waysI N D F k ≠ 0) : 0 ≤ restI N D F A S T k ∧ restI N D F A S T k ≤ chI (N - F) S := by
  obtain ⟨a, b, c⟩ := ways_ne N D F k h0 h1 h
  unfold restI
  split
  · have := (chI_pow (N - F) S (by omega)).1; omega
  · exact fewI_le (N - F) (D - k) S (by omega) (by omega) hS _
theorem accI_step (N D F A S T : Int) (k : Nat) (h0 : 0 ≤ D) (h1 : D ≤ N) (hF : 0 ≤ F) (hF2 : F ≤ N) (hS : 0 ≤ S) : 0 ≤ waysI N D F k * restI N D F A S T k ∧ waysI N D F k * restI N D F A S T k ≤ waysI N D F k * chI (N - F) S := by
  by_cases h : waysI N D F k = 0
  · rw [h]; simp
  · obtain ⟨a, b⟩ := restI_bound N D F A S T k h0 h1 hF hF2 hS h
    have hw := waysI_nonneg N D F k h0 h1
    exact ⟨Int.mul_nonneg hw a, Int.mul_le_mul_of_nonneg_left b hw⟩
theorem accI_le (N D F A S T : Int) (h0 : 0 ≤ D) (h1 : D ≤ N) (hF : 0 ≤ F) (hF2 : F ≤ N) (hS : 0 ≤ S) : ∀ k : Nat, 0 ≤ accI N D F A S T k ∧ accI N D F A S T k ≤ fewI N D F k * chI (N - F) S
  | 0 => by simp [accI, fewI, midI]
  | k + 1 => by
    obtain ⟨a, b⟩ := accI_le N D F A S T h0 h1 hF hF2 hS k
    obtain ⟨c, d⟩ := accI_step N D F A S T k h0 h1 hF hF2 hS
    rw [accI, fewI_succ, Int.add_mul]
    omega
theorem againI_le (N D F A : Int) (h0 : 0 ≤ D) (h1 : D ≤ N) : ∀ k : Nat, 0 ≤ againI N D F A k ∧ againI N D F A k ≤ fewI N D F k
  | 0 => by simp [againI, fewI, midI]
  | k + 1 => by
    obtain ⟨a, b⟩ := againI_le N D F A h0 h1 k
    have := waysI_nonneg N D F k h0 h1
    rw [againI, fewI_succ]
    split <;> omega
/-- All bounds that the sums want. -/
theorem accI_bound (N D F A S T : Int) (hN : N ≤ 36) (h0 : 0 ≤ D) (h1 : D ≤ N) (hF : 0 ≤ F) (hF2 : F ≤ N) (hS : 0 ≤ S) (k : Nat) :
    0 ≤ accI N D F A S T k ∧ accI N D F A S T k ≤ 150094635296999121 := by
  obtain ⟨a, b⟩ := accI_le N D F A S T h0 h1 hF hF2 hS k
  have h2 := (fewI_le N D F h0 h1 hF k).2
  have h3 := chI_three N F S hN hF hF2
  have h4 : fewI N D F k * chI (N - F) S ≤ chI N F * chI (N - F) S := Int.mul_le_mul_of_nonneg_right h2 (chI_pow (N - F) S (by omega)).1
  omega
theorem againI_bound (N D F A : Int) (hN : N ≤ 36) (h0 : 0 ≤ D) (h1 : D ≤ N) (hF : 0 ≤ F) (k : Nat) : 0 ≤ againI N D F A k ∧ againI N D F A k ≤ 68719476736 := by
  obtain ⟨a, b⟩ := againI_le N D F A h0 h1 k
  have h2 := (fewI_le N D F h0 h1 hF k).2
  have h3 := (chI_bound N F hN).2
  omega
/-- Within a round: one of the second bags' ways more. -/
theorem inner_bound (N D F A S T : Int) (hN : N ≤ 36) (h0 : 0 ≤ D) (h1 : D ≤ N) (hF : 0 ≤ F) (hF2 : F ≤ N) (hS : 0 ≤ S) (k : Nat) (h : waysI N D F k ≠ 0) (m : Nat) :
    0 ≤ accI N D F A S T k + waysI N D F k * fewI (N - F) (D - k) S m ∧ accI N D F A S T k + waysI N D F k * fewI (N - F) (D - k) S m ≤ 150094635296999121 := by
  obtain ⟨a, b⟩ := accI_le N D F A S T h0 h1 hF hF2 hS k
  obtain ⟨x, y, z⟩ := ways_ne N D F k h0 h1 h
  obtain ⟨c, d⟩ := fewI_le (N - F) (D - k) S (by omega) (by omega) hS m
  have hw := waysI_nonneg N D F k h0 h1
  have e1 := Int.mul_nonneg hw c
  have e2 := Int.mul_le_mul_of_nonneg_left d hw
  have e3 : fewI N D F k * chI (N - F) S + waysI N D F k * chI (N - F) S = fewI N D F (k + 1) * chI (N - F) S := by rw [fewI_succ, Int.add_mul]
  have h2 := (fewI_le N D F h0 h1 hF (k + 1)).2
  have h3 := chI_three N F S hN hF hF2
  have h4 : fewI N D F (k + 1) * chI (N - F) S ≤ chI N F * chI (N - F) S := Int.mul_le_mul_of_nonneg_right h2 (chI_pow (N - F) S (by omega)).1
  omega
theorem accI_skip (N D F A S T : Int) (k : Nat) (h : waysI N D F k = 0) : accI N D F A S T (k + 1) = accI N D F A S T k ∧ againI N D F A (k + 1) = againI N D F A k := by
  simp [accI, againI, h]
/-- What a double rule does: the first chance. -/
def twiceV1 (N D F A R S T : Int) : Value := partV (accI N D F A S T R.toNat).toNat (chI N F * chI (N - F) S).toNat
/-- .. and how many it opens in the middle. -/
def twiceV2 (N D F A R S : Int) : Value := partV (F * chI N F + S * againI N D F A R.toNat).toNat (chI N F).toNat
end Go.Proofs.YtknpglgpkkhhiaaDoor

/- A range over a function whose iterator turns memory of its own in a way R that the loop's body does not mind. No function of the program here. -/
namespace Go.Proofs.YtknpglgpkkhhiaaDoor.RR
open Go Go.RowKit

variable {F : Fence} {n : Nat} {P : Program}

/-- An invariant that does not mind R. -/
def Abide {β : Type} (R : World → World → Prop) (J : β → World → Prop) : Prop := ∀ s A B, J s A → R A B → J s B

/-- An iterator that yields the list L, or a part of it where a round has said no. -/
def SeqL {α : Type} (F : Fence) (n : Nat) (P : Program) (g : Nat) (lb : Array Value) (encs : α → Array Value) (R Kp : World → World → Prop) (L : List α) (w : World) : Prop :=
  ∀ (l : Nat) (J Jx : List α → World → Prop) (W : World), R w W → Abide R J → Abide R Jx →
    (∀ pre x W1, pre ++ [x] <+: L → J pre W1 → YieldAt F (n - 1) P l (encs x) W1 fun e W' =>
      (e = .returned (.bool true) ∧ J (pre ++ [x]) W' ∧ Kp W1 W') ∨ (e = .returned (.bool false) ∧ Jx (pre ++ [x]) W')) →
    J [] W →
    CallsIn F n P g (#[.func (.yield l) #[] #[]] ++ lb) W fun e W' => (∃ v, e = .returned v) ∧ (J L W' ∨ (∃ pre, pre <+: L ∧ Jx pre W'))

theorem wpIn_rangeFunc_R {α : Type} {g : Operand} {ps : Array Tmp} {assign body : Code} {Q : Exit → Act → World → Prop} {a : Act} {w : World}
    (hro : F.round = none) (h1 : 1 ≤ n) {gf : Nat} {lb : Array Value} (hg : a.eval g = .func (.func gf) #[] lb) (hFg : F.fn gf) (eg : ∀ args w, (callFunc gf args).run P w = .ok (.enter gf args) w)
    {encs : α → Array Value} {R Kp : World → World → Prop} {L : List α} (hseq : SeqL F (n - 1) P gf lb encs R Kp L w)
    (hRa : ∀ A o, w.heap.size ≤ A.heap.size → R w A → R w (A.alloc o)) (hRr : R w w) (hRb : ∀ A B k o, R A B → w.heap.size ≤ k → A.heap[k]? = some o → B.heap[k]? = some o)
    (hKt : ∀ {A B C : World}, Kp A B → Kp B C → Kp A C) (hKb : ∀ (W : World) (l : Nat) (o o' : Obj), w.heap.size ≤ l → W.heap[l]? = some o → o.isCells = false → o.isWalk = false → Kp W (W.putObj l o')) (hps : ∀ x, (encs x).size = ps.size)
    (I : List α → World → Prop) (Ix : Code → List α → World → Prop) (hI : OwnFrom w.heap.size I) (hIx : ∀ c, OwnFrom w.heap.size (Ix c)) (hIR : Abide R I) (hIxR : ∀ c, Abide R (Ix c)) (h0 : I [] w) (a₁ : α → Act)
    (hassign : ∀ (l : Nat) (x : α) (W : World) (K : Act → World → Prop), K (a₁ x) W →
      assign.wpIn (F.inRound l) (n - 1 - 1) P (Exit.then K (fun _ _ _ => False)) { tmps := (ps.zip (encs x)).foldl (fun t (p, v) => t.setIfInBounds p v) a.tmps, defers := [] } W)
    (hbody : ∀ (l : Nat) (pre : List α) (x : α) (W : World), I pre W → pre ++ [x] <+: L → body.wpIn (F.inRound l) (n - 1 - 1) P (ownPostG w.heap.size Kp I Ix (pre ++ [x]) W) (a₁ x) W)
    (hdone : ∀ (D : Nat) (W : World), w.heap.size ≤ D → I L W → W.heap[D]? = some (.deferred (some [])) → Q .normal { a with defers := { target := .collected D, args := #[] } :: a.defers } W)
    (hstop : ∀ (D : Nat) (c : Code) (pre : List α) (W : World), w.heap.size ≤ D → pre <+: L → Ix c pre W → W.heap[D]? = some (.deferred (some [])) → c.wpIn F n P Q { a with defers := { target := .collected D, args := #[] } :: a.defers } W) :
    (Code.rangeFunc g ps assign body).wpIn F n P Q a w := by
  refine wpIn_rangeFunc ?_
  intro fn hfn
  rw [hro]
  obtain ⟨rec, hrec⟩ : ∃ rec : LoopState → Option Code → Loop, rec = fun st pe => { state := st, pending := pe, fn, tmps := a.tmps, params := ps, assign, body, defers := w.heap.size } := ⟨_, rfl⟩
  obtain ⟨W1, hW1⟩ : ∃ W1, (w.alloc (.deferred (some []))).alloc (.loop (rec .ready none)) = W1 := ⟨_, rfl⟩
  have hL1 : W1.heap[w.heap.size + 1]? = some (.loop (rec .ready none)) := by
    rw [← hW1]; have := World.alloc_heap_new (w.alloc (.deferred (some []))) (.loop (rec .ready none)); rwa [World.size_alloc] at this
  have hK1 : W1.heap[w.heap.size]? = some (.deferred (some [])) := by
    rw [← hW1]; exact (Below.heap_alloc _ _ _ (by simp)).trans (World.alloc_heap_new w _)
  have hI1 : I [] W1 := by rw [← hW1]; exact hI.alloc _ (hI.alloc _ h0)
  have hb1 : R w W1 := by
    rw [← hW1]; exact hRa _ _ (by simp) (hRa _ _ (Nat.le_refl _) hRr)
  refine ⟨w.heap.size + 1, [{ target := .collected w.heap.size, args := #[] }], W1, { target := .fn (.func gf) lb, args := #[.func (.yield (w.heap.size + 1)) #[] #[]] }, W1, gf,
    #[.func (.yield (w.heap.size + 1)) #[] #[]] ++ lb, W1, ?_, ?_, ?_, ?_, fun _ => h1, ?_⟩
  · rw [← hW1, hrec]; exact run_enterLoop_outer _ _ _ _ _
  · simp only [resolve, hg]
    simp [go_sem]
  · intro f' hf'; simp [Target.leads] at hf'; subst hf'; exact hFg
  · simp [invoke, go_sem, eg]
  · refine (hseq (w.heap.size + 1)
      (fun pre W => I pre W ∧ W.heap[w.heap.size + 1]? = some (.loop (rec .ready none)) ∧ W.heap[w.heap.size]? = some (.deferred (some [])))
      (fun pre W => ∃ c, Ix c pre W ∧ W.heap[w.heap.size + 1]? = some (.loop (rec .done (some c))) ∧ W.heap[w.heap.size]? = some (.deferred (some [])))
      W1 hb1
      (fun s A B hs hr => ⟨hIR s A B hs.1 hr, hRb A B _ _ hr (by omega) hs.2.1, hRb A B _ _ hr (Nat.le_refl _) hs.2.2⟩)
      (fun s A B hs hr => by
        obtain ⟨c, hc, hl, hk⟩ := hs
        exact ⟨c, hIxR c s A B hc hr, hRb A B _ _ hr (by omega) hl, hRb A B _ _ hr (Nat.le_refl _) hk⟩)
      ?_ ⟨hI1, hL1, hK1⟩).mono ?_
    · -- one round
      rintro pre x W hlen ⟨hi, hl, hk⟩
      have hlt : w.heap.size + 1 < W.heap.size := (Array.getElem?_eq_some_iff.1 hl).1
      have hy := run_yield (P := P) (args := encs x) hl (by rw [hrec]; exact hps x)
      rw [hrec] at hy
      refine ⟨fn, _, assign, body, hy, roundIn_of_wpIn hfn (hassign _ x W _ ⟨_, run_beginRound hl (by rw [hrec]), ?_⟩)⟩
      have hl2 : (W.putObj (w.heap.size + 1) (.loop { rec .ready none with state := .busy })).heap[w.heap.size + 1]? = some (.loop { rec .ready none with state := .busy }) := World.putObj_heap_same hlt
      have hk2 : (W.putObj (w.heap.size + 1) (.loop { rec .ready none with state := .busy })).heap[w.heap.size]? = some (.deferred (some [])) := (World.putObj_heap_other (by omega)).trans hk
      have hw2 : Kp W (W.putObj (w.heap.size + 1) (.loop { rec .ready none with state := .busy })) := hKb _ _ _ _ (by omega) hl rfl rfl
      refine wpIn_mono (hbody _ pre x _ (hI.putObj _ hi (by omega) hl rfl) hlen) ?_
      have fin : ∀ (jump : Option Code) (W3 : World), KeepsFrom w.heap.size (W.putObj (w.heap.size + 1) (.loop { rec .ready none with state := .busy })) W3 →
          (Instr.endRound (w.heap.size + 1) jump).run P W3 = .ok (.bool jump.isNone) (W3.putObj (w.heap.size + 1) (.loop (rec (if jump.isNone then .ready else .done) jump))) ∧
          W3.heap[w.heap.size + 1]? = some (.loop { rec .ready none with state := .busy }) ∧
          (W3.putObj (w.heap.size + 1) (.loop (rec (if jump.isNone then .ready else .done) jump))).heap[w.heap.size + 1]? = some (.loop (rec (if jump.isNone then .ready else .done) jump)) ∧
          (W3.putObj (w.heap.size + 1) (.loop (rec (if jump.isNone then .ready else .done) jump))).heap[w.heap.size]? = some (.deferred (some [])) := fun jump W3 hk3 => by
        have hl3 := hk3.same _ _ (by omega) hl2 rfl
        have := run_endRound (P := P) jump hl3
        rw [hrec] at this ⊢
        exact ⟨this, by rw [hrec] at hl3; exact hl3, World.putObj_heap_same (Array.getElem?_eq_some_iff.1 hl3).1, (World.putObj_heap_other (by omega)).trans (hk3.same _ _ (Nat.le_refl _) hk2 rfl)⟩
      rintro e a3 W3 hp
      cases e with
      | normal =>
        obtain ⟨hk3, hkp3, hi3⟩ := hp
        obtain ⟨hr, hl3, hl4, hk4⟩ := fin none W3 hk3
        exact ⟨_, _, hr, .inl ⟨rfl, ⟨hI.putObj _ hi3 (by omega) hl3 rfl, hl4, hk4⟩, hKt (hKt hw2 hkp3) (hKb _ _ _ _ (by omega) hl3 rfl rfl)⟩⟩
      | ret =>
        obtain ⟨hk3, hi3⟩ := hp
        obtain ⟨hr, hl3, hl4, hk4⟩ := fin (some .ret) W3 hk3
        exact ⟨_, _, hr, .inr ⟨rfl, .ret, (hIx _).putObj _ hi3 (by omega) hl3 rfl, hl4, hk4⟩⟩
      | exit id =>
        obtain ⟨hk3, hi3⟩ := hp
        obtain ⟨hr, hl3, hl4, hk4⟩ := fin (some (.exit id)) W3 hk3
        exact ⟨_, _, hr, .inr ⟨rfl, .exit id, (hIx _).putObj _ hi3 (by omega) hl3 rfl, hl4, hk4⟩⟩
      | goto t =>
        obtain ⟨hk3, hi3⟩ := hp
        obtain ⟨hr, hl3, hl4, hk4⟩ := fin (some (.goto t)) W3 hk3
        exact ⟨_, _, hr, .inr ⟨rfl, .goto t, (hIx _).putObj _ hi3 (by omega) hl3 rfl, hl4, hk4⟩⟩
      | panic ch => exact hp.elim
      | outgrown => exact hp.elim
    · -- behind the iterator
      rintro e W2 ⟨⟨v, rfl⟩, (⟨hi, hl, hk⟩ | ⟨pre, hSp, c, hi, hl, hk⟩)⟩
      · exact ⟨none, _, by have := run_endLoop (P := P) hl (by rw [hrec]; simp); rw [hrec] at this; exact this, hdone _ _ (Nat.le_refl _) (hI.putObj _ hi (by omega) hl rfl) ((World.putObj_heap_other (by omega)).trans hk)⟩
      · exact ⟨some c, _, by have := run_endLoop (P := P) hl (by rw [hrec]; simp); rw [hrec] at this; exact this, hstop _ c pre _ (Nat.le_refl _) hSp ((hIx c).putObj _ hi (by omega) hl rfl) ((World.putObj_heap_other (by omega)).trans hk)⟩
/-- The same where the loop variable lies in a block of its own. -/
theorem wpIn_rangeFunc_RH {α : Type} {g : Operand} {ps : Array Tmp} {assign body : Code} {Q : Exit → Act → World → Prop} {a : Act} {w : World}
    (hro : F.round = none) (h1 : 1 ≤ n) {gf : Nat} {lb : Array Value} (hg : a.eval g = .func (.func gf) #[] lb) (hFg : F.fn gf) (eg : ∀ args w, (callFunc gf args).run P w = .ok (.enter gf args) w)
    {encs : α → Array Value} {R Kp : World → World → Prop} {L : List α} (hseq : SeqL F (n - 1) P gf lb encs R Kp L w)
    (hRa : ∀ A o, w.heap.size ≤ A.heap.size → R w A → R w (A.alloc o)) (hRr : R w w) (hRb : ∀ A B k o, R A B → w.heap.size ≤ k → A.heap[k]? = some o → B.heap[k]? = some o)
    (hKt : ∀ {A B C : World}, Kp A B → Kp B C → Kp A C) (hKb : ∀ (W : World) (l : Nat) (o o' : Obj), w.heap.size ≤ l → W.heap[l]? = some o → o.isCells = false → o.isWalk = false → Kp W (W.putObj l o')) (hps : ∀ x, (encs x).size = ps.size)
    (I : List α → World → Prop) (Ix : Code → List α → World → Prop) (hI : OwnFrom w.heap.size I) (hIx : ∀ c, OwnFrom w.heap.size (Ix c)) (hIR : Abide R I) (hIxR : ∀ c, Abide R (Ix c)) (h0 : I [] w) (Ax : α → Act → World → Prop) (hAx : ∀ x a', OwnFrom w.heap.size (fun (_ : Unit) W => Ax x a' W))
    (hassign : ∀ (l : Nat) (pre : List α) (x : α) (W : World) (K : Act → World → Prop), I pre W → pre ++ [x] <+: L → (∀ a' W', KeepsFrom w.heap.size W W' → Kp W W' → I pre W' → Ax x a' W' → K a' W') →
      assign.wpIn (F.inRound l) (n - 1 - 1) P (Exit.then K (fun _ _ _ => False)) { tmps := (ps.zip (encs x)).foldl (fun t (p, v) => t.setIfInBounds p v) a.tmps, defers := [] } W)
    (hbody : ∀ (l : Nat) (pre : List α) (x : α) (a' : Act) (W : World), I pre W → Ax x a' W → pre ++ [x] <+: L → body.wpIn (F.inRound l) (n - 1 - 1) P (ownPostG w.heap.size Kp I Ix (pre ++ [x]) W) a' W)
    (hdone : ∀ (D : Nat) (W : World), w.heap.size ≤ D → I L W → W.heap[D]? = some (.deferred (some [])) → Q .normal { a with defers := { target := .collected D, args := #[] } :: a.defers } W)
    (hstop : ∀ (D : Nat) (c : Code) (pre : List α) (W : World), w.heap.size ≤ D → pre <+: L → Ix c pre W → W.heap[D]? = some (.deferred (some [])) → c.wpIn F n P Q { a with defers := { target := .collected D, args := #[] } :: a.defers } W) :
    (Code.rangeFunc g ps assign body).wpIn F n P Q a w := by
  refine wpIn_rangeFunc ?_
  intro fn hfn
  rw [hro]
  obtain ⟨rec, hrec⟩ : ∃ rec : LoopState → Option Code → Loop, rec = fun st pe => { state := st, pending := pe, fn, tmps := a.tmps, params := ps, assign, body, defers := w.heap.size } := ⟨_, rfl⟩
  obtain ⟨W1, hW1⟩ : ∃ W1, (w.alloc (.deferred (some []))).alloc (.loop (rec .ready none)) = W1 := ⟨_, rfl⟩
  have hL1 : W1.heap[w.heap.size + 1]? = some (.loop (rec .ready none)) := by
    rw [← hW1]; have := World.alloc_heap_new (w.alloc (.deferred (some []))) (.loop (rec .ready none)); rwa [World.size_alloc] at this
  have hK1 : W1.heap[w.heap.size]? = some (.deferred (some [])) := by
    rw [← hW1]; exact (Below.heap_alloc _ _ _ (by simp)).trans (World.alloc_heap_new w _)
  have hI1 : I [] W1 := by rw [← hW1]; exact hI.alloc _ (hI.alloc _ h0)
  have hb1 : R w W1 := by
    rw [← hW1]; exact hRa _ _ (by simp) (hRa _ _ (Nat.le_refl _) hRr)
  refine ⟨w.heap.size + 1, [{ target := .collected w.heap.size, args := #[] }], W1, { target := .fn (.func gf) lb, args := #[.func (.yield (w.heap.size + 1)) #[] #[]] }, W1, gf,
    #[.func (.yield (w.heap.size + 1)) #[] #[]] ++ lb, W1, ?_, ?_, ?_, ?_, fun _ => h1, ?_⟩
  · rw [← hW1, hrec]; exact run_enterLoop_outer _ _ _ _ _
  · simp only [resolve, hg]
    simp [go_sem]
  · intro f' hf'; simp [Target.leads] at hf'; subst hf'; exact hFg
  · simp [invoke, go_sem, eg]
  · refine (hseq (w.heap.size + 1)
      (fun pre W => I pre W ∧ W.heap[w.heap.size + 1]? = some (.loop (rec .ready none)) ∧ W.heap[w.heap.size]? = some (.deferred (some [])))
      (fun pre W => ∃ c, Ix c pre W ∧ W.heap[w.heap.size + 1]? = some (.loop (rec .done (some c))) ∧ W.heap[w.heap.size]? = some (.deferred (some [])))
      W1 hb1
      (fun s A B hs hr => ⟨hIR s A B hs.1 hr, hRb A B _ _ hr (by omega) hs.2.1, hRb A B _ _ hr (Nat.le_refl _) hs.2.2⟩)
      (fun s A B hs hr => by
        obtain ⟨c, hc, hl, hk⟩ := hs
        exact ⟨c, hIxR c s A B hc hr, hRb A B _ _ hr (by omega) hl, hRb A B _ _ hr (Nat.le_refl _) hk⟩)
      ?_ ⟨hI1, hL1, hK1⟩).mono ?_
    · -- one round
      rintro pre x W hlen ⟨hi, hl, hk⟩
      have hlt : w.heap.size + 1 < W.heap.size := (Array.getElem?_eq_some_iff.1 hl).1
      have hy := run_yield (P := P) (args := encs x) hl (by rw [hrec]; exact hps x)
      rw [hrec] at hy
      refine ⟨fn, _, assign, body, hy, roundIn_of_wpIn hfn (hassign _ pre x W _ hi hlen ?_)⟩
      clear hy
      intro a' Wa hkfa hkpa hia hax
      replace hl := hkfa.same _ _ (by omega) hl rfl
      replace hk := hkfa.same _ _ (Nat.le_refl _) hk rfl
      replace hlt : w.heap.size + 1 < Wa.heap.size := (Array.getElem?_eq_some_iff.1 hl).1
      replace hi := hia
      clear hia
      revert hkpa hkfa
      generalize W = Wb
      intro hkfa hkpa
      obtain ⟨W, rfl⟩ : ∃ W, W = Wa := ⟨_, rfl⟩
      refine ⟨_, run_beginRound hl (by rw [hrec]), ?_⟩
      have hl2 : (W.putObj (w.heap.size + 1) (.loop { rec .ready none with state := .busy })).heap[w.heap.size + 1]? = some (.loop { rec .ready none with state := .busy }) := World.putObj_heap_same hlt
      have hk2 : (W.putObj (w.heap.size + 1) (.loop { rec .ready none with state := .busy })).heap[w.heap.size]? = some (.deferred (some [])) := (World.putObj_heap_other (by omega)).trans hk
      have hw2 : Kp W (W.putObj (w.heap.size + 1) (.loop { rec .ready none with state := .busy })) := hKb _ _ _ _ (by omega) hl rfl rfl
      refine wpIn_mono (hbody _ pre x a' _ (hI.putObj _ hi (by omega) hl rfl) ((hAx x a').putObj (s := ()) _ hax (by omega) hl rfl) hlen) ?_
      have fin : ∀ (jump : Option Code) (W3 : World), KeepsFrom w.heap.size (W.putObj (w.heap.size + 1) (.loop { rec .ready none with state := .busy })) W3 →
          (Instr.endRound (w.heap.size + 1) jump).run P W3 = .ok (.bool jump.isNone) (W3.putObj (w.heap.size + 1) (.loop (rec (if jump.isNone then .ready else .done) jump))) ∧
          W3.heap[w.heap.size + 1]? = some (.loop { rec .ready none with state := .busy }) ∧
          (W3.putObj (w.heap.size + 1) (.loop (rec (if jump.isNone then .ready else .done) jump))).heap[w.heap.size + 1]? = some (.loop (rec (if jump.isNone then .ready else .done) jump)) ∧
          (W3.putObj (w.heap.size + 1) (.loop (rec (if jump.isNone then .ready else .done) jump))).heap[w.heap.size]? = some (.deferred (some [])) := fun jump W3 hk3 => by
        have hl3 := hk3.same _ _ (by omega) hl2 rfl
        have := run_endRound (P := P) jump hl3
        rw [hrec] at this ⊢
        exact ⟨this, by rw [hrec] at hl3; exact hl3, World.putObj_heap_same (Array.getElem?_eq_some_iff.1 hl3).1, (World.putObj_heap_other (by omega)).trans (hk3.same _ _ (Nat.le_refl _) hk2 rfl)⟩
      rintro e a3 W3 hp
      cases e with
      | normal =>
        obtain ⟨hk3, hkp3, hi3⟩ := hp
        obtain ⟨hr, hl3, hl4, hk4⟩ := fin none W3 hk3
        exact ⟨_, _, hr, .inl ⟨rfl, ⟨hI.putObj _ hi3 (by omega) hl3 rfl, hl4, hk4⟩, hKt hkpa (hKt (hKt hw2 hkp3) (hKb _ _ _ _ (by omega) hl3 rfl rfl))⟩⟩
      | ret =>
        obtain ⟨hk3, hi3⟩ := hp
        obtain ⟨hr, hl3, hl4, hk4⟩ := fin (some .ret) W3 hk3
        exact ⟨_, _, hr, .inr ⟨rfl, .ret, (hIx _).putObj _ hi3 (by omega) hl3 rfl, hl4, hk4⟩⟩
      | exit id =>
        obtain ⟨hk3, hi3⟩ := hp
        obtain ⟨hr, hl3, hl4, hk4⟩ := fin (some (.exit id)) W3 hk3
        exact ⟨_, _, hr, .inr ⟨rfl, .exit id, (hIx _).putObj _ hi3 (by omega) hl3 rfl, hl4, hk4⟩⟩
      | goto t =>
        obtain ⟨hk3, hi3⟩ := hp
        obtain ⟨hr, hl3, hl4, hk4⟩ := fin (some (.goto t)) W3 hk3
        exact ⟨_, _, hr, .inr ⟨rfl, .goto t, (hIx _).putObj _ hi3 (by omega) hl3 rfl, hl4, hk4⟩⟩
      | panic ch => exact hp.elim
      | outgrown => exact hp.elim
    · -- behind the iterator
      rintro e W2 ⟨⟨v, rfl⟩, (⟨hi, hl, hk⟩ | ⟨pre, hSp, c, hi, hl, hk⟩)⟩
      · exact ⟨none, _, by have := run_endLoop (P := P) hl (by rw [hrec]; simp); rw [hrec] at this; exact this, hdone _ _ (Nat.le_refl _) (hI.putObj _ hi (by omega) hl rfl) ((World.putObj_heap_other (by omega)).trans hk)⟩
      · exact ⟨some c, _, by have := run_endLoop (P := P) hl (by rw [hrec]; simp); rw [hrec] at this; exact this, hstop _ c pre _ (Nat.le_refl _) hSp ((hIx c).putObj _ hi (by omega) hl rfl) ((World.putObj_heap_other (by omega)).trans hk)⟩
end Go.Proofs.YtknpglgpkkhhiaaDoor.RR

/- The numbers of dirty bags that can be: the iterator. -/
namespace Go.Proofs.YtknpglgpkkhhiaaDoor
set_option linter.unusedSimpArgs false
set_option linter.unusedVariables false
open Go.RowKit Go.Shelf RR
attribute [local go_sem] Oper.semAt_some

/-- Of the first k numbers from lo on those that can be. -/
def ableK (N lo o f : Int) : Nat → List Int
  | 0 => []
  | k + 1 => if 0 < waysI N (lo + k) o f then ableK N lo o f k ++ [lo + k] else ableK N lo o f k
theorem ableK_prefix (N lo o f : Int) {j : Nat} : ∀ {k : Nat}, j ≤ k → ableK N lo o f j <+: ableK N lo o f k
  | 0, h => by obtain rfl : j = 0 := by omega
               exact List.prefix_refl _
  | k + 1, h => by
    by_cases e : j = k + 1
    · rw [e]; exact List.prefix_refl _
    · refine (ableK_prefix N lo o f (j := j) (k := k) (by omega)).trans ?_
      rw [ableK]
      split
      · exact List.prefix_append _ _
      · exact List.prefix_refl _
theorem KeptB.cell {s0 mb : Nat} {w w' : World} (h : KeptB s0 mb w w') {p : Addr} {v : Value} (hv : w.cell? p = some v) (h1 : p.block < s0) (h2 : p.block ≠ mb) : w'.cell? p = some v :=
  (World.cell?_of_block (w := w) (h.block p.block h1 h2)).trans hv
end Go.Proofs.YtknpglgpkkhhiaaDoor

/- The numbers of dirty bags that can be, collected. -/
namespace Go.Proofs.YtknpglgpkkhhiaaDoor
set_option linter.unusedSimpArgs false
set_option linter.unusedVariables false
open Go.RowKit Go.Shelf RR
attribute [local go_sem] Oper.semAt_some

theorem ableK_length (N lo o f : Int) : ∀ k : Nat, (ableK N lo o f k).length ≤ k
  | 0 => Nat.le_refl _
  | k + 1 => by
    have := ableK_length N lo o f k
    rw [ableK]
    split
    · simp; omega
    · omega
section
variable {mb s0 : Nat} {w W W' : World}
theorem Kept.onBelow (h : Kept mb w W) (hB : Below w.heap.size W W') (hm : mb < w.heap.size) : Kept mb w W' :=
  ⟨hB.os.trans h.os, hB.tape.trans h.tape, hB.output.trans h.output, Nat.le_trans h.size hB.size, fun k hk hne => (hB.block k hk).trans (h.block k hk hne),
    fun m => by obtain ⟨l, hl, hv⟩ := h.memo m; exact ⟨l, hl.of_block (hB.block mb hm), hv⟩⟩
theorem Below.putNew {s D : Nat} (o : Obj) (hD : s ≤ D) : Below s W (W.putObj D o) :=
  ⟨rfl, rfl, rfl, by simp, fun k hk => World.putObj_heap_other (by omega)⟩
theorem KeptB.of_below (h : Below s0 W W') (hm : mb < s0) : KeptB s0 mb W W' :=
  ⟨h.os, h.tape, h.output, h.size, fun k hk _ => h.block k hk, fun ⟨l, hl, hv⟩ => ⟨l, hl.of_block (h.block mb hm), hv⟩⟩
theorem Below.of_grown {s : Nat} {row : Option Nat} (h : W.grownBy W' row) (hs : s ≤ W.heap.size) (hr : ∀ r, row = some r → s ≤ r) : Below s W W' :=
  (Below.refl _ _).grown h hs hr
end
theorem T.infoInt : (Tryd.prog.info? 3).map (fun i => (i.zero, i.size, i.bytes)) = some (some (.int .i64 0), 1, 8) := by kernel_rfl

end Go.Proofs.YtknpglgpkkhhiaaDoor

/- slices.Backward at terms: the iterator; what terms take off. -/
namespace Go.Proofs.YtknpglgpkkhhiaaDoor
set_option linter.unusedSimpArgs false
set_option linter.unusedVariables false
open Go.RowKit Go.Shelf
attribute [local go_sem] Oper.semAt_some

/-- A list backward, each with its index. -/
def revT (xs : List (Int × Int)) : Nat → List (Int × Int × Int)
  | 0 => []
  | k + 1 => revT xs k ++ [(((xs.length - (k + 1) : Nat) : Int), (xs.getD (xs.length - (k + 1)) (0, 0)).1, (xs.getD (xs.length - (k + 1)) (0, 0)).2)]
theorem revT_prefix (xs : List (Int × Int)) {j : Nat} : ∀ {k : Nat}, j ≤ k → revT xs j <+: revT xs k
  | 0, h => by obtain rfl : j = 0 := by omega
               exact List.prefix_refl _
  | k + 1, h => by
    by_cases e : j = k + 1
    · rw [e]; exact List.prefix_refl _
    · exact (revT_prefix xs (j := j) (k := k) (by omega)).trans (List.prefix_append _ _)
theorem revT_length (xs : List (Int × Int)) : ∀ k, (revT xs k).length = k
  | 0 => rfl
  | k + 1 => by simp [revT, revT_length xs k]
abbrev encT (x : Int × Int × Int) : Array Value := #[.int .i64 x.1, .agg #[.int .i64 x.2.1, .int .i64 x.2.2]]

end Go.Proofs.YtknpglgpkkhhiaaDoor

/- known: a cargo at work, and the numbers that can be. -/
namespace Go.Proofs.YtknpglgpkkhhiaaDoor
set_option linter.unusedSimpArgs false
set_option linter.unusedVariables false
open Go.RowKit Go.Proofs.YtknpglgpkkhhiaaDoor.ML Go.Proofs.YtknpglgpkkhhiaaDoor.Samp

def ableL (N lo hi o f : Int) : List Int := ableK N lo o f (hi - lo + 1).toNat
/-- The numbers have been collected. -/
def Collected (mb : Nat) (L : List Int) (w : World) (e : Ending) (w' : World) : Prop := ∃ v, e = .returned v ∧ w'.ownsRow w.heap.size 3 1 v L.length (L.map (Value.int .i64)) ∧ Kept mb w w'
end Go.Proofs.YtknpglgpkkhhiaaDoor

/- slices.Backward at numbers: the iterator, where the loop's body may turn the memo. -/
namespace Go.Proofs.YtknpglgpkkhhiaaDoor
set_option linter.unusedSimpArgs false
set_option linter.unusedVariables false
open Go.RowKit Go.Shelf
attribute [local go_sem] Oper.semAt_some

/-- A list backward, each with its index. -/
def revI (xs : List Int) : Nat → List (Int × Int)
  | 0 => []
  | k + 1 => revI xs k ++ [(((xs.length - (k + 1) : Nat) : Int), xs.getD (xs.length - (k + 1)) 0)]
theorem revI_prefix (xs : List Int) {j : Nat} : ∀ {k : Nat}, j ≤ k → revI xs j <+: revI xs k
  | 0, h => by obtain rfl : j = 0 := by omega
               exact List.prefix_refl _
  | k + 1, h => by
    by_cases e : j = k + 1
    · rw [e]; exact List.prefix_refl _
    · exact (revI_prefix xs (j := j) (k := k) (by omega)).trans (List.prefix_append _ _)
theorem revI_mem (xs : List Int) : ∀ k, k ≤ xs.length → ∀ x ∈ revI xs k, x.2 ∈ xs
  | 0, _, x, h => by simp [revI] at h
  | k + 1, hk, x, h => by
    rcases List.mem_append.1 h with h | h
    · exact revI_mem xs k (by omega) x h
    · simp at h
      subst h
      have : xs.length - (k + 1) < xs.length := by omega
      simp only [List.getD_eq_getElem?_getD, List.getElem?_eq_getElem this, Option.getD_some]
      exact List.getElem_mem this
abbrev encI2 (x : Int × Int) : Array Value := #[.int .i64 x.1, .int .i64 x.2]

end Go.Proofs.YtknpglgpkkhhiaaDoor

/-
  DERIVED: THE SHELF's CONTRACTS AT THIS DUMP, IN PLAIN WORDS (tools/lay-plain.mjs out of 'TrydShelf.lean', which tools/lay-shelf.mjs wrote): THE SAME DECLARATIONS UNDER THE SAME NAMES: 'import', 'namespace', 'open', 'def', 'theorem' AND NOTHING ELSE: no command of the shelf's: FOR A HAND-IN. Each laying: the table of numbers ('.._ren') and one theorem, a field a fact of the dump's own or the kernel's comparison; each contract: ONE APPLICATION.
-/
namespace Go.Proofs
open Go.Shelf
def Tryd.lays215_ren : Go.Shelf.Ren := ⟨fun | 215 => 104 | n => n, fun | 3 => 3 | 4 => 4 | n => n, fun | n => n⟩
theorem Tryd.lays215 : Go.Proofs.Lays.n215 Tryd.prog Tryd.lays215_ren := {
  mixed := by kernel_rfl
  f215 := Tryd.func104.trans (congrArg some (by kernel_rfl))
  t3 := Tryd.underlying3
  a3 := Tryd.isAgg3
  z3 := Tryd.sizeOf3
  v3 := Tryd.zeroValue3
  t4 := Tryd.underlying4
  a4 := Tryd.isAgg4
  z4 := Tryd.sizeOf4
  v4 := Tryd.zeroValue4 }
open Go.RowKit in
/-- cmp.isNaN at int: 'x != x': false. (LAID: no walk: one application.) -/
theorem Tryd.cmp_isNaN_int (x : Int) (w : World) :
    Calls Tryd.prog 104 #[.int .i64 x] w fun e w' => e = .returned (.bool false) ∧ w' = w := Any.cmp_isNaN_int Tryd.lays215 x w
def Tryd.lays122_ren : Go.Shelf.Ren := ⟨fun | 122 => 85 | 215 => 104 | n => n, fun | 3 => 3 | 4 => 4 | n => n, fun | n => n⟩
theorem Tryd.lays122 : Go.Proofs.Lays.n122 Tryd.prog Tryd.lays122_ren := {
  mixed := by kernel_rfl
  f122 := Tryd.func85.trans (congrArg some (by kernel_rfl))
  f215 := Tryd.func104.trans (congrArg some (by kernel_rfl))
  t3 := Tryd.underlying3
  a3 := Tryd.isAgg3
  z3 := Tryd.sizeOf3
  v3 := Tryd.zeroValue3
  t4 := Tryd.underlying4
  a4 := Tryd.isAgg4
  z4 := Tryd.sizeOf4
  v4 := Tryd.zeroValue4 }
open Go.RowKit in
/-- cmp.Compare at int: "Compare returns -1 if x is less than y, 0 if x equals y, +1 if x is greater than y.": IT RETURNS 'Lib.compareInt x y'; the world is as it was. (LAID: no walk: one application.) -/
theorem Tryd.cmp_Compare_int (x y : Int) (w : World) :
    Calls Tryd.prog 85 #[.int .i64 x, .int .i64 y] w fun e w' => e = .returned (.int .i64 (Lib.compareInt x y)) ∧ w' = w := Any.cmp_Compare_int Tryd.lays122 x y w
def Tryd.lays108_ren : Go.Shelf.Ren := ⟨fun | 108 => 97 | n => n, fun | 28 => 58 | 3 => 3 | 0 => 0 | 4 => 4 | n => n, fun | n => n⟩
theorem Tryd.lays108 : Go.Proofs.Lays.n108 Tryd.prog Tryd.lays108_ren := {
  mixed := by kernel_rfl
  f108 := Tryd.func97.trans (congrArg some (by kernel_rfl))
  t0 := Tryd.underlying0
  a0 := Tryd.isAgg0
  z0 := Tryd.sizeOf0
  v0 := Tryd.zeroValue0
  t3 := Tryd.underlying3
  a3 := Tryd.isAgg3
  z3 := Tryd.sizeOf3
  v3 := Tryd.zeroValue3
  t4 := Tryd.underlying4
  a4 := Tryd.isAgg4
  z4 := Tryd.sizeOf4
  v4 := Tryd.zeroValue4
  t28 := Tryd.underlying58
  a28 := Tryd.isAgg58
  z28 := Tryd.sizeOf58
  v28 := Tryd.zeroValue58 }
open Go.Lib in
/-- slices.Index at []int: "Index returns the index of the first occurrence of v in s, or -1 if not present.": IT RETURNS 'Lib.idxOf (the elements) v'; the world is as it was. 'zs': what the cells behind the slice's address hold (its spare capacity too, if you have it); 'zs.take n': its elements. (LAID: no walk: one application.) -/
theorem Tryd.slices_Index_int (b off n c : Nat) (zs : List Int) (x : Int) (w : World) (hz : n ≤ zs.length) (hbig : n ≤ 9223372036854775807) (hc : ∀ j, j < zs.length → w.cell? ⟨b, off + j, none⟩ = some (.int .i64 (zs.getD j 0))) :
    Calls Tryd.prog 97 #[.slice (some ⟨b, off, none⟩) n c, .int .i64 x] w fun e w' => e = .returned (.int .i64 (Lib.idxOf (zs.take n) x)) ∧ w' = w := Any.slices_Index_int Tryd.lays108 b off n c zs x w hz hbig hc
open Go.Lib in
/-- The same at a slice of length 0, a nil one too: no cell is known, none is asked for. (LAID: no walk: one application.) -/
theorem Tryd.slices_Index_int_empty (a : Option Addr) (c : Nat) (x : Int) (w : World) :
    Calls Tryd.prog 97 #[.slice a 0 c, .int .i64 x] w fun e w' => e = .returned (.int .i64 (Lib.idxOf [] x)) ∧ w' = w := Any.slices_Index_int_empty Tryd.lays108 a c x w
def Tryd.lays107_ren : Go.Shelf.Ren := ⟨fun | 107 => 72 | 108 => 97 | n => n, fun | 28 => 58 | 3 => 3 | 4 => 4 | 0 => 0 | n => n, fun | n => n⟩
theorem Tryd.lays107 : Go.Proofs.Lays.n107 Tryd.prog Tryd.lays107_ren := {
  mixed := by kernel_rfl
  f107 := Tryd.func72.trans (congrArg some (by kernel_rfl))
  f108 := Tryd.func97.trans (congrArg some (by kernel_rfl))
  t0 := Tryd.underlying0
  a0 := Tryd.isAgg0
  z0 := Tryd.sizeOf0
  v0 := Tryd.zeroValue0
  t3 := Tryd.underlying3
  a3 := Tryd.isAgg3
  z3 := Tryd.sizeOf3
  v3 := Tryd.zeroValue3
  t4 := Tryd.underlying4
  a4 := Tryd.isAgg4
  z4 := Tryd.sizeOf4
  v4 := Tryd.zeroValue4
  t28 := Tryd.underlying58
  a28 := Tryd.isAgg58
  z28 := Tryd.sizeOf58
  v28 := Tryd.zeroValue58 }
open Go.Lib in
/-- slices.Contains at []int: "Contains reports whether v is present in s.": IT RETURNS 'elements.contains v'; the world is as it was. ITS CALLEE slices.Index IS MET BY ITS OWN CONTRACT OFF THE SHELF (lay that first): no loop is walked here. (LAID: no walk: one application.) -/
theorem Tryd.slices_Contains_int (b off n c : Nat) (zs : List Int) (x : Int) (w : World) (hz : n ≤ zs.length) (hbig : n ≤ 9223372036854775807) (hc : ∀ j, j < zs.length → w.cell? ⟨b, off + j, none⟩ = some (.int .i64 (zs.getD j 0))) :
    Calls Tryd.prog 72 #[.slice (some ⟨b, off, none⟩) n c, .int .i64 x] w fun e w' => e = .returned (.bool ((zs.take n).contains x)) ∧ w' = w := Any.slices_Contains_int Tryd.lays107 b off n c zs x w hz hbig hc
open Go.Lib in
/-- The same at a slice of length 0, a nil one too. (LAID: no walk: one application.) -/
theorem Tryd.slices_Contains_int_empty (a : Option Addr) (c : Nat) (x : Int) (w : World) :
    Calls Tryd.prog 72 #[.slice a 0 c, .int .i64 x] w fun e w' => e = .returned (.bool false) ∧ w' = w := Any.slices_Contains_int_empty Tryd.lays107 a c x w
def Tryd.laysNm237_ren : Go.Shelf.Ren := ⟨fun | 37 => 104 | n => n, fun | 3 => 3 | 4 => 4 | n => n, fun | n => n⟩
theorem Tryd.laysNm237 : Go.Proofs.Lays2.n37 Tryd.prog Tryd.laysNm237_ren := {
  mixed := by kernel_rfl
  f37 := Tryd.func104.trans (congrArg some (by kernel_rfl))
  t3 := Tryd.underlying3
  a3 := Tryd.isAgg3
  z3 := Tryd.sizeOf3
  v3 := Tryd.zeroValue3
  t4 := Tryd.underlying4
  a4 := Tryd.isAgg4
  z4 := Tryd.sizeOf4
  v4 := Tryd.zeroValue4 }
open Go.RowKit Go.Lib in
/-- cmp.isNaN[int]: 'x != x': false. (LAID: no walk: one application.) -/
theorem Tryd.cmp_isNaN_int2 (x : Int) (w : World) :
    Calls Tryd.prog 104 #[.int .i64 x] w fun e w' => e = .returned (.bool false) ∧ w' = w := Any.cmp_isNaN_int2 Tryd.laysNm237 x w
def Tryd.laysSlH6_f112_ren : Go.Shelf.Ren := ⟨fun | 6 => 112 | n => n, fun | 22 => 58 | 23 => 3 | 25 => 159 | 3 => 3 | 0 => 0 | 4 => 4 | n => n, fun | n => n⟩
theorem Tryd.laysSlH6_f112 : Go.Proofs.SlLaysH.n6 Tryd.prog Tryd.laysSlH6_f112_ren := {
  mixed := by kernel_rfl
  f6 := ⟨Tryd.f112.name, by decide, Tryd.func112.trans (congrArg some (by kernel_rfl))⟩
  t0 := Tryd.underlying0
  a0 := Tryd.isAgg0
  z0 := Tryd.sizeOf0
  v0 := Tryd.zeroValue0
  t3 := Tryd.underlying3
  a3 := Tryd.isAgg3
  z3 := Tryd.sizeOf3
  v3 := Tryd.zeroValue3
  t4 := Tryd.underlying4
  a4 := Tryd.isAgg4
  z4 := Tryd.sizeOf4
  v4 := Tryd.zeroValue4
  t22 := Tryd.underlying58
  a22 := Tryd.isAgg58
  z22 := Tryd.sizeOf58
  v22 := Tryd.zeroValue58
  a23 := Tryd.isAgg3
  z23 := Tryd.sizeOf3
  t25 := Tryd.underlying159
  a25 := Tryd.isAgg159
  z25 := Tryd.sizeOf159
  v25 := Tryd.zeroValue159 }
open Go.RowKit Go.Lib in
/-- slices.IndexFunc: "IndexFunc returns the first index i satisfying f(s[i]), or -1 if none do." (LAID AT THE INSTANCE 'slices.IndexFunc[[]int,int]': no walk: one application.) -/
theorem Tryd.slices_IndexFunc {α : Type} [Inhabited α] (enc : α → Value) (p : α → Bool) (g : Nat) (lb : Array Value) (eg : ∀ args w, (callFunc g args).run Tryd.prog w = .ok (.enter g args) w) (b off n c : Nat) (zs : List α) (w : World) (hp : PredAt Tryd.prog g lb enc p w) (hz : n ≤ zs.length) (hbig : n ≤ 9223372036854775807) (hc : ∀ j, j < zs.length → w.cell? ⟨b, off + j, none⟩ = some (enc zs[j]!)) :
    Calls Tryd.prog 112 #[.slice (some ⟨b, off, none⟩) n c, .func (.func g) #[] lb] w fun e w' => e = .returned (.int .i64 (Lib.idxBy (fun _ y => p y) (zs.take n) default)) ∧ ∃ q, w' = w.drewN q := AnyE.slices_IndexFunc Tryd.laysSlH6_f112 enc p g lb eg b off n c zs w hp hz hbig hc
open Go.RowKit Go.Lib in
/-- The same at a slice of length 0, a nil one too: the predicate is not called: nothing is asked of it. (LAID AT THE INSTANCE 'slices.IndexFunc[[]int,int]': no walk: one application.) -/
theorem Tryd.slices_IndexFunc_empty {α : Type} [Inhabited α] (a : Option Addr) (c : Nat) (fv : Value) (w : World) :
    Calls Tryd.prog 112 #[.slice a 0 c, fv] w fun e w' => e = .returned (.int .i64 (-1)) ∧ w' = w := AnyE.slices_IndexFunc_empty Tryd.laysSlH6_f112 a c fv w
def Tryd.laysSlH8_f100_ren : Go.Shelf.Ren := ⟨fun | 8 => 100 | 6 => 112 | n => n, fun | 22 => 58 | 23 => 3 | 25 => 159 | 4 => 4 | 3 => 3 | 0 => 0 | n => n, fun | n => n⟩
theorem Tryd.laysSlH8_f100 : Go.Proofs.SlLaysH.n8 Tryd.prog Tryd.laysSlH8_f100_ren := {
  mixed := by kernel_rfl
  f6 := ⟨Tryd.f112.name, by decide, Tryd.func112.trans (congrArg some (by kernel_rfl))⟩
  f8 := ⟨Tryd.f100.name, by decide, Tryd.func100.trans (congrArg some (by kernel_rfl))⟩
  t0 := Tryd.underlying0
  a0 := Tryd.isAgg0
  z0 := Tryd.sizeOf0
  v0 := Tryd.zeroValue0
  t3 := Tryd.underlying3
  a3 := Tryd.isAgg3
  z3 := Tryd.sizeOf3
  v3 := Tryd.zeroValue3
  t4 := Tryd.underlying4
  a4 := Tryd.isAgg4
  z4 := Tryd.sizeOf4
  v4 := Tryd.zeroValue4
  t22 := Tryd.underlying58
  a22 := Tryd.isAgg58
  z22 := Tryd.sizeOf58
  v22 := Tryd.zeroValue58
  a23 := Tryd.isAgg3
  z23 := Tryd.sizeOf3
  t25 := Tryd.underlying159
  a25 := Tryd.isAgg159
  z25 := Tryd.sizeOf159
  v25 := Tryd.zeroValue159 }
open Go.RowKit Go.Lib in
/-- slices.ContainsFunc: "ContainsFunc reports whether at least one element e of s satisfies f(e).": ITS CALLEE slices.IndexFunc IS MET BY ITS OWN CONTRACT. (LAID AT THE INSTANCE 'slices.ContainsFunc[[]int,int]': no walk: one application.) -/
theorem Tryd.slices_ContainsFunc {α : Type} [Inhabited α] (enc : α → Value) (p : α → Bool) (g : Nat) (lb : Array Value) (eg : ∀ args w, (callFunc g args).run Tryd.prog w = .ok (.enter g args) w) (b off n c : Nat) (zs : List α) (w : World) (hp : PredAt Tryd.prog g lb enc p w) (hz : n ≤ zs.length) (hbig : n ≤ 9223372036854775807) (hc : ∀ j, j < zs.length → w.cell? ⟨b, off + j, none⟩ = some (enc zs[j]!)) :
    Calls Tryd.prog 100 #[.slice (some ⟨b, off, none⟩) n c, .func (.func g) #[] lb] w fun e w' => e = .returned (.bool ((zs.take n).any p)) ∧ ∃ q, w' = w.drewN q := AnyE.slices_ContainsFunc Tryd.laysSlH8_f100 enc p g lb eg b off n c zs w hp hz hbig hc
open Go.RowKit Go.Lib in
/-- The same at a slice of length 0, a nil one too. (LAID AT THE INSTANCE 'slices.ContainsFunc[[]int,int]': no walk: one application.) -/
theorem Tryd.slices_ContainsFunc_empty {α : Type} [Inhabited α] (a : Option Addr) (c : Nat) (fv : Value) (w : World) :
    Calls Tryd.prog 100 #[.slice a 0 c, fv] w fun e w' => e = .returned (.bool false) ∧ w' = w := AnyE.slices_ContainsFunc_empty Tryd.laysSlH8_f100 a c fv w
end Go.Proofs

/- How many bags can be dirty: Can. -/
namespace Go.Proofs.YtknpglgpkkhhiaaDoor
set_option linter.unusedSimpArgs false
set_option linter.unusedVariables false
open Go.RowKit Go.Proofs.YtknpglgpkkhhiaaDoor.ML Go.Proofs.YtknpglgpkkhhiaaDoor.Samp

/-- The error of known, but for what cannot be. -/
def knownE (N o f m : Int) : Int := firstE [if drawB N o f then 0 else 11, m]
/-- What Can returns. -/
def canR (N lo hi o f : Int) : Value :=
  if cargoB N lo hi = false then .tuple #[.agg #[.int .i64 0, .int .i64 0], .int .i64 10] else
  if drawB N o f = false then .tuple #[.agg #[.int .i64 0, .int .i64 0], .int .i64 11] else
  if ableL N lo hi o f = [] then .tuple #[.agg #[.int .i64 0, .int .i64 0], .int .i64 8] else
  .tuple #[.agg #[.int .i64 (Lib.minOf (ableL N lo hi o f)), .int .i64 (Lib.maxOf (ableL N lo hi o f))], .int .i64 0]
theorem row_ints {base : Nat} {e : TypeId} {v : Value} {L : List Int} {w : World} (h : w.ownsRow base e 1 v L.length (L.map (Value.int .i64))) (hne : L ≠ []) :
    ∃ g cap, v = .slice (some ⟨g, 0, none⟩) L.length cap ∧ base ≤ g ∧ (∀ j, j < L.length → w.cell? ⟨g, 0 + j, none⟩ = some (.int .i64 (L.getD j 0))) ∧ ∃ cur, w.heap[g]? = some (.cells cur e (0, 0)) := by
  rcases h.2 with ⟨rfl, h0⟩ | ⟨g, cap, cur, rfl, hb, hg, _⟩
  · exact absurd (List.eq_nil_of_length_eq_zero h0) hne
  · refine ⟨g, cap, rfl, hb, fun j hj => ?_, cur, hg⟩
    have := h.cells (g := g) rfl j (.int .i64 L[j]) (by simp [hj])
    by_cases h0 : j = 0
    · subst h0; simpa [Addr.add, hj] using this
    · simpa [Addr.add, hj, h0] using this

end Go.Proofs.YtknpglgpkkhhiaaDoor

/- Rules: the errors of risks; whether a rule is good. -/
namespace Go.Proofs.YtknpglgpkkhhiaaDoor
set_option linter.unusedSimpArgs false
set_option linter.unusedVariables false
open Go.RowKit Go.Proofs.YtknpglgpkkhhiaaDoor.ML Go.Proofs.YtknpglgpkkhhiaaDoor.Samp

/-- A slice of fractions. -/
def SlP (xs : List (Int × Int)) (v : Value) (w : World) : Prop := ∃ b, v = .slice (some ⟨b, 0, none⟩) xs.length xs.length ∧ ∀ k, (h : k < xs.length) → w.cell? ⟨b, 0 + k * 2, none⟩ = some (.int .i64 xs[k].1) ∧ w.cell? ⟨b, 0 + k * 2 + 1, none⟩ = some (.int .i64 xs[k].2)
theorem SlP.keeps {xs : List (Int × Int)} {v : Value} {w w' : World} (h : SlP xs v w) (hB : Below w.heap.size w w') : SlP xs v w' :=
  let ⟨b, h1, h2⟩ := h
  ⟨b, h1, fun k hk => ⟨keepsB hB (h2 k hk).1, keepsB hB (h2 k hk).2⟩⟩
theorem SlP.stable (xs : List (Int × Int)) : Free.Stable Free.Bel (SlP xs) := fun v w w' hB h => h.keeps hB
theorem SlP.two (a b c d : Int) (t : TypeId) (w : World) : SlP [(a, b), (c, d)] (.slice (some ⟨w.heap.size, 0, none⟩) 2 2) (w.alloc (.cells #[.int .i64 a, .int .i64 b, .int .i64 c, .int .i64 d] t)) :=
  ⟨_, rfl, fun k hk => by match k, hk with | 0, _ => simp [go_sem] | 1, _ => simp [go_sem]⟩
theorem SlP.one (a b : Int) (t : TypeId) (w : World) : SlP [(a, b)] (.slice (some ⟨w.heap.size, 0, none⟩) 1 1) (w.alloc (.cells #[.int .i64 a, .int .i64 b] t)) :=
  ⟨_, rfl, fun k hk => by match k, hk with | 0, _ => simp [go_sem]⟩
def part2 (n d : Int) : Value := .agg #[.int .i64 n, .int .i64 d]
def riskedE (lo hi g b sn sd bn bd : Int) : Int := firstE [unlessV (inB lo hi [g, b]) 2, unlessV ([(sn, sd), (bn, bd)].all fun x => givenB x.1 x.2) 12, unlessV (decide (g < b)) 2]

end Go.Proofs.YtknpglgpkkhhiaaDoor

/- Rules: the chance that a rule accepts. -/
namespace Go.Proofs.YtknpglgpkkhhiaaDoor
set_option linter.unusedSimpArgs false
set_option linter.unusedVariables false
open Go.RowKit Go.Proofs.YtknpglgpkkhhiaaDoor.ML Go.Proofs.YtknpglgpkkhhiaaDoor.Samp

/-- The error of a rule and a number of dirty bags. -/
def ruledE (N lo hi D o f : Int) : Int := firstE [unlessV (drawB N o f) 13, unlessV (inB lo hi [D]) 2]

end Go.Proofs.YtknpglgpkkhhiaaDoor

/- Rules: whether a rule is good. -/
namespace Go.Proofs.YtknpglgpkkhhiaaDoor
set_option linter.unusedSimpArgs false
set_option linter.unusedVariables false
open Go.RowKit Go.Proofs.YtknpglgpkkhhiaaDoor.ML Go.Proofs.YtknpglgpkkhhiaaDoor.Samp

/-- Whether a rule is good. -/
def fineB (N g b o a sn sd bn bd : Int) : Bool := decide ((chI N o - mostI N g o a) * sd ≤ chI N o * sn) && decide (mostI N b o a * bd ≤ chI N o * bn)

theorem lowest_spec (n d : Nat) (hd : 0 < d) : ∃ c : Nat, 0 < c ∧ n = c * (lowest n d).1 ∧ d = c * (lowest n d).2 :=
  ⟨Nat.gcd n d, Nat.gcd_pos_of_pos_right n hd, (Nat.mul_div_cancel' (Nat.gcd_dvd_left n d)).symm, (Nat.mul_div_cancel' (Nat.gcd_dvd_right n d)).symm⟩
theorem mostI_bound (N D o f : Int) (hN : N ≤ 36) (h0 : 0 ≤ D) (h1 : D ≤ N) (ho : 0 ≤ o ∧ o ≤ N) : 0 ≤ mostI N D o f ∧ mostI N D o f ≤ 2542620639232 := by
  have key : ∀ n : Nat, 0 ≤ midI N D o (oneTo f) n ∧ midI N D o (oneTo f) n ≤ n * 68719476736 := by
    intro n
    induction n with
    | zero => simp [midI]
    | succ n ih =>
      have hw := waysI_bound N D o n hN h0 h1
      have h01 : oneTo f n = 0 ∨ oneTo f n = 1 := by unfold oneTo; split <;> simp
      rw [midI]
      rcases h01 with h | h
      · rw [h, Int.zero_mul]; omega
      · rw [h, Int.one_mul]; omega
  have := key (o + 1).toNat
  unfold mostI
  omega
/-- The chance that a rule accepts, as a fraction that is the given one. -/
theorem mostV_spec (N D o f : Int) (hN : N ≤ 36) (h0 : 0 ≤ D) (h1 : D ≤ N) (ho : 0 ≤ o ∧ o ≤ N) : ∃ c p q : Int, mostV N D o f = .agg #[.int .i64 p, .int .i64 q] ∧ 0 < c ∧ mostI N D o f = c * p ∧ chI N o = c * q ∧ 0 ≤ p ∧ p ≤ 2542620639232 ∧ 1 ≤ q ∧ q ≤ 68719476736 := by
  have hA := chI_pos N o (by omega) hN ho.1 ho.2
  have hM := mostI_bound N D o f hN h0 h1 ho
  obtain ⟨c, hc, e1, e2⟩ := lowest_spec (mostI N D o f).toNat (chI N o).toNat (by omega)
  refine ⟨c, _, _, rfl, by omega, ?_, ?_, by omega, ?_, ?_, ?_⟩
  · have : ((mostI N D o f).toNat : Int) = mostI N D o f := Int.toNat_of_nonneg hM.1
    rw [← this]; exact_mod_cast e1
  · have : ((chI N o).toNat : Int) = chI N o := Int.toNat_of_nonneg (by omega)
    rw [← this]; exact_mod_cast e2
  · have : (lowest (mostI N D o f).toNat (chI N o).toNat).1 ≤ (mostI N D o f).toNat := by
      conv => rhs; rw [e1]
      exact Nat.le_mul_of_pos_left _ hc
    omega
  · have : (lowest (mostI N D o f).toNat (chI N o).toNat).2 ≠ 0 := by
      intro e; rw [e] at e2; omega
    omega
  · have : (lowest (mostI N D o f).toNat (chI N o).toNat).2 ≤ (chI N o).toNat := by
      conv => rhs; rw [e2]
      exact Nat.le_mul_of_pos_left _ hc
    omega
theorem refuse_eq (c p q sn sd : Int) (hc : 0 < c) : decide ((c * q - c * p) * sd ≤ c * q * sn) = decide ((q - p) * sd ≤ sn * q) := by
  rw [show (c * q - c * p) * sd = c * ((q - p) * sd) by rw [← Int.mul_sub, Int.mul_assoc], show c * q * sn = c * (sn * q) by rw [Int.mul_assoc, Int.mul_comm q sn], decide_eq_decide]
  exact Int.mul_le_mul_left hc
theorem accept_eq (c p q bn bd : Int) (hc : 0 < c) : decide (c * p * bd ≤ c * q * bn) = decide (p * bd ≤ bn * q) := by
  rw [show c * p * bd = c * (p * bd) by rw [Int.mul_assoc], show c * q * bn = c * (bn * q) by rw [Int.mul_assoc, Int.mul_comm q bn], decide_eq_decide]
  exact Int.mul_le_mul_left hc
theorem bigI (x y B : Int) (hx : 0 - B ≤ x ∧ x ≤ B) (hy : 0 ≤ y ∧ y ≤ 1000) (hB : 0 ≤ B ∧ B ≤ 3000000000000) : -3000000000000000 ≤ x * y ∧ x * y ≤ 3000000000000000 := by
  obtain ⟨k, rfl⟩ := Int.eq_ofNat_of_zero_le hy.1
  have h1 : x * k ≤ B * k := Int.mul_le_mul_of_nonneg_right hx.2 (by omega)
  have h2 : (0 - B) * k ≤ x * k := Int.mul_le_mul_of_nonneg_right hx.1 (by omega)
  have h3 : B * k ≤ B * 1000 := Int.mul_le_mul_of_nonneg_left hy.2 hB.1
  have h4 : (0 - B) * k = - (B * k) := by rw [Int.sub_mul]; omega
  omega

end Go.Proofs.YtknpglgpkkhhiaaDoor

/- The fewest bags that find a dirty one: Find. -/
namespace Go.Proofs.YtknpglgpkkhhiaaDoor
set_option linter.unusedSimpArgs false
set_option linter.unusedVariables false
open Go.RowKit Go.Proofs.YtknpglgpkkhhiaaDoor.ML Go.Proofs.YtknpglgpkkhhiaaDoor.Samp

/-- Whether n bags find a dirty one with the chance. -/
def findB (N D n d : Int) (k : Nat) : Bool := decide (n * chI N k ≤ (chI N k - mostI N D k 0) * d)
theorem find_eq (c p q n d : Int) (hc : 0 < c) : decide (n * (c * q) ≤ (c * q - c * p) * d) = decide (n * q ≤ (q - p) * d) := by
  have e1 : n * (c * q) = c * (n * q) := by rw [← Int.mul_assoc, Int.mul_comm n c, Int.mul_assoc]
  have e2 : (c * q - c * p) * d = c * ((q - p) * d) := by rw [← Int.mul_sub, Int.mul_assoc]
  rw [e1, e2]
  simp only [decide_eq_decide]
  exact ⟨fun h => Int.le_of_mul_le_mul_left h hc, fun h => Int.mul_le_mul_of_nonneg_left h (by omega)⟩
/-- What is found. -/
def FindIs (P : Nat → Bool) (N k e : Int) : Prop :=
  (e = 0 ∧ ∃ m : Nat, k = m ∧ k ≤ N ∧ P m = true ∧ ∀ j, j < m → P j = false) ∨ (e = 6 ∧ k = 0 ∧ ∀ j : Nat, (j : Int) ≤ N → P j = false)
theorem FindIs.unique {P : Nat → Bool} {N k e k' e' : Int} (h : FindIs P N k e) (h' : FindIs P N k' e') : k = k' ∧ e = e' := by
  rcases h with ⟨rfl, m, rfl, h1, h2, h3⟩ | ⟨rfl, rfl, h1⟩
  · rcases h' with ⟨rfl, m', rfl, k1, k2, k3⟩ | ⟨rfl, rfl, k1⟩
    · refine ⟨?_, rfl⟩
      rcases Nat.lt_trichotomy m m' with h | h | h
      · have := k3 m h; rw [h2] at this; cases this
      · rw [h]
      · have := h3 m' h; rw [k2] at this; cases this
    · have := k1 m h1; rw [h2] at this; cases this
  · rcases h' with ⟨rfl, m', rfl, k1, k2, k3⟩ | ⟨rfl, rfl, k1⟩
    · have := h1 m' k1; rw [k2] at this; cases this
    · exact ⟨rfl, rfl⟩
def findE (lo hi D n d : Int) : Int := firstE [unlessV (inB lo hi [D]) 2, unlessV ([(n, d)].all fun x => givenB x.1 x.2) 12]
theorem findE_zero {lo hi D n d : Int} (h : findE lo hi D n d = 0) : (lo ≤ D ∧ D ≤ hi) ∧ givenB n d = true := by
  unfold findE at h
  have h2 : inB lo hi [D] = true := by
    cases hm : inB lo hi [D]
    · rw [hm] at h; simp [firstE, unlessV] at h
    · rfl
  have h3 : givenB n d = true := by
    cases hm : givenB n d
    · rw [h2] at h; simp [firstE, unlessV, hm] at h
    · rfl
  exact ⟨by simpa [inB] using h2, h3⟩

/-- What Find returns. -/
def FindAll (N lo hi D n d k q : Int) : Prop :=
  if cargoB N lo hi = false then k = 0 ∧ q = 10 else if findE lo hi D n d ≠ 0 then k = 0 ∧ q = findE lo hi D n d else FindIs (findB N D n d) N k q
end Go.Proofs.YtknpglgpkkhhiaaDoor

/- What terms take off for a draw. -/
namespace Go.Proofs.YtknpglgpkkhhiaaDoor
set_option linter.unusedSimpArgs false
set_option linter.unusedVariables false
open Go.RowKit Go.Shelf RR
attribute [local go_sem] Oper.semAt_some

def offB (o f : Int) (x : Int × Int) : Bool := decide (0 < o) && decide (x.1 * o ≤ 100 * f)
def offR (o f : Int) (l : List (Int × Int × Int)) : Int := match l.find? (fun x => offB o f x.2) with | some x => x.2.2 | none => 0
/-- What terms take off. -/
def offV (xs : List (Int × Int)) (o f : Int) : Int := offR o f (revT xs xs.length)
theorem offR_skip {o f : Int} {pre : List (Int × Int × Int)} {x : Int × Int × Int} (h : ∀ rest, offR o f (pre ++ rest) = offR o f rest) (hx : offB o f x.2 = false) : ∀ rest, offR o f (pre ++ [x] ++ rest) = offR o f rest := fun rest => by
  rw [List.append_assoc, h]; simp [offR, hx]
theorem offR_hit {o f : Int} {pre : List (Int × Int × Int)} {x : Int × Int × Int} (h : ∀ rest, offR o f (pre ++ rest) = offR o f rest) (hx : offB o f x.2 = true) : ∀ rest, offR o f (pre ++ [x] ++ rest) = x.2.2 := fun rest => by
  rw [List.append_assoc, h]; simp [offR, hx]
theorem revT_mem (xs : List (Int × Int)) : ∀ k, k ≤ xs.length → ∀ x ∈ revT xs k, x.2 ∈ xs
  | 0, _, x, h => by simp [revT] at h
  | k + 1, hk, x, h => by
    rcases List.mem_append.1 h with h | h
    · exact revT_mem xs k (by omega) x h
    · simp at h
      subst h
      have : xs.length - (k + 1) < xs.length := by omega
      simp only [List.getD_eq_getElem?_getD, List.getElem?_eq_getElem this, Option.getD_some]
      exact List.getElem_mem this

section
variable {w W W' : World}
theorem heap_bel {b : Nat} {o : Obj} (h : W.heap[b]? = some o) (hB : Free.Bel W W') : W'.heap[b]? = some o := (hB.block b (lt_of_heap h)).trans h
theorem heap_grown {b : Nat} {o : Obj} {row : Option Nat} (h : W.heap[b]? = some o) (hg : W.grownBy W' row) (hne : some b ≠ row) : W'.heap[b]? = some o := (hg.block b (lt_of_heap h) hne).trans h
theorem heap_set {b b' k : Nat} {o : Obj} {v : Value} (h : W.heap[b]? = some o) (hne : b ≠ b') : (W.setCell ⟨b', k, none⟩ v).heap[b]? = some o := (Below.heap_setCell _ _ _ _ hne).trans h
end

end Go.Proofs.YtknpglgpkkhhiaaDoor

/- Blocks of one content may turn, all others stay; a box that a region makes and stores once. -/
namespace Go.Proofs.YtknpglgpkkhhiaaDoor
set_option linter.unusedSimpArgs false
set_option linter.unusedVariables false
open Go.RowKit Go.Proofs.YtknpglgpkkhhiaaDoor.Free2

/-- Blocks below s0 stay, and of the later ones all that are not the object o0. -/
structure KO (s0 : Nat) (o0 : Obj) (w w' : World) : Prop where
  below : Below s0 w w'
  keep : ∀ (k : Nat) (o : Obj), w.heap[k]? = some o → o ≠ o0 → w'.heap[k]? = some o
section
variable {s0 : Nat} {o0 : Obj} {a w w' W : World}
theorem KO.refl (w : World) : KO s0 o0 w w := ⟨Below.refl _ _, fun _ _ h _ => h⟩
theorem KO.trans (h : KO s0 o0 a w) (k : KO s0 o0 w w') : KO s0 o0 a w' := ⟨h.below.trans k.below, fun i o ho hne => k.keep i o (h.keep i o ho hne) hne⟩
theorem KO.of_bel (h : Free.Bel w w') (hs : s0 ≤ w.heap.size) : KO s0 o0 w w' := ⟨h.mono hs, fun k o ho _ => (h.block k (lt_of_heap ho)).trans ho⟩
theorem KO.store {b o : Nat} {v : Value} (hs : s0 ≤ b) (hb : w.heap[b]? = some o0) : KO s0 o0 w (w.setCell ⟨b, o, none⟩ v) :=
  ⟨(Below.refl s0 w).setCell (p := ⟨b, o, none⟩) hs v, fun k o' ho hne => (Below.heap_setCell _ _ _ _ (by
    rintro rfl
    try simp only at ho
    rw [hb] at ho; cases ho; exact hne rfl)).trans ho⟩
/-- What a cell holds tells its block from the one that may turn. -/
theorem KO.cell {t : TypeId} {p : Addr} {v : Value} (h : KO s0 (.cells #[.pointer none] t) w w') (hv : w.cell? p = some v) (hne : v ≠ .pointer none) : w'.cell? p = some v := by
  have hlt := lt_of_cell hv
  have ho : w.heap[p.block]? = some w.heap[p.block] := by simp [hlt]
  refine (World.cell?_of_block (w := w) ?_).trans hv
  rw [ho]
  refine h.keep _ _ ho fun e => hne ?_
  rw [e] at ho
  obtain ⟨b, o, pth⟩ := p
  try simp only at ho
  simp [World.cell?, ho] at hv
  cases pth <;> rcases o with _ | o <;> simp_all
theorem KO.memo {mb : Nat} {t : TypeId} (h : KO s0 (.cells #[.pointer none] t) w w') (hm : Memo mb w) : Memo mb w' := by
  obtain ⟨l, ⟨es, c, hb, hr⟩, hv⟩ := hm
  exact ⟨l, ⟨es, c, h.keep _ _ hb (by simp), hr⟩, hv⟩
theorem KO.slp {t : TypeId} {xs : List (Int × Int)} {v : Value} (h : KO s0 (.cells #[.pointer none] t) w w') (hs : SlP xs v w) : SlP xs v w' :=
  let ⟨b, h1, h2⟩ := hs
  ⟨b, h1, fun k hk => ⟨h.cell (h2 k hk).1 (by simp), h.cell (h2 k hk).2 (by simp)⟩⟩

/-- A row of numbers. -/
def RowV (L : List Int) (s0 : Nat) (v : Value) (w : World) : Prop := ∃ p cap, v = .slice p L.length cap ∧ (L ≠ [] → ∃ g, p = some ⟨g, 0, none⟩ ∧ s0 ≤ g ∧ ∀ j, j < L.length → w.cell? ⟨g, 0 + j, none⟩ = some (.int .i64 (L.getD j 0)))
theorem RowV.of {base : Nat} {t : TypeId} {v : Value} {L : List Int} (h : w.ownsRow base t 1 v L.length (L.map (Value.int .i64))) (hb : s0 ≤ base) : RowV L s0 v w := by
  by_cases hL : L = []
  · rcases h.2 with ⟨rfl, h0⟩ | ⟨g, cap, cur, rfl, _⟩
    · exact ⟨none, 0, by rw [h0], fun h => absurd hL h⟩
    · exact ⟨_, _, rfl, fun h => absurd hL h⟩
  · obtain ⟨g, cap, rfl, h1, h2, _⟩ := row_ints h hL
    exact ⟨_, _, rfl, fun _ => ⟨g, rfl, by omega, h2⟩⟩
theorem RowV.ko {t : TypeId} {L : List Int} {s1 : Nat} {v : Value} (h : RowV L s1 v w) (k : KO s0 (.cells #[.pointer none] t) w w') : RowV L s1 v w' :=
  let ⟨p, cap, h1, h2⟩ := h
  ⟨p, cap, h1, fun hL => let ⟨g, h3, h4, h5⟩ := h2 hL; ⟨g, h3, h4, fun j hj => k.cell (h5 j hj) (by simp)⟩⟩
/-- Operation i makes a box, operation j stores the value of operation k there. -/
structure LQ (s0 i j k : Nat) (t : TypeId) (X : XT) (w : World) : Prop where
  first : X i = none → X j = none
  from_ : X k = none → X j = none
  size : s0 ≤ w.heap.size
  blk : ∀ v, X i = some v → ∃ b, v = ptr b ∧ s0 ≤ b ∧ (X j = none → w.heap[b]? = some (.cells #[.pointer none] t)) ∧ (X j ≠ none → ∃ p, X k = some p ∧ w.heap[b]? = some (.cells #[p] t))
variable {i j k : Nat} {t : TypeId} {X : XT}
theorem LQ.start (h : s0 ≤ w.heap.size) : LQ s0 i j k t (fun _ => none) w := ⟨fun _ => rfl, fun _ => rfl, h, fun v h => (by cases h)⟩
theorem LQ.skip (h : LQ s0 i j k t X w) (n : Nat) (v : Value) (h1 : n ≠ i) (h2 : n ≠ j) (h3 : n ≠ k) : LQ s0 i j k t (upd X n v) w := by
  refine ⟨?_, ?_, h.size, ?_⟩
  · rw [upd_other _ _ h1.symm, upd_other _ _ h2.symm]; exact h.first
  · rw [upd_other _ _ h3.symm, upd_other _ _ h2.symm]; exact h.from_
  · rw [upd_other _ _ h1.symm, upd_other _ _ h2.symm, upd_other _ _ h3.symm]; exact h.blk
theorem LQ.took (h : LQ s0 i j k t X w) (v : Value) (hk : X k = none) (h1 : k ≠ i) (h2 : k ≠ j) : LQ s0 i j k t (upd X k v) w := by
  have hj := h.from_ hk
  refine ⟨?_, ?_, h.size, ?_⟩
  · rw [upd_other _ _ h1.symm, upd_other _ _ h2.symm]; exact h.first
  · rw [upd_same]; exact fun h => (by cases h)
  · rw [upd_other _ _ h1.symm, upd_other _ _ h2.symm]
    intro u hu
    obtain ⟨b, r1, r2, r3, r4⟩ := h.blk u hu
    exact ⟨b, r1, r2, r3, fun hh => absurd hj hh⟩
theorem LQ.bel (h : LQ s0 i j k t X w) (hB : Free.Bel w w') : LQ s0 i j k t X w' :=
  ⟨h.first, h.from_, Nat.le_trans h.size hB.size, fun v hv => by
    obtain ⟨b, r1, r2, r3, r4⟩ := h.blk v hv
    exact ⟨b, r1, r2, fun hj => (hB.block b (lt_of_heap (r3 hj))).trans (r3 hj), fun hj => let ⟨p, q1, q2⟩ := r4 hj; ⟨p, q1, (hB.block b (lt_of_heap q2)).trans q2⟩⟩⟩
theorem LQ.new (h : LQ s0 i j k t X w) (hij : i ≠ j) (hik : i ≠ k) (hi : X i = none) : LQ s0 i j k t (upd X i (ptr w.heap.size)) (w.alloc (.cells #[.pointer none] t)) := by
  refine ⟨fun h0 => (by rw [upd_same] at h0; cases h0), ?_, by simp; have := h.size; omega, fun v hv => ?_⟩
  · rw [upd_other _ _ hik.symm, upd_other _ _ hij.symm]; exact h.from_
  · rw [upd_same] at hv
    cases hv
    rw [upd_other _ _ hij.symm]
    exact ⟨_, rfl, h.size, fun _ => World.alloc_heap_new w _, fun hj => absurd (h.first hi) hj⟩
theorem LQ.at_ (h : LQ s0 i j k t X w) {v : Value} (hv : X i = some v) (hj : X j = none) : ∃ b, v = ptr b ∧ s0 ≤ b ∧ w.heap[b]? = some (.cells #[.pointer none] t) := by
  obtain ⟨b, r1, r2, r3, r4⟩ := h.blk v hv
  exact ⟨b, r1, r2, r3 hj⟩
theorem LQ.stored (h : LQ s0 i j k t X w) (hij : i ≠ j) (hkj : k ≠ j) {b : Nat} {p : Value} (hv : X i = some (ptr b)) (hp : X k = some p) (hs : s0 ≤ b) (hb : w.heap[b]? = some (.cells #[.pointer none] t)) (u : Value) : LQ s0 i j k t (upd X j u) (w.setCell ⟨b, 0, none⟩ p) := by
  refine ⟨fun h0 => (by rw [upd_other _ _ hij] at h0; rw [hv] at h0; cases h0), fun h0 => (by rw [upd_other _ _ hkj] at h0; rw [hp] at h0; cases h0), by simpa using h.size, fun v hv' => ?_⟩
  rw [upd_other _ _ hij, hv] at hv'
  cases hv'
  rw [upd_same, upd_other _ _ hkj]
  refine ⟨b, rfl, hs, (by intro h; cases h), fun _ => ⟨p, hp, ?_⟩⟩
  have := heap_setCell_same (o := 0) p hb
  simpa using this
theorem LQ.done (h : LQ s0 i j k t X w) {v u : Value} (hv : X i = some v) (hu : X j = some u) : ∃ b p, v = ptr b ∧ s0 ≤ b ∧ X k = some p ∧ w.heap[b]? = some (.cells #[p] t) := by
  obtain ⟨b, r1, r2, r3, r4⟩ := h.blk v hv
  obtain ⟨p, q1, q2⟩ := r4 (by simp [hu])
  exact ⟨b, p, r1, r2, q1, q2⟩
end
end Go.Proofs.YtknpglgpkkhhiaaDoor

/- The reference's comparison of lists of numbers. -/
namespace Go.Proofs.YtknpglgpkkhhiaaDoor
set_option linter.unusedSimpArgs false
set_option linter.unusedVariables false
open Go.RowKit Go.Proofs.YtknpglgpkkhhiaaDoor.ML Go.Proofs.YtknpglgpkkhhiaaDoor.Samp

/-- A slice that holds this list of numbers. -/
def IL (xs : List Int) (v : Value) (w : World) : Prop := ∃ p cap, v = .slice p xs.length cap ∧ xs.length ≤ maxLen ∧ (xs ≠ [] → ∃ b off, p = some ⟨b, off, none⟩ ∧ ∀ k, (h : k < xs.length) → w.cell? ⟨b, off + k, none⟩ = some (.int .i64 xs[k]))
theorem IL.nil (w : World) : IL [] (.slice none 0 0) w := ⟨none, 0, rfl, by simp, fun h => absurd rfl h⟩
theorem IL.keeps {xs : List Int} {v : Value} {w w' : World} (h : IL xs v w) (hB : Below w.heap.size w w') : IL xs v w' :=
  let ⟨p, cap, h1, h2, h3⟩ := h
  ⟨p, cap, h1, h2, fun hx => let ⟨b, off, h4, h5⟩ := h3 hx; ⟨b, off, h4, fun k hk => keepsB hB (h5 k hk)⟩⟩
theorem IL.of_row {L : List Int} {s0 : Nat} {v : Value} {w : World} (h : RowV L s0 v w) (hm : L.length ≤ maxLen) : IL L v w :=
  let ⟨p, cap, h1, h2⟩ := h
  ⟨p, cap, h1, hm, fun hL => let ⟨g, h3, h4, h5⟩ := h2 hL; ⟨g, 0, h3, fun k hk => by simpa [hk] using h5 k hk⟩⟩

set_option maxRecDepth 100000 in
set_option maxHeartbeats 2000000 in
theorem sameI_any (xs : List Int) (u v : Value) (w : World) (hu : IL xs u w) (hv : IL xs v w) :
    Calls Tryd.prog 38 #[u, v] w fun e w' => e = .returned (.bool true) ∧ Below w.heap.size w w' := by
  obtain ⟨p, cp, rfl, hm, hp⟩ := hu
  obtain ⟨q, cq, rfl, _, hq⟩ := hv
  unfold maxLen at hm
  have HP := Lib.hid hp
  have HQ := Lib.hid hq
  clear hp hq
  go_enter Tryd.func38, Tryd.ntmps38
  go_wp2_with fail
  go_loopw [5] (fun i wr => ∃ k : Nat, k ≤ xs.length ∧ i = .int .i64 k ∧ Below w.heap.size w wr) (fun i _ => xs.length - (intOf i).toNat)
  case atStart => exact ⟨0, Nat.zero_le _, rfl, Below.refl _ _⟩
  case round =>
    obtain ⟨k, hk, rfl, hB⟩ := hrel
    by_cases hlt : k < xs.length
    · have hx : xs ≠ [] := by intro e; simp [e] at hlt
      obtain ⟨b, off, rfl, hcp⟩ := HP.out hx
      obtain ⟨b2, off2, rfl, hcq⟩ := HQ.out hx
      have e1 := keepsB hB (hcp k hlt)
      have e2 := keepsB hB (hcq k hlt)
      have HC := Lib.hid (And.intro e1 e2)
      have hklt : (k : Int) < xs.length := by omega
      generalize xs[k] = x at *
      clear hcp hcq
      go_wp2_with fail
      have hF : ∀ W, Free.Bel wr.drew W → W.cell? ⟨b, off + k, none⟩ = some (.int .i64 x) ∧ W.cell? ⟨b2, off2 + k, none⟩ = some (.int .i64 x) :=
        fun W hW => ⟨keepsB (Free.Bel.first hW) HC.out.1, keepsB (Free.Bel.first hW) HC.out.2⟩
      refine Free.wp_free (R := Free.Bel) (by kernel_rfl) (by kernel_rfl) Free.Bel.refl Free.Bel.trans ?_
      refine Free.Chain.ex ?_ [] [0] (by kernel_rfl) (by kernel_rfl) rfl Free.Bel.refl ?_ ?_
      rotate_left
      · (intro ev W hb hR hO hD; have hS := hF W hR; obtain ⟨hb1, hb2, hb3⟩ := hb; simp only [Free.AllDeps, Free.AllOuts, Free.At, List.getElem?_cons_succ, List.getElem?_cons_zero, Array.getD_eq_getD_getElem?, List.getElem?_toArray, Option.getD_some, and_true] at hO hD; go_simp; rfl)
      simp only [List.nil_append, List.cons_append]
      refine Free.Chain.ex ?_ [] [5] (by kernel_rfl) (by kernel_rfl) rfl Free.Bel.refl ?_ ?_
      rotate_left
      · (intro ev W hb hR hO hD; have hS := hF W hR; obtain ⟨hb1, hb2, hb3⟩ := hb; simp only [Free.AllDeps, Free.AllOuts, Free.At, List.getElem?_cons_succ, List.getElem?_cons_zero, Array.getD_eq_getD_getElem?, List.getElem?_toArray, Option.getD_some, and_true] at hO hD; go_simp; rfl)
      simp only [List.nil_append, List.cons_append]
      refine Free.Chain.ex ?_ [(0, 17), (1, 18)] [] (by kernel_rfl) (by kernel_rfl) rfl Free.Bel.refl ?_ ?_
      rotate_left
      · (intro ev W hb hR hO hD; have hS := hF W hR; obtain ⟨hb1, hb2, hb3⟩ := hb; simp only [Free.AllDeps, Free.AllOuts, Free.At, List.getElem?_cons_succ, List.getElem?_cons_zero, Array.getD_eq_getD_getElem?, List.getElem?_toArray, Option.getD_some, and_true] at hO hD; go_simp; rfl)
      simp only [List.nil_append, List.cons_append]
      refine Free.Chain.ex ?_ [(2, 19)] [] (by kernel_rfl) (by kernel_rfl) rfl Free.Bel.refl ?_ ?_
      rotate_left
      · (intro ev W hb hR hO hD; have hS := hF W hR; obtain ⟨hb1, hb2, hb3⟩ := hb; simp only [Free.AllDeps, Free.AllOuts, Free.At, List.getElem?_cons_succ, List.getElem?_cons_zero, Array.getD_eq_getD_getElem?, List.getElem?_toArray, Option.getD_some, and_true] at hO hD; go_simp; rfl)
      simp only [List.nil_append, List.cons_append]
      refine Free.Chain.ex ?_ [] [1] (by kernel_rfl) (by kernel_rfl) rfl Free.Bel.refl ?_ ?_
      rotate_left
      · (intro ev W hb hR hO hD; have hS := hF W hR; obtain ⟨hb1, hb2, hb3⟩ := hb; simp only [Free.AllDeps, Free.AllOuts, Free.At, List.getElem?_cons_succ, List.getElem?_cons_zero, Array.getD_eq_getD_getElem?, List.getElem?_toArray, Option.getD_some, and_true] at hO hD; go_simp; rfl)
      simp only [List.nil_append, List.cons_append]
      refine Free.Chain.ex ?_ [] [5] (by kernel_rfl) (by kernel_rfl) rfl Free.Bel.refl ?_ ?_
      rotate_left
      · (intro ev W hb hR hO hD; have hS := hF W hR; obtain ⟨hb1, hb2, hb3⟩ := hb; simp only [Free.AllDeps, Free.AllOuts, Free.At, List.getElem?_cons_succ, List.getElem?_cons_zero, Array.getD_eq_getD_getElem?, List.getElem?_toArray, Option.getD_some, and_true] at hO hD; go_simp; rfl)
      simp only [List.nil_append, List.cons_append]
      refine Free.Chain.ex ?_ [(4, 21), (5, 22)] [] (by kernel_rfl) (by kernel_rfl) rfl Free.Bel.refl ?_ ?_
      rotate_left
      · (intro ev W hb hR hO hD; have hS := hF W hR; obtain ⟨hb1, hb2, hb3⟩ := hb; simp only [Free.AllDeps, Free.AllOuts, Free.At, List.getElem?_cons_succ, List.getElem?_cons_zero, Array.getD_eq_getD_getElem?, List.getElem?_toArray, Option.getD_some, and_true] at hO hD; go_simp; rfl)
      simp only [List.nil_append, List.cons_append]
      refine Free.Chain.ex ?_ [(6, 23)] [] (by kernel_rfl) (by kernel_rfl) rfl Free.Bel.refl ?_ ?_
      rotate_left
      · (intro ev W hb hR hO hD; have hS := hF W hR; obtain ⟨hb1, hb2, hb3⟩ := hb; simp only [Free.AllDeps, Free.AllOuts, Free.At, List.getElem?_cons_succ, List.getElem?_cons_zero, Array.getD_eq_getD_getElem?, List.getElem?_toArray, Option.getD_some, and_true] at hO hD; go_simp; rfl)
      simp only [List.nil_append, List.cons_append]
      refine Free.Chain.ex ?_ [(3, 20), (7, 24)] [] (by kernel_rfl) (by kernel_rfl) rfl Free.Bel.refl ?_ ?_
      rotate_left
      · (intro ev W hb hR hO hD; have hS := hF W hR; obtain ⟨hb1, hb2, hb3⟩ := hb; simp only [Free.AllDeps, Free.AllOuts, Free.At, List.getElem?_cons_succ, List.getElem?_cons_zero, Array.getD_eq_getD_getElem?, List.getElem?_toArray, Option.getD_some, and_true] at hO hD; go_simp; rfl)
      simp only [List.nil_append, List.cons_append]
      intro xs w' hR hV
      simp only [Free.AllV, Free.At, List.length_cons, List.length_nil, Nat.reduceAdd, List.getElem?_cons_succ, List.getElem?_cons_zero, true_and] at hV
      simp only [Free.putsFrom, Act.put, hV, List.setIfInBounds_toArray, List.set_cons_succ, List.set_cons_zero]
      have HB2 := Lib.hid (hB.trans ((Free.Bel.first hR).mono hB.size))
      clear hR hV hF
      go_wp2_with fail
      go_roundw
      case rel => exact ⟨k + 1, by omega, by go_num, HB2.out⟩
      case measure => simp [intOf]; omega
    · obtain rfl : k = xs.length := by omega
      go_wp2_with fail
      go_ret
      exact ⟨rfl, hB⟩
end Go.Proofs.YtknpglgpkkhhiaaDoor

/- Short names for long ones. -/
namespace Go.Proofs.YtknpglgpkkhhiaaDoor
theorem bt {a b c : World} (h : Free.Bel a b) (k : Free.Bel b c) : Free.Bel a c := Free.Bel.trans _ _ _ h k
theorem al1.{u} {α : Type u} {l : List α} {a : α} {i : Nat} : (a :: l)[i + 1]? = l[i]? := rfl
theorem al2.{u} {α : Type u} {l : List α} {a : α} : (a :: l)[0]? = some a := rfl
theorem al3.{u} {α : Type u} {xs : Array α} {i : Nat} {d : α} : xs.getD i d = xs[i]?.getD d := by simp
theorem al4.{u} {α : Type u} {l : List α} {i : Nat} : l.toArray[i]? = l[i]? := by simp
theorem al5.{u} {α : Type u} {a b : α} : (some a).getD b = a := rfl
theorem an1.{u} {α : Type u} (l : List α) : [] ++ l = l := rfl
theorem an2.{u} {α : Type u} {a : α} {l m : List α} : (a :: l) ++ m = a :: (l ++ m) := rfl
end Go.Proofs.YtknpglgpkkhhiaaDoor

/- Lists of days, and their comparison. -/
namespace Go.Proofs.YtknpglgpkkhhiaaDoor
set_option linter.unusedSimpArgs false
set_option linter.unusedVariables false
open Go.RowKit

/-- A slice that holds these lists of numbers. -/
def DL (ds : List (List Int)) (v : Value) (w : World) : Prop := ∃ p cap, v = .slice p ds.length cap ∧ ds.length ≤ maxLen ∧ (ds ≠ [] → ∃ b off, p = some ⟨b, off, none⟩ ∧ ∀ k, (h : k < ds.length) → ∃ u, w.cell? ⟨b, off + k, none⟩ = some u ∧ IL ds[k] u w)
theorem DL.nil (w : World) : DL [] (.slice none 0 0) w := ⟨none, 0, rfl, by simp, fun h => absurd rfl h⟩
theorem DL.keeps {ds : List (List Int)} {v : Value} {w w' : World} (h : DL ds v w) (hB : Below w.heap.size w w') : DL ds v w' :=
  let ⟨p, cap, h1, h2, h3⟩ := h
  ⟨p, cap, h1, h2, fun hx => let ⟨b, off, h4, h5⟩ := h3 hx; ⟨b, off, h4, fun k hk => let ⟨u, h6, h7⟩ := h5 k hk; ⟨u, keepsB hB h6, h7.keeps hB⟩⟩⟩

set_option maxRecDepth 100000 in
set_option maxHeartbeats 2000000 in
theorem sameD_any (ds : List (List Int)) (u v : Value) (w : World) (hu : DL ds u w) (hv : DL ds v w) :
    Calls Tryd.prog 29 #[u, v] w fun e w' => e = .returned (.bool true) ∧ Below w.heap.size w w' := by
  obtain ⟨p, cp, rfl, hm, hp⟩ := hu
  obtain ⟨q, cq, rfl, _, hq⟩ := hv
  unfold maxLen at hm
  have HP := Lib.hid hp
  have HQ := Lib.hid hq
  clear hp hq
  go_enter Tryd.func29, Tryd.ntmps29
  go_wp2_with fail
  go_loopw [5] (fun i wr => ∃ k : Nat, k ≤ ds.length ∧ i = .int .i64 k ∧ Below w.heap.size w wr) (fun i _ => ds.length - (intOf i).toNat)
  case atStart => exact ⟨0, Nat.zero_le _, rfl, Below.refl _ _⟩
  case round =>
    obtain ⟨k, hk, rfl, hB⟩ := hrel
    by_cases hlt : k < ds.length
    · have hx : ds ≠ [] := by intro e; simp [e] at hlt
      obtain ⟨b, off, rfl, hcp⟩ := HP.out hx
      obtain ⟨b2, off2, rfl, hcq⟩ := HQ.out hx
      obtain ⟨u1, e1, i1⟩ := hcp k hlt
      obtain ⟨u2, e2, i2⟩ := hcq k hlt
      have HI := Lib.hid (And.intro (i1.keeps hB) (i2.keeps hB))
      have HC := Lib.hid (And.intro (keepsB hB e1) (keepsB hB e2))
      have hklt : (k : Int) < ds.length := by omega
      obtain ⟨p1, c1, rfl, _, _⟩ := i1
      obtain ⟨p2, c2, rfl, _, _⟩ := i2
      clear hcp hcq e1 e2 hx
      generalize ds[k] = L at *
      go_wp2_with fail
      have hF : ∀ W, Free.Bel wr.drew W → W.cell? ⟨b, off + k, none⟩ = some (.slice p1 L.length c1) ∧ W.cell? ⟨b2, off2 + k, none⟩ = some (.slice p2 L.length c2) :=
        fun W hW => ⟨keepsB (Free.Bel.first hW) HC.out.1, keepsB (Free.Bel.first hW) HC.out.2⟩
      refine Free.wp_free (R := Free.Bel) (by kernel_rfl) (by kernel_rfl) Free.Bel.refl Free.Bel.trans ?_
      refine Free.Chain.ex ?_ [] [0] (by kernel_rfl) (by kernel_rfl) rfl Free.Bel.refl ?_ ?_
      rotate_left 2
      simp only [an1, an2]
      refine Free.Chain.ex ?_ [] [5] (by kernel_rfl) (by kernel_rfl) rfl Free.Bel.refl ?_ ?_
      rotate_left 2
      simp only [an1, an2]
      refine Free.Chain.ex ?_ [(0, 17), (1, 18)] [] (by kernel_rfl) (by kernel_rfl) rfl Free.Bel.refl ?_ ?_
      rotate_left 2
      simp only [an1, an2]
      refine Free.Chain.ex ?_ [(2, 19)] [] (by kernel_rfl) (by kernel_rfl) rfl Free.Bel.refl ?_ ?_
      rotate_left 2
      simp only [an1, an2]
      refine Free.Chain.ex ?_ [] [1] (by kernel_rfl) (by kernel_rfl) rfl Free.Bel.refl ?_ ?_
      rotate_left 2
      simp only [an1, an2]
      refine Free.Chain.ex ?_ [] [5] (by kernel_rfl) (by kernel_rfl) rfl Free.Bel.refl ?_ ?_
      rotate_left 2
      simp only [an1, an2]
      refine Free.Chain.ex ?_ [(4, 21), (5, 22)] [] (by kernel_rfl) (by kernel_rfl) rfl Free.Bel.refl ?_ ?_
      rotate_left 2
      simp only [an1, an2]
      refine Free.Chain.ex ?_ [(6, 23)] [] (by kernel_rfl) (by kernel_rfl) rfl Free.Bel.refl ?_ ?_
      rotate_left 2
      simp only [an1, an2]
      rotate_left
      iterate 8 (rotate_left; intro ev W hb hR hO hD; have hS := hF W hR; obtain ⟨hb1, hb2, hb3⟩ := hb; simp only [Free.AllDeps, Free.AllOuts, Free.At, al1, al2, al3, al4, al5, and_true] at hO hD; go_simp; rfl)
      refine Free.Chain.pr (fun v _ => v = .bool true) [(3, 20), (7, 24)] [] (by kernel_rfl) (by kernel_rfl) rfl (fun _ _ _ _ h => h) ?_ ?_
      · (intro ev W hb hR hO hD; have hS := hF W hR; obtain ⟨hb1, hb2, hb3⟩ := hb; simp only [Free.AllDeps, Free.AllOuts, Free.At, al1, al2, al3, al4, al5, and_true] at hO hD; go_simp; refine yields_enter ?_; (with_reducible refine (sameI_any L _ _ _ (HI.out.1.keeps (Free.Bel.first hR)) (HI.out.2.keeps (Free.Bel.first hR))).mono ?_); rintro e W2 ⟨rfl, hB2⟩; exact ⟨_, rfl, hB2, rfl⟩)
      simp only [an1, an2]
      refine Free.Chain.ex ?_ [(8, 25)] [] (by kernel_rfl) (by kernel_rfl) rfl Free.Bel.refl ?_ ?_
      rotate_left 2
      simp only [an1, an2]
      rotate_left
      rotate_left
      · (intro ev W hb hR hO hD; have hS := hF W hR; obtain ⟨hb1, hb2, hb3⟩ := hb; simp only [Free.AllDeps, Free.AllOuts, Free.At, al1, al2, al3, al4, al5, and_true] at hO hD; go_simp; rfl)
      intro xs w' hR hV
      simp only [Free.AllV, Free.At, List.length_cons, List.length_nil, Nat.reduceAdd, List.getElem?_cons_succ, List.getElem?_cons_zero, true_and] at hV
      simp only [Free.putsFrom, Act.put, hV, List.setIfInBounds_toArray, List.set_cons_succ, List.set_cons_zero]
      have HB2 := Lib.hid (hB.trans ((Free.Bel.first hR).mono hB.size))
      clear hR hV hF
      go_wp2_with fail
      go_roundw
      case rel => exact ⟨k + 1, by omega, by go_num, HB2.out⟩
      case measure => simp [intOf]; omega
    · obtain rfl : k = ds.length := by omega
      go_wp2_with fail
      go_ret
      exact ⟨rfl, hB⟩
end Go.Proofs.YtknpglgpkkhhiaaDoor

/- Arguments that are watches, and days. -/
namespace Go.Proofs.YtknpglgpkkhhiaaDoor
set_option linter.unusedSimpArgs false
set_option linter.unusedVariables false
open Go.RowKit

/-- A struct of three numbers. -/
theorem shape3 {H : Type} {enc : TypeId × Value → H} {P : Program} {W : World} {base : Nat} {spare : Nat → Bool} {held : Bool} {r : Reach} {b0 : Nat} {t : TypeId} {f0 f1 f2 : Field} {q0 q1 q2 : IntKind} {v : Value} {d : DataW H} {p : List MemPlace} (hs : P.underlying t = some (.struct #[f0, f1, f2])) (hone : Deep.oneCellFields P #[f0, f1, f2] = true) (hC : P.cellsOf t = 3)
    (k0 : P.underlying f0.type = some (.int q0)) (k1 : P.underlying f1.type = some (.int q1)) (k2 : P.underlying f2.type = some (.int q2))
    (hv : Value.okWide P W r b0 t v) (h : DataW.Trod enc P W base spare held t v d p) : ∃ a b c : Int, v = .agg #[.int q0 a, .int q1 b, .int q2 c] := by
  obtain ⟨cs, rfl, hsz⟩ := WideShapes.okWide_struct hs hv
  obtain ⟨l⟩ := cs
  match l, hsz.trans hC with
  | [c0, c1, c2], _ =>
    obtain ⟨fuel, hf⟩ := h
    obtain ⟨xs, n, _, hx, _, hlen, hg⟩ := DataW.trod_struct hs hf
    obtain ⟨o0, j0⟩ := Deep.hone_of hone 0 f0 rfl
    obtain ⟨o1, j1⟩ := Deep.hone_of hone 1 f1 rfl
    obtain ⟨o2, j2⟩ := Deep.hone_of hone 2 f2 rfl
    match xs, hlen with
    | [y0, y1, y2], _ =>
      have h0 : DataW.trod enc P W base spare held n f0.type [c0] = some y0 := by simpa [Value.cells, o0, j0] using hg 0 f0 rfl
      have h1 : DataW.trod enc P W base spare held n f1.type [c1] = some y1 := by simpa [Value.cells, o1, j1] using hg 1 f1 rfl
      have h2 : DataW.trod enc P W base spare held n f2.type [c2] = some y2 := by simpa [Value.cells, o2, j2] using hg 2 f2 rfl
      obtain ⟨a, ea, _, _⟩ := DataW.trod_int k0 h0
      obtain ⟨b, eb, _, _⟩ := DataW.trod_int k1 h1
      obtain ⟨c, ec, _, _⟩ := DataW.trod_int k2 h2
      simp at ea eb ec
      exact ⟨a, b, c, by rw [ea, eb, ec]⟩
/-- A slice that is nil has no room. -/
def NZ (v : Value) : Prop := ∀ n c, v = .slice none n c → n = 0 ∧ c = 0
theorem NZ.row {base : Nat} {e : TypeId} {size : Nat} {v : Value} {n : Nat} {xs : List Value} {w : World} (h : w.ownsRow base e size v n xs) : NZ v := by
  intro n' c' he
  rcases h.2 with ⟨rfl, _⟩ | ⟨g, cap, cur, rfl, _⟩
  · cases he; exact ⟨rfl, rfl⟩
  · cases he
theorem IL.of_own {base : Nat} {e : TypeId} {v : Value} {xs : List Int} {w : World} (hm : xs.length ≤ maxLen) (h : w.ownsRow base e 1 v xs.length (xs.map (Value.int .i64))) : IL xs v w := by
  rcases h.2 with ⟨rfl, h0⟩ | ⟨g, cap, cur, rfl, _, hg, _, _, _, ht⟩
  · have : xs = [] := List.eq_nil_of_length_eq_zero h0
    subst this
    exact IL.nil w
  · refine ⟨_, cap, rfl, hm, fun _ => ⟨g, 0, rfl, fun k hk => ?_⟩⟩
    have hc := h.cells (g := g) rfl k (.int .i64 xs[k]) (by simp [hk])
    simpa [Addr.add_lit] using hc
/-- Days whose slices, where they are nil, have no room. -/
def DZ (ds : List (List Int)) (v : Value) (w : World) : Prop := ∃ p cap, v = .slice p ds.length cap ∧ ds.length ≤ maxLen ∧ (p = none → ds.length = 0 ∧ cap = 0) ∧ (ds ≠ [] → ∃ b off, p = some ⟨b, off, none⟩ ∧ ∀ k, (h : k < ds.length) → ∃ u, w.cell? ⟨b, off + k, none⟩ = some u ∧ IL ds[k] u w ∧ NZ u)
theorem DZ.keeps {ds : List (List Int)} {v : Value} {w w' : World} (h : DZ ds v w) (hB : Below w.heap.size w w') : DZ ds v w' :=
  let ⟨p, cap, h1, h2, h0, h3⟩ := h
  ⟨p, cap, h1, h2, h0, fun hx => let ⟨b, off, h4, h5⟩ := h3 hx; ⟨b, off, h4, fun k hk => let ⟨u, h6, h7, h8⟩ := h5 k hk; ⟨u, keepsB hB h6, h7.keeps hB, h8⟩⟩⟩
theorem DZ.dl {ds : List (List Int)} {v : Value} {w : World} (h : DZ ds v w) : DL ds v w :=
  let ⟨p, cap, h1, h2, _, h3⟩ := h
  ⟨p, cap, h1, h2, fun hx => let ⟨b, off, h4, h5⟩ := h3 hx; ⟨b, off, h4, fun k hk => let ⟨u, h6, h7, _⟩ := h5 k hk; ⟨u, h6, h7⟩⟩⟩
theorem addE (b off k : Nat) : (⟨b, off, none⟩ : Addr).add k = ⟨b, off + k, none⟩ := by
  unfold Addr.add; split
  · rename_i h; simp [h]
  · rfl

section
variable {H : Type} {enc : TypeId × Value → H} {W : World} {sp : Nat → Bool} {held : Bool}
set_option maxRecDepth 100000 in
theorem ricks_open {t e : TypeId} {f0 f1 f2 : Field} {v : Value} {y : DataW H × List MemPlace} {n : Nat}
    (ht : Tryd.prog.underlying t = some (.slice e)) (he : Tryd.prog.underlying e = some (.struct #[f0, f1, f2])) (ce : Tryd.prog.cellsOf e = 3) (o0 : f0.offset = 0) (o1 : f1.offset = 1) (o2 : f2.offset = 2)
    (c0 : Tryd.prog.cellsOf f0.type = 1) (c1 : Tryd.prog.cellsOf f1.type = 1) (c2 : Tryd.prog.cellsOf f2.type = 1)
    (k0 : Tryd.prog.underlying f0.type = some (.int .i64)) (k1 : Tryd.prog.underlying f1.type = some (.int .i64)) (k2 : Tryd.prog.underlying f2.type = some (.int .i64))
    (h : DataW.trod enc Tryd.prog W 0 sp held n t [v] = some y) : ∃ (xs : List (Int × Int × Int)) (pp : Option Addr) (cap : Nat), v = .slice pp xs.length cap ∧ RL xs v W ∧ NZ v := by
  rcases Deep.open_slice ht h with ⟨h0, _⟩ | ⟨a, len, cap, m, n', D, Pl, h0, _, hl, hm, hmm, _, hx⟩
  · simp at h0
    subst h0
    exact ⟨[], none, 0, rfl, RL.nil W, fun n c h => by cases h; exact ⟨rfl, rfl⟩⟩
  · simp at h0
    subst h0
    have hlm : len ≤ m := by rw [hmm]; split <;> omega
    have each : ∀ i, i < len → ∃ q : Int × Int × Int, W.cell? (a.add (i * 3)) = some (.int .i64 q.1) ∧ W.cell? (a.add (i * 3 + 1)) = some (.int .i64 q.2.1) ∧ W.cell? (a.add (i * 3 + 2)) = some (.int .i64 q.2.2) := by
      intro i hi
      obtain ⟨cs', h1, h2⟩ := hx i (by omega)
      rw [ce] at h1
      obtain ⟨_, hlen, hcell⟩ := World.cells?_some h1
      obtain ⟨ys, k, hk, hxy, _, hxl, hf⟩ := DataW.trod_struct he h2
      match ys, hxl, cs', hlen with
      | [y0, y1, y2], _, [v0, v1, v2], _ =>
        have g0 := hf 0 f0 rfl
        have g1 := hf 1 f1 rfl
        have g2 := hf 2 f2 rfl
        simp [o0, o1, o2, c0, c1, c2] at g0 g1 g2
        have e0 := hcell 0 (by omega)
        have e1 := hcell 1 (by omega)
        have e2 := hcell 2 (by omega)
        rw [Deep.add_add] at e0 e1 e2
        obtain ⟨z0, w0, _, _⟩ := DataW.trod_int k0 g0
        obtain ⟨z1, w1, _, _⟩ := DataW.trod_int k1 g1
        obtain ⟨z2, w2, _, _⟩ := DataW.trod_int k2 g2
        simp at w0 w1 w2
        subst w0 w1 w2
        exact ⟨(z0, z1, z2), by simpa using e0, by simpa using e1, by simpa using e2⟩
    obtain ⟨q, hq⟩ := Deep.choose_lt each
    refine ⟨(List.range len).map q, some a, cap, by simp, ⟨some a, cap, by simp, by simp; unfold maxLen at *; omega, fun hne => ?_⟩, fun n c h => by cases h⟩
    have hl0 : 0 < len := by
      rcases Nat.eq_zero_or_pos len with h | h
      · subst h; simp at hne
      · exact h
    obtain ⟨b, off, spot⟩ := a
    have hs : spot = none := by simpa [Addr.add] using World.cell?_spot (hq 0 hl0).1
    subst hs
    refine ⟨b, off, rfl, fun k hk => ?_⟩
    have hk2 : k < len := by simpa using hk
    have h3 := hq k hk2
    simp only [List.getElem_map, List.getElem_range]
    rw [addE, addE, addE] at h3
    exact h3

set_option maxRecDepth 100000 in
theorem ints_open {t e : TypeId} {v : Value} {y : DataW H × List MemPlace} {n : Nat}
    (ht : Tryd.prog.underlying t = some (.slice e)) (he : Tryd.prog.underlying e = some (.int .i64)) (ce : Tryd.prog.cellsOf e = 1)
    (h : DataW.trod enc Tryd.prog W 0 sp held n t [v] = some y) : ∃ xs : List Int, IL xs v W ∧ NZ v := by
  rcases Deep.open_slice1 ht ce h with ⟨h0, _⟩ | ⟨a, len, cap, m, n', V, D, Pl, h0, _, hl, hm, hmm, _, hx⟩
  · simp at h0
    subst h0
    exact ⟨[], IL.nil W, fun n c h => by cases h; exact ⟨rfl, rfl⟩⟩
  · simp at h0
    subst h0
    have hlm : len ≤ m := by rw [hmm]; split <;> omega
    have each : ∀ i, i < len → ∃ q : Int, W.cell? (a.add i) = some (.int .i64 q) := by
      intro i hi
      obtain ⟨h1, h2⟩ := hx i (by omega)
      obtain ⟨z, e0, _, _⟩ := DataW.trod_int he h2
      simp at e0
      rw [e0] at h1
      exact ⟨z, h1⟩
    obtain ⟨q, hq⟩ := Deep.choose_lt each
    refine ⟨(List.range len).map q, ⟨some a, cap, by simp, by simp; unfold maxLen at *; omega, fun hne => ?_⟩, fun n c h => by cases h⟩
    have hl0 : 0 < len := by
      rcases Nat.eq_zero_or_pos len with h | h
      · subst h; simp at hne
      · exact h
    obtain ⟨b, off, spot⟩ := a
    have hs : spot = none := by simpa [Addr.add] using World.cell?_spot (hq 0 hl0)
    subst hs
    refine ⟨b, off, rfl, fun k hk => ?_⟩
    have h3 := hq k (by simpa using hk)
    simp only [List.getElem_map, List.getElem_range]
    rw [addE] at h3
    exact h3

set_option maxRecDepth 100000 in
theorem days_open {t e g : TypeId} {v : Value} {y : DataW H × List MemPlace} {n : Nat}
    (ht : Tryd.prog.underlying t = some (.slice e)) (he : Tryd.prog.underlying e = some (.slice g)) (hg : Tryd.prog.underlying g = some (.int .i64)) (ce : Tryd.prog.cellsOf e = 1) (cg : Tryd.prog.cellsOf g = 1)
    (h : DataW.trod enc Tryd.prog W 0 sp held n t [v] = some y) : ∃ ds : List (List Int), DZ ds v W := by
  rcases Deep.open_slice1 ht ce h with ⟨h0, _⟩ | ⟨a, len, cap, m, n', V, D, Pl, h0, _, hl, hm, hmm, _, hx⟩
  · simp at h0
    subst h0
    exact ⟨[], none, 0, rfl, by simp, fun _ => ⟨rfl, rfl⟩, fun h => absurd rfl h⟩
  · simp at h0
    subst h0
    have hlm : len ≤ m := by rw [hmm]; split <;> omega
    have each : ∀ i, i < len → ∃ q : List Int, ∃ u, W.cell? (a.add i) = some u ∧ IL q u W ∧ NZ u := by
      intro i hi
      obtain ⟨h1, h2⟩ := hx i (by omega)
      obtain ⟨q, h3, h4⟩ := ints_open he hg cg h2
      exact ⟨q, _, h1, h3, h4⟩
    obtain ⟨q, hq⟩ := Deep.choose_lt each
    refine ⟨(List.range len).map q, some a, cap, by simp, by simp; unfold maxLen at *; omega, (fun h => by cases h), fun hne => ?_⟩
    have hl0 : 0 < len := by
      rcases Nat.eq_zero_or_pos len with h | h
      · subst h; simp at hne
      · exact h
    obtain ⟨b, off, spot⟩ := a
    obtain ⟨u0, hu0, _⟩ := hq 0 hl0
    have hs : spot = none := by simpa [Addr.add] using World.cell?_spot hu0
    subst hs
    refine ⟨b, off, rfl, fun k hk => ?_⟩
    have h3 := hq k (by simpa using hk)
    simp only [List.getElem_map, List.getElem_range]
    rw [addE] at h3
    exact h3
end
end Go.Proofs.YtknpglgpkkhhiaaDoor

/- The reference's Twin. -/
namespace Go.Proofs.YtknpglgpkkhhiaaDoor
set_option linter.unusedSimpArgs false
set_option linter.unusedVariables false
open Go.RowKit

theorem ricks_news {xs : List (Int × Int × Int)} {p : Option Addr} {cp : Nat} {w : World} (hp : xs ≠ [] → ∃ b off, p = some ⟨b, off, none⟩ ∧ ∀ k, (h : k < xs.length) → w.cell? ⟨b, off + k * 3, none⟩ = some (.int .i64 xs[k].1) ∧ w.cell? ⟨b, off + k * 3 + 1, none⟩ = some (.int .i64 xs[k].2.1) ∧ w.cell? ⟨b, off + k * 3 + 2, none⟩ = some (.int .i64 xs[k].2.2)) :
    ∀ W, Below w.heap.size w W → ∀ ad, p = some ad → ∀ j u, (cellsR xs)[j]? = some u → W.cell? (ad.add j) = some u := by
  intro W hW ad hpa j u hj
  by_cases hx : xs = []
  · subst hx; simp [cellsR] at hj
  · obtain ⟨b, off, rfl, hc⟩ := hp hx
    cases hpa
    exact cellsR_news (fun k hk => ⟨keepsB hW (hc k hk).1, keepsB hW (hc k hk).2.1, keepsB hW (hc k hk).2.2⟩) j u hj

set_option maxRecDepth 100000 in
set_option maxHeartbeats 2000000 in
theorem twin_any (h : Int) (xs : List (Int × Int × Int)) (u : Value) (w : World) (hu : RL xs u w) (hz : NZ u) (hn : xs.length ≤ 1000) :
    Calls Tryd.prog 19 #[.agg #[.int .i64 h, u]] w fun e w' => ∃ v, e = .returned (.agg #[.int .i64 h, v]) ∧ w'.ownsRow w.heap.size 47 3 v xs.length (cellsR xs) ∧ Below w.heap.size w w' := by
  obtain ⟨p, cp, rfl, hm, hp⟩ := hu
  have HNEW := Lib.hid (ricks_news (cp := cp) hp)
  have HNIL : Hid (p = none → xs.length = 0 ∧ cp = 0) := fun e => hz _ _ (by rw [e])
  clear hp hz
  obtain ⟨i0, hi0, hz0, hz1, hz2⟩ := info_parts T.infoRick
  have HZ := Lib.hid (And.intro hi0 (And.intro hz0 (And.intro hz1 hz2)))
  clear hi0 hz0 hz1 hz2
  go_enter Tryd.func19, Tryd.ntmps19
  go_wp2_with fail
  refine with_world ?_
  intro W1 hW1
  have hB1 : Below w.heap.size w W1 := by rw [hW1]; exact ((Below.refl _ w).alloc (Nat.le_refl _) _).alloc (by simp) _
  have hs1 : W1.heap.size = w.heap.size + 1 + 1 := by rw [hW1]; simp
  have n0 : W1.cell? ⟨w.heap.size, 0, none⟩ = some (.int .i64 h) := by rw [hW1]; simp [go_sem]
  have n1 : W1.cell? ⟨w.heap.size, 1, none⟩ = some (.slice p xs.length cp) := by rw [hW1]; simp [go_sem]
  have n2 : W1.heap[w.heap.size + 1]? = some (.cells #[.int .i64 0, .slice none 0 0] 24 (0, 0)) := by
    rw [hW1]
    have := World.alloc_heap_new (w.alloc (.cells #[.int .i64 h, .slice p xs.length cp] 24)) (.cells #[.int .i64 0, .slice none 0 0] 24)
    simpa using this
  have HW := Lib.hid hW1
  clear hW1
  have hF : ∀ W, RS (w.heap.size + 1) (Pair2 (w.heap.size + 1) (w.heap.size + 1 + 1) 24 47 3 (.int .i64 h) xs.length (cellsR xs)) W1.drew W → (W.cell? ⟨w.heap.size, 0, none⟩ = some (.int .i64 h) ∧ W.cell? ⟨w.heap.size, 1, none⟩ = some (.slice p xs.length cp)) ∧ (w.heap.size + 1 + 1 ≤ W.heap.size ∧ Below w.heap.size w W ∧ ∃ c0 c1, W.heap[w.heap.size + 1]? = some (.cells #[c0, c1] 24 (0, 0))) := fun W hW =>
    ⟨⟨hW.bx.cell (show W1.drew.cell? _ = _ from n0) (by simp), hW.bx.cell (show W1.drew.cell? _ = _ from n1) (by simp)⟩, Nat.le_trans (Nat.le_of_eq hs1.symm) hW.bx.size, BX.below (hB1.drew) hW.bx (by simp [hs1]; omega) (by omega), by
      rcases hW.now with e | ⟨v, _, e⟩
      · exact ⟨_, _, e.trans (show W1.drew.heap[_]? = _ from n2)⟩
      · exact ⟨_, _, e⟩⟩
  refine Free.wp_free (R := RS (w.heap.size + 1) (Pair2 (w.heap.size + 1) (w.heap.size + 1 + 1) 24 47 3 (.int .i64 h) xs.length (cellsR xs))) (by kernel_rfl) (by kernel_rfl) (RS.refl _ _) (RS.trans Pair2.kept) ?_
  refine Free.Chain.ex ?_ [] [1] (by kernel_rfl) (by kernel_rfl) rfl (RS.refl _ _) ?_ ?_
  rotate_left
  · (intro ev W hb hR hO hD; have hS := hF W hR; obtain ⟨hb1, hb2, hb3⟩ := hb; simp only [Free.AllDeps, Free.AllOuts, Free.At, al1, al2, al3, al4, al5, and_true] at hO hD; obtain ⟨hS, hS2⟩ := hS; go_simp; rfl)
  simp only [an1, an2]
  refine Free.Chain.ex ?_ [(0, 3)] [] (by kernel_rfl) (by kernel_rfl) rfl (RS.refl _ _) ?_ ?_
  rotate_left
  · (intro ev W hb hR hO hD; have hS := hF W hR; obtain ⟨hb1, hb2, hb3⟩ := hb; simp only [Free.AllDeps, Free.AllOuts, Free.At, al1, al2, al3, al4, al5, and_true] at hO hD; obtain ⟨hS, hS2⟩ := hS; go_simp; rfl)
  simp only [an1, an2]
  refine Free.Chain.pr (LitV (w.heap.size + 1 + 1) 47) [] [] (by kernel_rfl) (by kernel_rfl) rfl (RS.stableLit (by omega)) ?_ ?_
  · (intro ev W hb hR hO hD; have hS := hF W hR; obtain ⟨hb1, hb2, hb3⟩ := hb; simp only [Free.AllDeps, Free.AllOuts, Free.At, al1, al2, al3, al4, al5, and_true] at hO hD; obtain ⟨hS, hS2⟩ := hS; go_simp; exact ⟨RS.of_bel ((Below.refl _ _).alloc (Nat.le_refl _) _) (by omega), LitV.made (by omega)⟩)
  simp only [an1, an2]
  refine Free.Chain.ex ?_ [] [1] (by kernel_rfl) (by kernel_rfl) rfl (RS.refl _ _) ?_ ?_
  rotate_left
  · (intro ev W hb hR hO hD; have hS := hF W hR; obtain ⟨hb1, hb2, hb3⟩ := hb; simp only [Free.AllDeps, Free.AllOuts, Free.At, al1, al2, al3, al4, al5, and_true] at hO hD; obtain ⟨hS, hS2⟩ := hS; go_simp; rfl)
  simp only [an1, an2]
  refine Free.Chain.ex ?_ [(3, 6)] [] (by kernel_rfl) (by kernel_rfl) rfl (RS.refl _ _) ?_ ?_
  rotate_left
  · (intro ev W hb hR hO hD; have hS := hF W hR; obtain ⟨hb1, hb2, hb3⟩ := hb; simp only [Free.AllDeps, Free.AllOuts, Free.At, al1, al2, al3, al4, al5, and_true] at hO hD; obtain ⟨hS, hS2⟩ := hS; go_simp; rfl)
  simp only [an1, an2]
  refine Free.Chain.pr (fun v w1 => w1.ownsRow (w.heap.size + 1 + 1) 47 3 v xs.length (cellsR xs)) [(2, 5), (4, 7)] [] (by kernel_rfl) (by kernel_rfl) rfl (RS.stableRow (by omega)) ?_ ?_
  · (intro ev W hb hR hO hD; have hS := hF W hR; obtain ⟨hb1, hb2, hb3⟩ := hb; simp only [Free.AllDeps, Free.AllOuts, Free.At, al1, al2, al3, al4, al5, and_true] at hO hD; obtain ⟨hS, hS2⟩ := hS; obtain ⟨⟨g, hg1, hg2, hg3⟩, hx4⟩ := hD; refine yields_append_full W _ (.tmp 5) (.tmp 7) 22 rfl (w.heap.size + 1 + 1) 47 i0 (.agg #[.int .i64 0, .int .i64 0, .int .i64 0]) 3 24 Tryd.underlying22 HZ.out.1 HZ.out.2.1 HZ.out.2.2.1 HZ.out.2.2.2 rfl (by decide) g 0 #[] hg1 hg3 rfl hg2 p xs.length cp (cellsR xs) hx4 (cellsR_length xs) (HNEW.out W hS2.2.1) HNIL.out (by unfold maxLen; omega) (by omega) ?_; intro v9 w9 ho9 hb9; exact ⟨RS.of_bel hb9 (by omega), by simpa using ho9⟩)
  simp only [an1, an2]
  refine Free.Chain.pr (fun v w1 => ∃ v5, v = .agg #[.int .i64 h, v5] ∧ w1.ownsRow (w.heap.size + 1 + 1) 47 3 v5 xs.length (cellsR xs)) [(1, 4), (5, 8)] [] (by kernel_rfl) (by kernel_rfl) rfl (fun v a b hr ⟨v5, e, k⟩ => ⟨v5, e, hr.bx.row k (by omega)⟩) ?_ ?_
  · (intro ev W hb hR hO hD; have hS := hF W hR; obtain ⟨hb1, hb2, hb3⟩ := hb; simp only [Free.AllDeps, Free.AllOuts, Free.At, al1, al2, al3, al4, al5, and_true] at hO hD; obtain ⟨h4, h8⟩ := hD; obtain ⟨p8, c8, e8⟩ := row_slice h8; rw [e8] at h8; go_simp; exact ⟨RS.refl _ _ _, _, rfl, h8⟩)
  simp only [an1, an2]
  refine Free.Chain.pr (fun _ w1 => Pair2 (w.heap.size + 1) (w.heap.size + 1 + 1) 24 47 3 (.int .i64 h) xs.length (cellsR xs) w1) [(6, 9), (5, 8), (0, 3), (1, 4), (2, 5), (3, 6), (4, 7), (5, 8), (6, 9)] [2] (by kernel_rfl) (by kernel_rfl) rfl (RS.stable Pair2.kept) ?_ ?_
  · (intro ev W hb hR hO hD; have hS := hF W hR; obtain ⟨hb1, hb2, hb3⟩ := hb; simp only [Free.AllDeps, Free.AllOuts, Free.At, al1, al2, al3, al4, al5, and_true] at hO hD; obtain ⟨hS, hS2⟩ := hS; obtain ⟨c0, c1, hc⟩ := hS2.2.2; obtain ⟨⟨v5, hv5, ho5⟩, hx5⟩ := hD; obtain ⟨p5, c5, rfl⟩ := row_slice ho5; have q0 := cell_of_heap (o := 0) hc rfl; have q1 := cell_of_heap (o := 1) hc rfl; have p0 := frozen_of_heap (o := 0) hc; have p1 := frozen_of_heap (o := 1) hc; go_simp; have hph : Pair2 (w.heap.size + 1) (w.heap.size + 1 + 1) 24 47 3 (.int .i64 h) xs.length (cellsR xs) ((W.setCell ⟨w.heap.size + 1, 0, none⟩ (.int .i64 h)).setCell ⟨w.heap.size + 1, 1, none⟩ (.slice p5 xs.length c5)) := ⟨_, (BX.set.trans BX.set).row ho5 (by omega), by have := heap_setCell_same (o := 1) (.slice p5 xs.length c5) (heap_setCell_same (o := 0) (.int .i64 h) hc); simpa using this⟩; exact ⟨⟨BX.set.trans BX.set, .inr hph⟩, hph⟩)
  simp only [an1, an2]
  intro ys w' hR hV
  simp only [Free.AllV, Free.At, List.length_cons, List.length_nil, Nat.reduceAdd, List.getElem?_cons_succ, List.getElem?_cons_zero, true_and] at hV
  simp only [Free.putsFrom, Act.put, hV, List.setIfInBounds_toArray, List.set_cons_succ, List.set_cons_zero]
  obtain ⟨v5, ho5, hc5⟩ : Pair2 (w.heap.size + 1) (w.heap.size + 1 + 1) 24 47 3 (.int .i64 h) xs.length (cellsR xs) w' := hV.2
  have q0 := cell_of_heap (o := 0) hc5 rfl
  have q1 := cell_of_heap (o := 1) hc5 rfl
  have HBE := Lib.hid (hF w' hR).2.2.1
  have HO := Lib.hid (row_mono ho5 (show w.heap.size ≤ w.heap.size + 1 + 1 by omega))
  clear hR hV hF ho5 n0 n1 n2
  go_wp2_with fail
  exact bodyPost_ret (v := .agg #[.int .i64 h, v5]) (by simp [results, Tryd.results19, go_sem, q0, q1]) rfl ⟨v5, rfl, HO.out, HBE.out⟩
end Go.Proofs.YtknpglgpkkhhiaaDoor

/- The reference's Watch: whether a watch is valid. -/
namespace Go.Proofs.YtknpglgpkkhhiaaDoor
set_option linter.unusedSimpArgs false
set_option linter.unusedVariables false
open Go.RowKit

/-- Whether ricks are valid, behind one with the number last. -/
def risesB (last : Int) : List (Int × Int × Int) → Bool
  | [] => true
  | x :: r => inB (last + 1) 9999 [x.1] && (inB 1 6 [x.2.1] && (inB 0 (x.2.1 - 1) [x.2.2] && risesB x.1 r))
def watchB (h : Int) (xs : List (Int × Int × Int)) : Bool := inB 0 3 [h] && (decide (xs.length ≤ 4) && risesB 0 xs)
set_option maxRecDepth 100000 in
set_option maxHeartbeats 4000000 in
theorem watchR_v (h : Int) (xs : List (Int × Int × Int)) (u : Value) (w : World) (hu : RL xs u w) (r : Bool) (hr : Hid (watchB h xs = r)) :
    Calls Tryd.prog 65 #[.agg #[.int .i64 h, u]] w fun e w' => e = .returned (.bool r) ∧ Below w.heap.size w w' := by
  obtain ⟨p, cp, rfl, hm, hp⟩ := hu
  unfold maxLen at hm
  have HP := Lib.hid hp
  clear hp
  have hB0 : Below w.heap.size w (w.alloc (.cells #[.int .i64 h, .slice p xs.length cp] 24)) := (Below.refl _ w).alloc (Nat.le_refl _) _
  cases h1 : inB 0 3 [h]
  · have H1 := Lib.hid h1
    obtain rfl : r = false := by rw [← hr.out, watchB, h1, Bool.false_and]
    clear h1
    go_enter Tryd.func65, Tryd.ntmps65
    go_wp2_with fail
    refine (within_any h 0 3 false _ H1.out).mono ?_
    rintro e _ ⟨rfl, rfl⟩
    go_wp2_with fail
    go_ret
    exact ⟨rfl, hB0⟩
  · have H1 := Lib.hid h1
    by_cases h4 : xs.length ≤ 4
    · have k4 : decide (4 < (xs.length : Int)) = false := decide_eq_false (by omega)
      have hr2 : Hid (risesB 0 xs = r) := by show _ = _; rw [← hr.out, watchB, h1, decide_eq_true h4, Bool.true_and, Bool.true_and]
      clear h1
      go_enter Tryd.func65, Tryd.ntmps65
      go_wp2_with fail
      refine (within_any h 0 3 true _ H1.out).mono ?_
      rintro e _ ⟨rfl, rfl⟩
      go_wp2_with fail
      generalize w.alloc (.cells #[.int .i64 h, .slice p xs.length cp] 24) = w1 at *
      go_loopw [19, 3] (fun i l wr => ∃ (k : Nat) (last : Int), k ≤ xs.length ∧ i = .int .i64 k ∧ l = .int .i64 last ∧ 0 ≤ last ∧ last ≤ 9999 ∧ Hid (risesB last (xs.drop k) = r) ∧ Free.Bel w1 wr) (fun i _ _ => xs.length - (intOf i).toNat)
      case atStart => exact ⟨0, 0, Nat.zero_le _, rfl, rfl, by omega, by omega, hr2, Free.Bel.refl _⟩
      case round =>
        obtain ⟨k, last, hk, rfl, rfl, hl0, hl1, hrest, hB⟩ := hrel
        have hww : Below w.heap.size w wr := hB0.trans (hB.mono hB0.size)
        by_cases hlt : k < xs.length
        · have hx : xs ≠ [] := by intro e; simp [e] at hlt
          obtain ⟨b, off, rfl, hcp⟩ := HP.out hx
          obtain ⟨d1, d2, d3⟩ := hcp k hlt
          have e1 := keepsB hww d1
          have e2 := keepsB hww d2
          have e3 := keepsB hww d3
          have hklt : (k : Int) < xs.length := by omega
          have hst : Hid ((inB (last + 1) 9999 [xs[k].1] && (inB 1 6 [xs[k].2.1] && (inB 0 (xs[k].2.1 - 1) [xs[k].2.2] && risesB xs[k].1 (xs.drop (k + 1))))) = r) := by
            show _ = _
            rw [← hrest.out, List.drop_eq_getElem_cons hlt]; rfl
          clear hcp hx d1 d2 d3
          generalize xs[k] = x at *
          obtain ⟨x1, x2, x3⟩ := x
          have hlw : IntKind.i64.wrap (last + 1) = last + 1 := IntWalk.i64_in _ (by omega)
          have KA : Free.Bel wr (wr.alloc (.cells #[.int .i64 x1, .int .i64 x2, .int .i64 x3] 47)) := belAlloc _ _
          have hend : Below w.heap.size w (wr.alloc (.cells #[.int .i64 x1, .int .i64 x2, .int .i64 x3] 47)) := hww.trans (KA.mono hww.size)
          have HEND := Lib.hid hend
          clear hend
          cases a1 : inB (last + 1) 9999 [x1]
          · have A1 := Lib.hid a1
            obtain rfl : r = false := by rw [← hst.out, a1, Bool.false_and]
            clear a1
            go_wp2_with fail
            refine (within_any x1 (last + 1) 9999 false _ A1.out).mono ?_
            rintro e _ ⟨rfl, rfl⟩
            go_wp2_with fail
            go_ret
            exact ⟨rfl, HEND.out⟩
          · have A1 := Lib.hid a1
            have hb1 : last + 1 ≤ x1 ∧ x1 ≤ 9999 := by simpa [inB] using a1
            cases a2 : inB 1 6 [x2]
            · have A2 := Lib.hid a2
              obtain rfl : r = false := by rw [← hst.out, a1, a2, Bool.true_and, Bool.false_and]
              clear a1 a2
              go_wp2_with fail
              refine (within_any x1 (last + 1) 9999 true _ A1.out).mono ?_
              rintro e _ ⟨rfl, rfl⟩
              go_wp2_with fail
              refine (within_any x2 1 6 false _ A2.out).mono ?_
              rintro e _ ⟨rfl, rfl⟩
              go_wp2_with fail
              go_ret
              exact ⟨rfl, HEND.out⟩
            · have A2 := Lib.hid a2
              have hb2 : 1 ≤ x2 ∧ x2 ≤ 6 := by simpa [inB] using a2
              have hxw : IntKind.i64.wrap (x2 - 1) = x2 - 1 := IntWalk.i64_in _ (by omega)
              cases a3 : inB 0 (x2 - 1) [x3]
              · have A3 := Lib.hid a3
                obtain rfl : r = false := by rw [← hst.out, a1, a2, a3, Bool.true_and, Bool.true_and, Bool.false_and]
                clear a1 a2 a3
                go_wp2_with fail
                refine (within_any x1 (last + 1) 9999 true _ A1.out).mono ?_
                rintro e _ ⟨rfl, rfl⟩
                go_wp2_with fail
                refine (within_any x2 1 6 true _ A2.out).mono ?_
                rintro e _ ⟨rfl, rfl⟩
                go_wp2_with fail
                refine (within_any x3 0 (x2 - 1) false _ A3.out).mono ?_
                rintro e _ ⟨rfl, rfl⟩
                go_wp2_with fail
                go_ret
                exact ⟨rfl, HEND.out⟩
              · have A3 := Lib.hid a3
                have hnext : Hid (risesB x1 (xs.drop (k + 1)) = r) := by show _ = _; rw [← hst.out, a1, a2, a3, Bool.true_and, Bool.true_and, Bool.true_and]
                clear a1 a2 a3
                go_wp2_with fail
                refine (within_any x1 (last + 1) 9999 true _ A1.out).mono ?_
                rintro e _ ⟨rfl, rfl⟩
                go_wp2_with fail
                refine (within_any x2 1 6 true _ A2.out).mono ?_
                rintro e _ ⟨rfl, rfl⟩
                go_wp2_with fail
                refine (within_any x3 0 (x2 - 1) true _ A3.out).mono ?_
                rintro e _ ⟨rfl, rfl⟩
                go_wp2_with fail
                go_roundw
                case rel => exact ⟨k + 1, x1, by omega, by go_num, rfl, by omega, by omega, hnext, Free.Bel.trans _ _ _ hB KA⟩
                case measure => simp [intOf]; omega
        · obtain rfl : k = xs.length := by omega
          obtain rfl : r = true := by rw [← hrest.out, List.drop_length]; rfl
          go_wp2_with fail
          go_ret
          exact ⟨rfl, hww⟩
    · have k4 : decide (4 < (xs.length : Int)) = true := decide_eq_true (by omega)
      obtain rfl : r = false := by rw [← hr.out, watchB, h1, decide_eq_false h4, Bool.true_and, Bool.false_and]
      clear h1
      go_enter Tryd.func65, Tryd.ntmps65
      go_wp2_with fail
      refine (within_any h 0 3 true _ H1.out).mono ?_
      rintro e _ ⟨rfl, rfl⟩
      go_wp2_with fail
      go_ret
      exact ⟨rfl, hB0⟩
end Go.Proofs.YtknpglgpkkhhiaaDoor

/- Days that are played, rick by rick; days that repeat. -/
namespace Go.Proofs.YtknpglgpkkhhiaaDoor
set_option linter.unusedSimpArgs false
set_option linter.unusedVariables false
open Go.RowKit

abbrev Rk := Int × Int × Int
/-- A rick behind a day. -/
def turnW (day : List Int) (x : Rk) : Rk := (x.1, x.2.1, if day.contains x.1 then 0 else x.2.2 + 1)
def dayR (day : List Int) (xs : List Rk) : List Rk := xs.map (turnW day)
def hotR (n : Int) (xs : List Rk) : List (Int × Int) := (xs.filter fun x => x.2.2 == x.2.1).map fun x => (n, x.1)
/-- Days that are played: the ricks behind them, and what becomes hot. -/
def endR (xs : List Rk) : List (List Int) → List Rk
  | [] => xs
  | d :: r => endR (dayR d xs) r
def heatR (n : Int) (xs : List Rk) : List (List Int) → List (Int × Int)
  | [] => []
  | d :: r => hotR (n + 1) (dayR d xs) ++ heatR (n + 1) (dayR d xs) r
def runW (x : Rk) : List (List Int) → Rk
  | [] => x
  | d :: r => runW (turnW d x) r
def coolW (x : Rk) : List (List Int) → Bool
  | [] => true
  | d :: r => ((turnW d x).2.2 != x.2.1) && coolW (turnW d x) r
theorem endR_map (xs : List Rk) (ds : List (List Int)) : endR xs ds = xs.map fun x => runW x ds := by
  induction ds generalizing xs with
  | nil => simp [endR, runW]
  | cons d r ih => simp only [endR, runW, dayR, ih, List.map_map]; rfl
theorem hotR_nil (n : Int) (xs : List Rk) : hotR n xs = [] ↔ ∀ x ∈ xs, x.2.2 ≠ x.2.1 := by
  simp [hotR, List.filter_eq_nil_iff]
theorem heatR_nil (n : Int) (xs : List Rk) (ds : List (List Int)) : heatR n xs ds = [] ↔ ∀ x ∈ xs, coolW x ds = true := by
  induction ds generalizing xs n with
  | nil => simp [heatR, coolW]
  | cons d r ih =>
    simp only [heatR, List.append_eq_nil_iff, hotR_nil, ih, coolW, Bool.and_eq_true, dayR, List.mem_map, forall_exists_index, and_imp, forall_apply_eq_imp_iff₂]
    constructor
    · rintro ⟨h1, h2⟩ x hx
      exact ⟨by simpa [turnW] using h1 x hx, h2 x hx⟩
    · intro h
      exact ⟨fun x hx => by simpa [turnW] using (h x hx).1, fun x hx => (h x hx).2⟩
theorem runW_keys (x : Rk) (ds : List (List Int)) : (runW x ds).1 = x.1 ∧ (runW x ds).2.1 = x.2.1 := by
  induction ds generalizing x with
  | nil => exact ⟨rfl, rfl⟩
  | cons d r ih => exact ⟨(ih _).1, (ih _).2⟩
/-- A rick that is turned: what it has waited at the end does not come from the beginning. -/
theorem runW_turned (i e a b : Int) (ds : List (List Int)) (h : ∃ d ∈ ds, d.contains i = true) : runW (i, e, a) ds = runW (i, e, b) ds := by
  induction ds generalizing a b with
  | nil => obtain ⟨d, hd, _⟩ := h; cases hd
  | cons d r ih =>
    simp only [runW]
    by_cases hc : d.contains i = true
    · simp only [turnW, hc, if_true]
    · have hr : ∃ d ∈ r, d.contains i = true := by
        obtain ⟨d', hd', hc'⟩ := h
        rcases List.mem_cons.1 hd' with rfl | hd'
        · exact absurd hc' hc
        · exact ⟨d', hd', hc'⟩
      exact ih _ _ hr
/-- One that is never turned only waits. -/
theorem runW_never (i e a : Int) (ds : List (List Int)) (h : ∀ d ∈ ds, d.contains i = false) (ha : a < e) (hc : coolW (i, e, a) ds = true) : runW (i, e, a) ds = (i, e, a + ds.length) ∧ a + ds.length < e := by
  induction ds generalizing a with
  | nil => simp [runW]; exact ha
  | cons d r ih =>
    have hd := h d (by simp)
    simp only [coolW, turnW, hd, Bool.and_eq_true, bne_iff_ne, Bool.false_eq_true, if_false] at hc
    obtain ⟨h1, h2⟩ := hc
    have := ih (a + 1) (fun d hd => h d (by simp [hd])) (by omega) h2
    simp only [runW, turnW, hd, Bool.false_eq_true, if_false, List.length_cons]
    refine ⟨?_, ?_⟩
    · rw [this.1, show a + 1 + (r.length : Int) = a + ((r.length + 1 : Nat) : Int) by omega]
    · have := this.2; omega
theorem runW_range (i e a : Int) (ds : List (List Int)) (ha : 0 ≤ a ∧ a < e) (hc : coolW (i, e, a) ds = true) : 0 ≤ (runW (i, e, a) ds).2.2 ∧ (runW (i, e, a) ds).2.2 < e := by
  induction ds generalizing a with
  | nil => exact ha
  | cons d r ih =>
    simp only [coolW, turnW, Bool.and_eq_true, bne_iff_ne] at hc
    simp only [runW, turnW]
    refine ih _ ?_ hc.2
    have h1 := hc.1
    split at h1
    · rename_i hx; simp only [hx, if_true]; omega
    · rename_i hx; simp only [hx, if_false]; omega
theorem runW_nonneg (x : Rk) (ds : List (List Int)) (ha : 0 ≤ x.2.2) : 0 ≤ (runW x ds).2.2 ∧ (runW x ds).2.2 ≤ x.2.2 + ds.length := by
  induction ds generalizing x with
  | nil => simp [runW]; exact ha
  | cons d r ih =>
    have h2 : 0 ≤ (turnW d x).2.2 ∧ (turnW d x).2.2 ≤ x.2.2 + 1 := by simp only [turnW]; split <;> omega
    have := ih (turnW d x) h2.1
    simp only [runW, List.length_cons]
    omega

/-- What a rick of a valid watch is. -/
def okR (x : Rk) : Prop := 1 ≤ x.1 ∧ x.1 ≤ 9999 ∧ 1 ≤ x.2.1 ∧ x.2.1 ≤ 6 ∧ 0 ≤ x.2.2 ∧ x.2.2 < x.2.1
theorem risesB_ok {last : Int} {xs : List Rk} (h : risesB last xs = true) (hl : 0 ≤ last) : ∀ x ∈ xs, okR x ∧ last < x.1 := by
  induction xs generalizing last with
  | nil => simp
  | cons y r ih =>
    simp only [risesB, inB, List.all_cons, List.all_nil, Bool.and_true, Bool.and_eq_true, decide_eq_true_eq] at h
    obtain ⟨⟨h1, h2⟩, ⟨h3, h4⟩, ⟨h5, h6⟩, h7⟩ := h
    intro x hx
    rcases List.mem_cons.1 hx with rfl | hx
    · exact ⟨⟨by omega, by omega, h3, h4, h5, by omega⟩, by omega⟩
    · have := ih h7 (by omega) x hx
      exact ⟨this.1, by have := this.2; omega⟩
theorem watchB_iff {h : Int} {xs : List Rk} : watchB h xs = true ↔ (0 ≤ h ∧ h ≤ 3) ∧ xs.length ≤ 4 ∧ risesB 0 xs = true := by
  simp [watchB, inB, and_assoc]
theorem watchB_ok {h : Int} {xs : List Rk} (hw : watchB h xs = true) : ∀ x ∈ xs, okR x := fun x hx => (risesB_ok (watchB_iff.1 hw).2.2 (Int.le_refl 0) x hx).1
/-- With other times, each below its Every, it is as valid. -/
theorem risesB_map {last : Int} {xs : List Rk} (f : Rk → Rk) (hf : ∀ x ∈ xs, (f x).1 = x.1 ∧ (f x).2.1 = x.2.1 ∧ 0 ≤ (f x).2.2 ∧ (f x).2.2 < x.2.1) (h : risesB last xs = true) : risesB last (xs.map f) = true := by
  induction xs generalizing last with
  | nil => rfl
  | cons y r ih =>
    obtain ⟨a1, a2, a3, a4⟩ := hf y (by simp)
    simp only [risesB, List.map_cons, inB, List.all_cons, List.all_nil, Bool.and_true, Bool.and_eq_true, decide_eq_true_eq] at h ⊢
    obtain ⟨h1, h3, _, h7⟩ := h
    rw [a1, a2]
    exact ⟨h1, h3, ⟨a3, by omega⟩, ih (fun x hx => hf x (by simp [hx])) h7⟩
theorem watchB_end {h : Int} {xs : List Rk} {ds : List (List Int)} (hw : watchB h xs = true) (hc : ∀ x ∈ xs, coolW x ds = true) : watchB h (endR xs ds) = true := by
  have hok := watchB_ok hw
  rw [watchB_iff] at hw ⊢
  rw [endR_map]
  refine ⟨hw.1, by simpa using hw.2.1, risesB_map _ (fun x hx => ?_) hw.2.2⟩
  obtain ⟨i, e, a⟩ := x
  obtain ⟨_, _, _, _, h5, h6⟩ := hok _ hx
  have hr := runW_range i e a ds ⟨h5, h6⟩ (hc _ hx)
  have hk := runW_keys (i, e, a) ds
  exact ⟨hk.1, hk.2, hr.1, hr.2⟩

/-- Whether each rick is turned on some day. -/
def allTurned (xs : List Rk) (ds : List (List Int)) : Bool := xs.all fun x => ds.any fun d => d.contains x.1
/-- The program's answer. -/
def repP (xs : List Rk) (ds : List (List Int)) : Bool := (heatR 0 xs ds).isEmpty && (allTurned xs ds && (heatR 0 (endR xs ds) ds).isEmpty)
/-- So many times again. -/
def repN : Nat → List Rk → List (List Int) → Bool
  | 0, _, _ => true
  | n + 1, xs, ds => (heatR 0 xs ds).isEmpty && repN n (endR xs ds) ds
theorem heat_empty (xs : List Rk) (ds : List (List Int)) : (heatR 0 xs ds).isEmpty = true ↔ ∀ x ∈ xs, coolW x ds = true := by
  rw [List.isEmpty_iff]; exact heatR_nil 0 xs ds
theorem end_end {xs : List Rk} {ds : List (List Int)} (h : allTurned xs ds = true) : endR (endR xs ds) ds = endR xs ds := by
  rw [endR_map, endR_map, List.map_map]
  refine List.map_congr_left fun x hx => ?_
  simp only [allTurned, List.all_eq_true, List.any_eq_true] at h
  obtain ⟨i, e, a⟩ := x
  obtain ⟨d, hd, hc⟩ := h _ hx
  have hk := runW_keys (i, e, a) ds
  show runW (runW (i, e, a) ds) ds = runW (i, e, a) ds
  have hq : runW (i, e, a) ds = (i, e, (runW (i, e, a) ds).2.2) := Prod.ext hk.1 (Prod.ext hk.2 rfl)
  rw [hq]
  exact (runW_turned i e _ a ds ⟨d, hd, hc⟩).trans hq
theorem repN_of {xs : List Rk} {ds : List (List Int)} (hf : endR xs ds = xs) (hc : (heatR 0 xs ds).isEmpty = true) : ∀ n, repN n xs ds = true
  | 0 => rfl
  | n + 1 => by simp only [repN, hc, hf, Bool.true_and]; exact repN_of hf hc n
theorem never_long {ds : List (List Int)} (hd : ds ≠ []) (i e : Int) (h : ∀ d ∈ ds, d.contains i = false) : ∀ (n : Nat) (xs : List Rk) (a : Int), (i, e, a) ∈ xs → a < e → repN n xs ds = true → a + n < e ∨ n = 0
  | 0, _, _, _, _, _ => .inr rfl
  | n + 1, xs, a, hx, ha, hr => by
    simp only [repN, Bool.and_eq_true] at hr
    have hc := (heat_empty xs ds).1 hr.1 _ hx
    obtain ⟨h1, h2⟩ := runW_never i e a ds h ha hc
    have hm : (i, e, a + (ds.length : Int)) ∈ endR xs ds := by rw [endR_map]; exact List.mem_map.2 ⟨_, hx, h1⟩
    have hl : 1 ≤ ds.length := by cases ds with | nil => exact absurd rfl hd | cons _ _ => simp
    rcases never_long hd i e h n (endR xs ds) _ hm h2 hr.2 with h3 | h3
    · left; omega
    · left; subst h3; omega
theorem repP_eq {xs : List Rk} {ds : List (List Int)} (hok : ∀ x ∈ xs, okR x) (hd : ds ≠ []) : repP xs ds = repN 7 xs ds := by
  rw [Bool.eq_iff_iff]
  constructor
  · intro h
    simp only [repP, Bool.and_eq_true] at h
    obtain ⟨h1, h2, h3⟩ := h
    show ((heatR 0 xs ds).isEmpty && repN 6 (endR xs ds) ds) = true
    rw [h1, Bool.true_and]
    exact repN_of (end_end h2) h3 6
  · intro h
    have h0 := h
    simp only [repN, Bool.and_eq_true] at h
    obtain ⟨h1, h2, _⟩ := h
    simp only [repP, h1, h2, Bool.true_and, Bool.and_true]
    rw [allTurned, List.all_eq_true]
    intro x hx
    cases hc : (ds.any fun d => d.contains x.1)
    · exfalso
      rw [List.any_eq_false] at hc
      obtain ⟨i, e, a⟩ := x
      obtain ⟨_, _, _, h6, h7, h8⟩ := hok _ hx
      simp only at h6 h7 h8
      rcases never_long hd i e (fun d hd => by simpa using hc d hd) 7 xs a hx h8 h0 with h9 | h9
      · omega
      · cases h9
    · rfl

/-- A day's turnings that are valid, behind one with this number; days. -/
def hasR (xs : List Rk) (i : Int) : Bool := xs.any fun x => x.1 == i
def turnF (xs : List Rk) (prev : Int) : List Int → Bool
  | [] => true
  | a :: r => hasR xs a && (decide (prev < a) && turnF xs a r)
def turnB (h : Int) (xs : List Rk) (day : List Int) : Bool := decide ((day.length : Int) ≤ h) && turnF xs 0 day
def validB (h : Int) (xs : List Rk) (ds : List (List Int)) : Bool := decide (ds.length ≤ 60) && ds.all (turnB h xs)
theorem hasR_ids {xs ys : List Rk} (h : xs.map (·.1) = ys.map (·.1)) (i : Int) : hasR xs i = hasR ys i := by
  have e : ∀ l : List Rk, hasR l i = (l.map (·.1)).any fun j => j == i := fun l => by simp [hasR, List.any_map, Function.comp_def]
  rw [e, e, h]
theorem turnF_ids {xs ys : List Rk} (h : xs.map (·.1) = ys.map (·.1)) : ∀ (l : List Int) (p : Int), turnF xs p l = turnF ys p l
  | [], _ => rfl
  | a :: r, p => by simp only [turnF]; rw [hasR_ids h, turnF_ids h r]
theorem validB_ids {h : Int} {xs ys : List Rk} (e : xs.map (·.1) = ys.map (·.1)) (ds : List (List Int)) : validB h xs ds = validB h ys ds := by
  unfold validB turnB
  have : (fun day : List Int => decide ((day.length : Int) ≤ h) && turnF xs 0 day) = fun day => decide ((day.length : Int) ≤ h) && turnF ys 0 day := by
    funext day; rw [turnF_ids e]
  rw [this]
theorem endR_ids (xs : List Rk) (ds : List (List Int)) : (endR xs ds).map (·.1) = xs.map (·.1) := by
  rw [endR_map, List.map_map]
  exact List.map_congr_left fun x _ => (runW_keys x ds).1
end Go.Proofs.YtknpglgpkkhhiaaDoor

/- States: arrays of four numbers; what the ricks have waited. -/
namespace Go.Proofs.YtknpglgpkkhhiaaDoor
set_option linter.unusedSimpArgs false
set_option linter.unusedVariables false
open Go.RowKit

/-- The cells of a state. -/
abbrev arrV (S : Nat → Int) : Array Value := #[.int .i64 (S 0), .int .i64 (S 1), .int .i64 (S 2), .int .i64 (S 3)]
abbrev stV (S : Nat → Int) : Value := .agg (arrV S)
/-- With one place turned. -/
def setN (S : Nat → Int) (k : Nat) (v : Int) : Nat → Int := fun i => if i = k then v else S i
theorem arrV_set (S : Nat → Int) (k : Nat) (v : Int) : (arrV S).setIfInBounds k (.int .i64 v) = arrV (setN S k v) := by
  match k with
  | 0 => simp [arrV, setN]
  | 1 => simp [arrV, setN]
  | 2 => simp [arrV, setN]
  | 3 => simp [arrV, setN]
  | k + 4 => simp [arrV, setN, Array.setIfInBounds]
theorem arrV_get (S : Nat → Int) (k : Nat) (h : k < 4) : (arrV S)[k]? = some (.int .i64 (S k)) := by
  match k, h with
  | 0, _ => simp [arrV]
  | 1, _ => simp [arrV]
  | 2, _ => simp [arrV]
  | 3, _ => simp [arrV]
abbrev arrB (T : Nat → Bool) : Array Value := #[.bool (T 0), .bool (T 1), .bool (T 2), .bool (T 3)]
abbrev stB (T : Nat → Bool) : Value := .agg (arrB T)
def setB (S : Nat → Bool) (k : Nat) (v : Bool) : Nat → Bool := fun i => if i = k then v else S i
theorem arrB_set (S : Nat → Bool) (k : Nat) (v : Bool) : (arrB S).setIfInBounds k (.bool v) = arrB (setB S k v) := by
  match k with
  | 0 => simp [arrB, setB]
  | 1 => simp [arrB, setB]
  | 2 => simp [arrB, setB]
  | 3 => simp [arrB, setB]
  | k + 4 => simp [arrB, setB, Array.setIfInBounds]
theorem arrB_get (S : Nat → Bool) (k : Nat) (h : k < 4) : (arrB S)[k]? = some (.bool (S k)) := by
  match k, h with
  | 0, _ => simp [arrB]
  | 1, _ => simp [arrB]
  | 2, _ => simp [arrB]
  | 3, _ => simp [arrB]
/-- What the ricks have waited, by their places. -/
def waits (xs : List Rk) (i : Nat) : Int := ((xs[i]?).map (·.2.2)).getD 0
theorem waits_lt (xs : List Rk) (i : Nat) (h : i < xs.length) : waits xs i = xs[i].2.2 := by simp [waits, h]
theorem waits_ge (xs : List Rk) (i : Nat) (h : xs.length ≤ i) : waits xs i = 0 := by simp [waits, List.getElem?_eq_none h]

theorem setN_fill (F : Nat → Int) (k : Nat) : setN (fun i => if i < k then F i else 0) k (F k) = fun i => if i < k + 1 then F i else 0 := by
  funext i
  unfold setN
  by_cases h : i = k
  · subst h; simp
  · simp only [if_neg h]
    by_cases h2 : i < k
    · rw [if_pos h2, if_pos (by omega)]
    · rw [if_neg h2, if_neg (by omega)]
section
variable {w : World} {b : Nat} {t : TypeId} {c : Array Value}
theorem heap_setN {S : Nat → Int} (h : w.heap[b]? = some (.cells (arrV S) t (0, 0))) (k : Nat) (v : Int) : (w.setCell ⟨b, k, none⟩ (.int .i64 v)).heap[b]? = some (.cells (arrV (setN S k v)) t (0, 0)) := by
  rw [← arrV_set]; exact heap_setCell_same _ h
theorem heap_setB {S : Nat → Bool} (h : w.heap[b]? = some (.cells (arrB S) t (0, 0))) (k : Nat) (v : Bool) : (w.setCell ⟨b, k, none⟩ (.bool v)).heap[b]? = some (.cells (arrB (setB S k v)) t (0, 0)) := by
  rw [← arrB_set]; exact heap_setCell_same _ h
theorem four_heap {a0 a1 a2 a3 x0 x1 x2 x3 : Value} (h : w.heap[b]? = some (.cells #[a0, a1, a2, a3] t (0, 0))) : ((((w.setCell ⟨b, 0, none⟩ x0).setCell ⟨b, 1, none⟩ x1).setCell ⟨b, 2, none⟩ x2).setCell ⟨b, 3, none⟩ x3).heap[b]? = some (.cells #[x0, x1, x2, x3] t (0, 0)) := by
  have := heap_setCell_same (o := 3) x3 (heap_setCell_same (o := 2) x2 (heap_setCell_same (o := 1) x1 (heap_setCell_same (o := 0) x0 h)))
  simpa using this
theorem four_stores {a0 a1 a2 a3 x0 x1 x2 x3 : Value} (h : w.heap[b]? = some (.cells #[a0, a1, a2, a3] t (0, 0))) :
    let W := (((w.setCell ⟨b, 0, none⟩ x0).setCell ⟨b, 1, none⟩ x1).setCell ⟨b, 2, none⟩ x2).setCell ⟨b, 3, none⟩ x3
    W.cell? ⟨b, 0, none⟩ = some x0 ∧ W.cell? ⟨b, 1, none⟩ = some x1 ∧ W.cell? ⟨b, 2, none⟩ = some x2 ∧ W.cell? ⟨b, 3, none⟩ = some x3 :=
  ⟨cell_of_heap (four_heap h) rfl, cell_of_heap (four_heap h) rfl, cell_of_heap (four_heap h) rfl, cell_of_heap (four_heap h) rfl⟩
theorem frozB {w' : World} (h : Free.Bel w w') {p : Addr} {v : Value} (hv : w.cell? p = some v) (hf : w.frozen? p = false) : w'.frozen? p = false := (h.frozen (lt_of_cell hv)).trans hf
theorem heap_old {o : Obj} {q : Obj} (h : w.heap[b]? = some q) : (w.alloc o).heap[b]? = some q := (Below.heap_alloc _ _ _ (lt_of_heap h)).trans h
theorem heap_other {p : Addr} {v : Value} {q : Obj} (h : w.heap[b]? = some q) (hn : b ≠ p.block) : (w.setCell p v).heap[b]? = some q := (Below.heap_setCell _ _ _ _ hn).trans h
theorem cells4 {a0 a1 a2 a3 : Value} (h : w.heap[b]? = some (.cells #[a0, a1, a2, a3] t (0, 0))) : w.cell? ⟨b, 0, none⟩ = some a0 ∧ w.cell? ⟨b, 1, none⟩ = some a1 ∧ w.cell? ⟨b, 2, none⟩ = some a2 ∧ w.cell? ⟨b, 3, none⟩ = some a3 ∧ w.frozen? ⟨b, 0, none⟩ = false ∧ w.frozen? ⟨b, 1, none⟩ = false ∧ w.frozen? ⟨b, 2, none⟩ = false ∧ w.frozen? ⟨b, 3, none⟩ = false :=
  ⟨cell_of_heap h rfl, cell_of_heap h rfl, cell_of_heap h rfl, cell_of_heap h rfl, frozen_of_heap h, frozen_of_heap h, frozen_of_heap h, frozen_of_heap h⟩
end

set_option maxRecDepth 100000 in
set_option maxHeartbeats 2000000 in
theorem now_any (yb : Nat) (xs : List Rk) (u : Value) (w : World) (hy : w.cell? ⟨yb, 1, none⟩ = some u) (hu : RL xs u w) (h4 : xs.length ≤ 4) :
    Calls Tryd.prog 92 #[.pointer (some ⟨yb, 0, none⟩)] w fun e w' => e = .returned (stV (waits xs)) ∧ Below w.heap.size w w' := by
  obtain ⟨p, cp, rfl, hm, hp⟩ := hu
  unfold maxLen at hm
  have HP := Lib.hid hp
  clear hp
  have hz0 : Free.Bel w ((w.alloc (.cells #[.int .i64 0, .int .i64 0, .int .i64 0, .int .i64 0] 109)).alloc (.cells #[.int .i64 0, .int .i64 0, .int .i64 0, .int .i64 0] 109)) := Bel.allocT (Bel.allocT (Free.Bel.refl _) _) _
  have n0 := keepsB hz0 hy
  clear hy
  go_enter Tryd.func92, Tryd.ntmps92
  go_wp2_with fail
  have m0 : ((w.alloc (.cells #[.int .i64 0, .int .i64 0, .int .i64 0, .int .i64 0] 109)).alloc (.cells #[.int .i64 0, .int .i64 0, .int .i64 0, .int .i64 0] 109)).heap[w.heap.size]? = some (.cells (arrV fun _ => 0) 109 (0, 0)) := (Below.heap_alloc _ _ _ (by simp)).trans (World.alloc_heap_new w _)
  have m1 : ((w.alloc (.cells #[.int .i64 0, .int .i64 0, .int .i64 0, .int .i64 0] 109)).alloc (.cells #[.int .i64 0, .int .i64 0, .int .i64 0, .int .i64 0] 109)).heap[w.heap.size + 1]? = some (.cells (arrV fun _ => 0) 109 (0, 0)) := by
    have := World.alloc_heap_new (w.alloc (.cells #[.int .i64 0, .int .i64 0, .int .i64 0, .int .i64 0] 109)) (.cells #[.int .i64 0, .int .i64 0, .int .i64 0, .int .i64 0] 109)
    simpa using this
  have hs1 : ((w.alloc (.cells #[.int .i64 0, .int .i64 0, .int .i64 0, .int .i64 0] 109)).alloc (.cells #[.int .i64 0, .int .i64 0, .int .i64 0, .int .i64 0] 109)).heap.size = w.heap.size + 1 + 1 := by simp
  have HB1 := Lib.hid hz0
  have HM := Lib.hid (And.intro m0 (And.intro m1 hs1))
  clear hz0 m0 m1 hs1 n0
  generalize ((w.alloc (.cells #[.int .i64 0, .int .i64 0, .int .i64 0, .int .i64 0] 109)).alloc (.cells #[.int .i64 0, .int .i64 0, .int .i64 0, .int .i64 0] 109)) = w1 at *
  go_loopw [12, 4] (fun i _ wr => ∃ k : Nat, k ≤ xs.length ∧ i = .int .i64 k ∧ Below w.heap.size w wr ∧ w.heap.size + 1 + 1 ≤ wr.heap.size ∧ wr.heap[w.heap.size]? = some (.cells (arrV fun _ => 0) 109 (0, 0)) ∧ wr.heap[w.heap.size + 1]? = some (.cells (arrV fun i => if i < k then waits xs i else 0) 109 (0, 0))) (fun i _ _ => xs.length - (intOf i).toNat)
  case atStart => exact ⟨0, Nat.zero_le _, rfl, HB1.out, Nat.le_of_eq HM.out.2.2.symm, HM.out.1, HM.out.2.1⟩
  case round =>
    obtain ⟨k, hk, rfl, hB, hs, hz1, hz2⟩ := hrel
    have HZ1 := Lib.hid hz1
    have HZ2 := Lib.hid hz2
    by_cases hlt : k < xs.length
    · have hx : xs ≠ [] := by intro e; simp [e] at hlt
      obtain ⟨b, off, rfl, hcp⟩ := HP.out hx
      obtain ⟨d1, d2, d3⟩ := hcp k hlt
      have e1 := keepsB hB d1
      have e2 := keepsB hB d2
      have e3 := keepsB hB d3
      have hklt : (k : Int) < xs.length := by omega
      have hk4 : (k : Int) < 4 := by omega
      have hk5 : k < 4 := by omega
      have HWT := Lib.hid (waits_lt xs k hlt)
      have q0 := cell_of_heap (o := k) HZ2.out (arrV_get _ k (by omega))
      have q1 := frozen_of_heap (o := k) HZ2.out
      clear hcp hx d1 d2 d3 hz1 hz2
      generalize xs[k] = x at *
      obtain ⟨x1, x2, x3⟩ := x
      have KA : Free.Bel wr (wr.alloc (.cells #[.int .i64 x1, .int .i64 x2, .int .i64 x3] 47)) := belAlloc _ _
      have q2 := keepsB KA q0
      have q3 := frozB KA q0 q1
      go_wp2_with fail
      go_roundw
      case rel => exact ⟨k + 1, by omega, by go_num, (hB.trans (KA.mono hB.size)).setCell (by simp) _, by simp; omega, heap_other (heap_old HZ1.out) (by simp), by
        have h9 := heap_setN (heap_old (o := .cells #[.int .i64 x1, .int .i64 x2, .int .i64 x3] 47) HZ2.out) k x3
        rw [show x3 = waits xs k from HWT.out.symm, setN_fill] at h9
        rw [show x3 = waits xs k from HWT.out.symm]
        exact h9⟩
      case measure => simp [intOf]; omega
    · obtain rfl : k = xs.length := by omega
      have hfin : (fun i => if i < xs.length then waits xs i else 0) = waits xs := by
        funext i
        split
        · rfl
        · rw [waits_ge _ _ (by omega)]
      rw [hfin] at hz2
      obtain ⟨a0, a1, a2, a3, f0, f1, f2, f3⟩ := cells4 hz1
      obtain ⟨g0, g1, g2, g3, _, _, _, _⟩ := cells4 hz2
      clear hfin hz1 hz2
      go_wp2_with fail
      have hcell := four_stores (x0 := .int .i64 (waits xs 0)) (x1 := .int .i64 (waits xs 1)) (x2 := .int .i64 (waits xs 2)) (x3 := .int .i64 (waits xs 3)) HZ1.out
      exact bodyPost_ret (v := stV (waits xs)) (by simp [results, Tryd.results92, go_sem, hcell]) rfl ⟨rfl, (((hB.setCell (by simp) _).setCell (by simp) _).setCell (by simp) _).setCell (by simp) _⟩
end Go.Proofs.YtknpglgpkkhhiaaDoor

/- What the ricks have waited behind a day, and which become hot. -/
namespace Go.Proofs.YtknpglgpkkhhiaaDoor
set_option linter.unusedSimpArgs false
set_option linter.unusedVariables false
open Go.RowKit

/-- Behind a day: the first n places. -/
def nextS (S : Nat → Int) (Tn : Nat → Bool) (n : Nat) : Nat → Int := fun i => if i < n then (if Tn i = true then 0 else S i + 1) else S i
/-- The places that are hot. -/
def hotL (S : Nat → Int) (xs : List Rk) : Nat → List Int
  | 0 => []
  | k + 1 => if S k = ((xs[k]?).map (·.2.1)).getD 0 then hotL S xs k ++ [(k : Int)] else hotL S xs k
theorem hotL_length (S : Nat → Int) (xs : List Rk) : ∀ k, (hotL S xs k).length ≤ k
  | 0 => Nat.le_refl _
  | k + 1 => by
    have := hotL_length S xs k
    rw [hotL]; split
    · simp; omega
    · omega
theorem hotL_congr {S S' : Nat → Int} {xs : List Rk} : ∀ k, (∀ i, i < k → S i = S' i) → hotL S xs k = hotL S' xs k
  | 0, _ => rfl
  | k + 1, h => by rw [hotL, hotL, hotL_congr k fun i hi => h i (by omega), h k (by omega)]
theorem nextS_step (S : Nat → Int) (Tn : Nat → Bool) (k : Nat) : setN (nextS S Tn k) k (if Tn k = true then 0 else S k + 1) = nextS S Tn (k + 1) := by
  funext i
  unfold setN nextS
  by_cases h : i = k
  · subst h; simp
  · simp only [if_neg h]
    by_cases h2 : i < k
    · simp [h2, Nat.lt_succ_of_lt h2]
    · simp [h2, show ¬ i < k + 1 by omega]
theorem setN_set (S : Nat → Int) (k : Nat) (u v : Int) : setN (setN S k u) k v = setN S k v := by
  funext i; unfold setN; split <;> rfl
structure AfI (s0 : Nat) (S : Nat → Int) (Tn : Nat → Bool) (v : Value) (al : List Int) (W : World) : Prop where
  s : W.heap[s0]? = some (.cells (arrV S) 109 (0, 0))
  t : W.heap[s0 + 1]? = some (.cells (arrB Tn) 149 (0, 0))
  z : W.heap[s0 + 1 + 1]? = some (.cells (arrV fun _ => 0) 109 (0, 0))
  own : W.ownsRow (s0 + 1 + 1 + 1) 3 1 v al.length (al.map (Value.int .i64))
section
variable {s0 : Nat} {S : Nat → Int} {Tn : Nat → Bool} {v : Value} {al : List Int} {W W' : World}
theorem AfI.bel (h : AfI s0 S Tn v al W) (hB : Below W.heap.size W W') : AfI s0 S Tn v al W' :=
  ⟨(hB.block _ (lt_of_heap h.s)).trans h.s, (hB.block _ (lt_of_heap h.t)).trans h.t, (hB.block _ (lt_of_heap h.z)).trans h.z, bel_row h.own hB⟩
theorem AfI.set (h : AfI s0 S Tn v al W) (k : Nat) (x : Int) : AfI s0 (setN S k x) Tn v al (W.setCell ⟨s0, k, none⟩ (.int .i64 x)) :=
  ⟨heap_setN h.s k x, heap_other h.t (by simp), heap_other h.z (by simp; omega), ownsRow_setCell_below h.own (by simp; omega) _⟩
end

set_option maxRecDepth 100000 in
set_option maxHeartbeats 4000000 in
theorem after_any (yb : Nat) (xs : List Rk) (S : Nat → Int) (Tn : Nat → Bool) (u : Value) (w : World) (hy : w.cell? ⟨yb, 1, none⟩ = some u) (hu : RL xs u w) (h4 : xs.length ≤ 4) (hS : ∀ i, 0 ≤ S i ∧ S i ≤ 1000000) :
    Calls Tryd.prog 96 #[.pointer (some ⟨yb, 0, none⟩), stV S, stB Tn] w fun e w' => (∃ v, e = .returned (.tuple #[stV (nextS S Tn xs.length), v]) ∧ w'.ownsRow w.heap.size 3 1 v (hotL (nextS S Tn xs.length) xs xs.length).length ((hotL (nextS S Tn xs.length) xs xs.length).map (Value.int .i64))) ∧ Below w.heap.size w w' := by
  obtain ⟨p, cp, rfl, hm, hp⟩ := hu
  unfold maxLen at hm
  have HP := Lib.hid hp
  clear hp
  obtain ⟨i0, hi0, hz0, hz1, hz2⟩ := info_parts T.infoInt
  have HZ := Lib.hid (And.intro hi0 (And.intro hz0 (And.intro hz1 hz2)))
  clear hi0 hz0 hz1 hz2
  have hb0 : Free.Bel w (((w.alloc (.cells (arrV S) 109)).alloc (.cells (arrB Tn) 149)).alloc (.cells #[.int .i64 0, .int .i64 0, .int .i64 0, .int .i64 0] 109)) := Bel.allocT (Bel.allocT (Bel.allocT (Free.Bel.refl _) _) _) _
  have n0 := keepsB hb0 hy
  clear hy
  go_enter Tryd.func96, Tryd.ntmps96
  go_wp2_with fail
  have m0 : (((w.alloc (.cells (arrV S) 109)).alloc (.cells (arrB Tn) 149)).alloc (.cells #[.int .i64 0, .int .i64 0, .int .i64 0, .int .i64 0] 109)).heap[w.heap.size]? = some (.cells (arrV S) 109 (0, 0)) := heap_old (heap_old (World.alloc_heap_new w _))
  have m1 : (((w.alloc (.cells (arrV S) 109)).alloc (.cells (arrB Tn) 149)).alloc (.cells #[.int .i64 0, .int .i64 0, .int .i64 0, .int .i64 0] 109)).heap[w.heap.size + 1]? = some (.cells (arrB Tn) 149 (0, 0)) := heap_old (by
    have := World.alloc_heap_new (w.alloc (.cells (arrV S) 109)) (.cells (arrB Tn) 149)
    simpa using this)
  have m2 : (((w.alloc (.cells (arrV S) 109)).alloc (.cells (arrB Tn) 149)).alloc (.cells #[.int .i64 0, .int .i64 0, .int .i64 0, .int .i64 0] 109)).heap[w.heap.size + 1 + 1]? = some (.cells (arrV fun _ => 0) 109 (0, 0)) := by
    have := World.alloc_heap_new ((w.alloc (.cells (arrV S) 109)).alloc (.cells (arrB Tn) 149)) (.cells (arrV fun _ => 0) 109)
    simpa using this
  have HI := Lib.hid (show AfI w.heap.size (nextS S Tn 0) Tn (.slice none 0 0) [] (((w.alloc (.cells (arrV S) 109)).alloc (.cells (arrB Tn) 149)).alloc (.cells #[.int .i64 0, .int .i64 0, .int .i64 0, .int .i64 0] 109)) from ⟨(show nextS S Tn 0 = S by funext i; simp [nextS]) ▸ m0, m1, m2, World.ownsRow_nil _ _ _ _⟩)
  have HB1 := Lib.hid hb0
  clear hb0 m0 m1 m2 n0
  generalize (((w.alloc (.cells (arrV S) 109)).alloc (.cells (arrB Tn) 149)).alloc (.cells #[.int .i64 0, .int .i64 0, .int .i64 0, .int .i64 0] 109)) = w1 at *
  go_loopw [17, 8] (fun i v wr => ∃ k : Nat, k ≤ xs.length ∧ i = .int .i64 k ∧ Below w.heap.size w wr ∧ AfI w.heap.size (nextS S Tn k) Tn v (hotL (nextS S Tn k) xs k) wr) (fun i _ _ => xs.length - (intOf i).toNat)
  case atStart => exact ⟨0, Nat.zero_le _, rfl, HB1.out, HI.out⟩
  case round =>
    obtain ⟨k, hk, rfl, hB, hI⟩ := hrel
    by_cases hlt : k < xs.length
    · have hx : xs ≠ [] := by intro e; simp [e] at hlt
      obtain ⟨b, off, rfl, hcp⟩ := HP.out hx
      obtain ⟨d1, d2, d3⟩ := hcp k hlt
      have e1 := keepsB hB d1
      have e2 := keepsB hB d2
      have e3 := keepsB hB d3
      have hklt : (k : Int) < xs.length := by omega
      have hk4 : (k : Int) < 4 := by omega
      have hk5 : k < 4 := by omega
      have HEV : Hid (((xs[k]?).map (·.2.1)).getD 0 = xs[k].2.1) := by show _ = _; simp [hlt]
      have hsk : nextS S Tn k k = S k := by simp [nextS]
      have q0 := cell_of_heap (o := k) hI.s (arrV_get _ k (by omega))
      rw [hsk] at q0
      have q1 := frozen_of_heap (o := k) hI.s
      have hwr : IntKind.i64.wrap (S k + 1) = S k + 1 := IntWalk.i64_in _ (by have := hS k; omega)
      have hszw : w.heap.size + 1 + 1 + 1 ≤ wr.heap.size := lt_of_heap hI.z
      clear hcp hx d1 d2 d3
      generalize xs[k] = x at *
      obtain ⟨x1, x2, x3⟩ := x
      have KA : Free.Bel wr (wr.alloc (.cells #[.int .i64 x1, .int .i64 x2, .int .i64 x3] 47)) := belAlloc _ _
      have q2 := keepsB KA q0
      have q3 := frozB KA q0 q1
      have hI2 := (hI.bel KA).set k (S k + 1)
      have r0 := cell_of_heap (o := k) hI2.t (arrB_get _ k (by omega))
      have r1 := frozen_of_heap (o := k) hI2.s
      have r2 := cell_of_heap (o := k) hI2.s (arrV_get _ k (by omega))
      have HBA := Lib.hid (hB.trans (KA.mono hB.size))
      have hx1 : (wr.alloc (.cells #[.int .i64 x1, .int .i64 x2, .int .i64 x3] 47)).cell? ⟨wr.heap.size, 1, none⟩ = some (.int .i64 x2) := by simp [go_sem]
      have HX1 := Lib.hid hx1
      have HII := Lib.hid hI2
      have hlb : Hid ((hotL (nextS S Tn k) xs k).length ≤ 4) := Nat.le_trans (hotL_length _ _ k) (by omega)
      have hcon : Hid (hotL (nextS S Tn (k + 1)) xs k = hotL (nextS S Tn k) xs k) := hotL_congr k fun i hi => by simp [nextS, hi, Nat.lt_succ_of_lt hi]
      have HSK := Lib.hid hsk
      generalize hal : hotL (nextS S Tn k) xs k = al at *
      have HAL := Lib.hid hal
      clear hI hI2 hx1 hsk hal q0 q1
      cases hT : Tn k
      · rw [hT] at r0
        have HT := Lib.hid hT
        clear hT
        go_wp2_with fail
        refine with_world ?_
        intro W6 hW6
        have H6 := HII.out
        rw [← hW6, show setN (nextS S Tn k) k (S k + 1) = nextS S Tn (k + 1) by rw [← nextS_step, if_neg (by rw [HT.out]; simp)]] at H6
        have hb6 : Below w.heap.size w W6 := by rw [hW6]; exact HBA.out.setCell (by simp) _
        have c6 : W6.cell? ⟨wr.heap.size, 1, none⟩ = some (.int .i64 x2) := by rw [hW6, World.cell?_setCell_other _ _ _ _ (by first | (simp; done) | (simp; omega))]; exact HX1.out
        have hnk : nextS S Tn (k + 1) k = S k + 1 := by simp [nextS, HT.out]
        have d0 := cell_of_heap (o := k) H6.s (arrV_get _ k (by omega))
        rw [hnk] at d0
        have HB6 := Lib.hid hb6
        have HH6 := Lib.hid H6
        have HNK := Lib.hid hnk
        clear hW6 r0 r1 r2 q2 q3 KA H6 hb6 hnk
        have hF : ∀ W, Free.Bel W6.drew W → W.cell? ⟨w.heap.size, k, none⟩ = some (.int .i64 (S k + 1)) ∧ W.cell? ⟨wr.heap.size, 1, none⟩ = some (.int .i64 x2) := fun W hW => ⟨keepsB (Free.Bel.first hW) d0, keepsB (Free.Bel.first hW) c6⟩
        refine Free.wp_free (R := Free.Bel) (by kernel_rfl) (by kernel_rfl) Free.Bel.refl Free.Bel.trans ?_
        refine Free.Chain.ex ?_ [] [9] (by kernel_rfl) (by kernel_rfl) rfl Free.Bel.refl ?_ ?_
        rotate_left 2
        simp only [an1, an2]
        refine Free.Chain.ex ?_ [(0, 32)] [4] (by kernel_rfl) (by kernel_rfl) rfl Free.Bel.refl ?_ ?_
        rotate_left 2
        simp only [an1, an2]
        refine Free.Chain.ex ?_ [(1, 33)] [] (by kernel_rfl) (by kernel_rfl) rfl Free.Bel.refl ?_ ?_
        rotate_left 2
        simp only [an1, an2]
        refine Free.Chain.ex ?_ [] [10] (by kernel_rfl) (by kernel_rfl) rfl Free.Bel.refl ?_ ?_
        rotate_left 2
        simp only [an1, an2]
        refine Free.Chain.ex ?_ [(3, 35)] [] (by kernel_rfl) (by kernel_rfl) rfl Free.Bel.refl ?_ ?_
        rotate_left 2
        simp only [an1, an2]
        refine Free.Chain.ex ?_ [(2, 34), (4, 36)] [] (by kernel_rfl) (by kernel_rfl) rfl Free.Bel.refl ?_ ?_
        rotate_left 2
        simp only [an1, an2]
        rotate_left
        iterate 6 (rotate_left; intro ev W hb hR hO hD; have hS := hF W hR; obtain ⟨hb1, hb2, hb3⟩ := hb; simp only [Free.AllDeps, Free.AllOuts, Free.At, al1, al2, al3, al4, al5, and_true] at hO hD; go_simp; rfl)
        intro ys w' hR hV
        simp only [Free.AllV, Free.At, List.length_cons, List.length_nil, Nat.reduceAdd, List.getElem?_cons_succ, List.getElem?_cons_zero, true_and] at hV
        simp only [Free.putsFrom, Act.put, Nat.zero_add, Nat.reduceAdd, hV, List.setIfInBounds_toArray, List.set_cons_succ, List.set_cons_zero]
        have HB7 := Lib.hid (Free.Bel.first hR)
        have hI7 := HH6.out.bel (Free.Bel.first hR)
        have how := hI7.own
        have hsz7 : w.heap.size + 1 + 1 + 1 ≤ w'.heap.size := lt_of_heap hI7.z
        have HI7 := Lib.hid hI7
        clear hR hV hF d0 c6 hI7
        by_cases hh : S k + 1 = x2
        · have k1 : ((S k + 1) == x2) = true := by simp [hh]
          have HEQ := Lib.hid hh
          have HL9 := hlb.out
          clear hh
          go_wp2_with (first | (at_builtin; go_loud (refine wpList_append_own _ rfl _ _ 58 rfl (w.heap.size + 1 + 1 + 1) 3 i0 (.int .i64 0) 1 8 Tryd.underlying58 HZ.out.1 HZ.out.2.1 HZ.out.2.2.1 HZ.out.2.2.2 rfl (by decide) _ _ _ rfl (how.alloc _) ⟨w'.heap.size, 0, none⟩ 1 1 [.int .i64 k] rfl rfl (cell_one_new _ _ _) (fun x hx => by simp at hx; subst hx; rfl) (by unfold maxLen; omega) (by omega) (by simp; omega) ?_); intro v9 w9 hown9 hgrow9 hnil9) | fail)
          have HG := Lib.hid (show Below (w.heap.size + 1 + 1 + 1) w' w9 from ((Below.refl _ w').alloc hsz7 _).trans (grown_belR (how.alloc _) hgrow9 (by simp; omega)))
          have HO9 := Lib.hid hown9
          clear hown9 hgrow9 hnil9
          go_roundw
          case rel => exact ⟨k + 1, by omega, by go_num, (HB6.out.trans (HB7.out.mono HB6.out.size)).trans (HG.out.mono (by omega)), by
            have hh9 : hotL (nextS S Tn (k + 1)) xs (k + 1) = al ++ [(k : Int)] := by rw [hotL, hcon.out, if_pos (by rw [HEV.out, HNK.out]; exact HEQ.out)]
            rw [hh9]
            exact ⟨(HG.out.block _ (by omega)).trans HI7.out.s, (HG.out.block _ (by omega)).trans HI7.out.t, (HG.out.block _ (by omega)).trans HI7.out.z, by simpa using HO9.out⟩⟩
          case measure => simp [intOf]; omega
        · have k1 : ((S k + 1) == x2) = false := by simp [hh]
          have HEQ := Lib.hid hh
          clear hh
          go_wp2_with fail
          go_roundw
          case rel => exact ⟨k + 1, by omega, by go_num, HB6.out.trans (HB7.out.mono HB6.out.size), by
            have hh9 : hotL (nextS S Tn (k + 1)) xs (k + 1) = al := by rw [hotL, hcon.out, if_neg (by rw [HEV.out, HNK.out]; exact HEQ.out)]
            rw [hh9]
            exact HI7.out⟩
          case measure => simp [intOf]; omega
      · rw [hT] at r0
        have HT := Lib.hid hT
        clear hT
        go_wp2_with fail
        refine with_world ?_
        intro W6 hW6
        have H6 := HII.out.set k 0
        rw [setN_set, ← hW6, show setN (nextS S Tn k) k 0 = nextS S Tn (k + 1) by rw [← nextS_step, if_pos HT.out]] at H6
        have hb6 : Below w.heap.size w W6 := by rw [hW6]; exact (HBA.out.setCell (by simp) _).setCell (by simp) _
        have c6 : W6.cell? ⟨wr.heap.size, 1, none⟩ = some (.int .i64 x2) := by rw [hW6, World.cell?_setCell_other _ _ _ _ (by first | (simp; done) | (simp; omega)), World.cell?_setCell_other _ _ _ _ (by first | (simp; done) | (simp; omega))]; exact HX1.out
        have hnk : nextS S Tn (k + 1) k = 0 := by simp [nextS, HT.out]
        have d0 := cell_of_heap (o := k) H6.s (arrV_get _ k (by omega))
        rw [hnk] at d0
        have HB6 := Lib.hid hb6
        have HH6 := Lib.hid H6
        have HNK := Lib.hid hnk
        clear hW6 r0 r1 r2 q2 q3 KA H6 hb6 hnk
        have hF : ∀ W, Free.Bel W6.drew W → W.cell? ⟨w.heap.size, k, none⟩ = some (.int .i64 (0)) ∧ W.cell? ⟨wr.heap.size, 1, none⟩ = some (.int .i64 x2) := fun W hW => ⟨keepsB (Free.Bel.first hW) d0, keepsB (Free.Bel.first hW) c6⟩
        refine Free.wp_free (R := Free.Bel) (by kernel_rfl) (by kernel_rfl) Free.Bel.refl Free.Bel.trans ?_
        refine Free.Chain.ex ?_ [] [9] (by kernel_rfl) (by kernel_rfl) rfl Free.Bel.refl ?_ ?_
        rotate_left 2
        simp only [an1, an2]
        refine Free.Chain.ex ?_ [(0, 32)] [4] (by kernel_rfl) (by kernel_rfl) rfl Free.Bel.refl ?_ ?_
        rotate_left 2
        simp only [an1, an2]
        refine Free.Chain.ex ?_ [(1, 33)] [] (by kernel_rfl) (by kernel_rfl) rfl Free.Bel.refl ?_ ?_
        rotate_left 2
        simp only [an1, an2]
        refine Free.Chain.ex ?_ [] [10] (by kernel_rfl) (by kernel_rfl) rfl Free.Bel.refl ?_ ?_
        rotate_left 2
        simp only [an1, an2]
        refine Free.Chain.ex ?_ [(3, 35)] [] (by kernel_rfl) (by kernel_rfl) rfl Free.Bel.refl ?_ ?_
        rotate_left 2
        simp only [an1, an2]
        refine Free.Chain.ex ?_ [(2, 34), (4, 36)] [] (by kernel_rfl) (by kernel_rfl) rfl Free.Bel.refl ?_ ?_
        rotate_left 2
        simp only [an1, an2]
        rotate_left
        iterate 6 (rotate_left; intro ev W hb hR hO hD; have hS := hF W hR; obtain ⟨hb1, hb2, hb3⟩ := hb; simp only [Free.AllDeps, Free.AllOuts, Free.At, al1, al2, al3, al4, al5, and_true] at hO hD; go_simp; rfl)
        intro ys w' hR hV
        simp only [Free.AllV, Free.At, List.length_cons, List.length_nil, Nat.reduceAdd, List.getElem?_cons_succ, List.getElem?_cons_zero, true_and] at hV
        simp only [Free.putsFrom, Act.put, Nat.zero_add, Nat.reduceAdd, hV, List.setIfInBounds_toArray, List.set_cons_succ, List.set_cons_zero]
        have HB7 := Lib.hid (Free.Bel.first hR)
        have hI7 := HH6.out.bel (Free.Bel.first hR)
        have how := hI7.own
        have hsz7 : w.heap.size + 1 + 1 + 1 ≤ w'.heap.size := lt_of_heap hI7.z
        have HI7 := Lib.hid hI7
        clear hR hV hF d0 c6 hI7
        by_cases hh : 0 = x2
        · have k1 : ((0) == x2) = true := by simp [hh]
          have HEQ := Lib.hid hh
          have HL9 := hlb.out
          clear hh
          go_wp2_with (first | (at_builtin; go_loud (refine wpList_append_own _ rfl _ _ 58 rfl (w.heap.size + 1 + 1 + 1) 3 i0 (.int .i64 0) 1 8 Tryd.underlying58 HZ.out.1 HZ.out.2.1 HZ.out.2.2.1 HZ.out.2.2.2 rfl (by decide) _ _ _ rfl (how.alloc _) ⟨w'.heap.size, 0, none⟩ 1 1 [.int .i64 k] rfl rfl (cell_one_new _ _ _) (fun x hx => by simp at hx; subst hx; rfl) (by unfold maxLen; omega) (by omega) (by simp; omega) ?_); intro v9 w9 hown9 hgrow9 hnil9) | fail)
          have HG := Lib.hid (show Below (w.heap.size + 1 + 1 + 1) w' w9 from ((Below.refl _ w').alloc hsz7 _).trans (grown_belR (how.alloc _) hgrow9 (by simp; omega)))
          have HO9 := Lib.hid hown9
          clear hown9 hgrow9 hnil9
          go_roundw
          case rel => exact ⟨k + 1, by omega, by go_num, (HB6.out.trans (HB7.out.mono HB6.out.size)).trans (HG.out.mono (by omega)), by
            have hh9 : hotL (nextS S Tn (k + 1)) xs (k + 1) = al ++ [(k : Int)] := by rw [hotL, hcon.out, if_pos (by rw [HEV.out, HNK.out]; exact HEQ.out)]
            rw [hh9]
            exact ⟨(HG.out.block _ (by omega)).trans HI7.out.s, (HG.out.block _ (by omega)).trans HI7.out.t, (HG.out.block _ (by omega)).trans HI7.out.z, by simpa using HO9.out⟩⟩
          case measure => simp [intOf]; omega
        · have k1 : ((0) == x2) = false := by simp [hh]
          have HEQ := Lib.hid hh
          clear hh
          go_wp2_with fail
          go_roundw
          case rel => exact ⟨k + 1, by omega, by go_num, HB6.out.trans (HB7.out.mono HB6.out.size), by
            have hh9 : hotL (nextS S Tn (k + 1)) xs (k + 1) = al := by rw [hotL, hcon.out, if_neg (by rw [HEV.out, HNK.out]; exact HEQ.out)]
            rw [hh9]
            exact HI7.out⟩
          case measure => simp [intOf]; omega
    · obtain rfl : k = xs.length := by omega
      obtain ⟨a0, a1, a2, a3, f0, f1, f2, f3⟩ := cells4 hI.z
      obtain ⟨g0, g1, g2, g3, _, _, _, _⟩ := cells4 hI.s
      have HII := Lib.hid hI
      have hlb : Hid ((hotL (nextS S Tn xs.length) xs xs.length).length ≤ 4) := Nat.le_trans (hotL_length _ _ _) (by omega)
      generalize hns : nextS S Tn xs.length = S9 at *
      clear hI
      go_wp2_with fail
      have hcell := four_stores (x0 := .int .i64 (S9 0)) (x1 := .int .i64 (S9 1)) (x2 := .int .i64 (S9 2)) (x3 := .int .i64 (S9 3)) HII.out.z
      have hrow := ownsRow_setCell_below (ownsRow_setCell_below (ownsRow_setCell_below (ownsRow_setCell_below HII.out.own (a := ⟨w.heap.size + 1 + 1, 0, none⟩) (by simp) (.int .i64 (S9 0))) (a := ⟨w.heap.size + 1 + 1, 1, none⟩) (by simp) (.int .i64 (S9 1))) (a := ⟨w.heap.size + 1 + 1, 2, none⟩) (by simp) (.int .i64 (S9 2))) (a := ⟨w.heap.size + 1 + 1, 3, none⟩) (by simp) (.int .i64 (S9 3))
      exact bodyPost_ret (v := .tuple #[stV S9, _]) (by simp [results, Tryd.results96, go_sem, hcell]) rfl ⟨⟨_, rfl, row_mono hrow (by omega)⟩, (((hB.setCell (by simp; omega) _).setCell (by simp; omega) _).setCell (by simp; omega) _).setCell (by simp; omega) _⟩
end Go.Proofs.YtknpglgpkkhhiaaDoor

/- Days that are played, day by day: what the program's states and lists are. -/
namespace Go.Proofs.YtknpglgpkkhhiaaDoor
set_option linter.unusedSimpArgs false
set_option linter.unusedVariables false
open Go.RowKit

theorem endR_append (xs : List Rk) (a b : List (List Int)) : endR xs (a ++ b) = endR (endR xs a) b := by
  induction a generalizing xs with
  | nil => rfl
  | cons d r ih => exact ih (dayR d xs)
theorem heatR_append (n : Int) (xs : List Rk) (a b : List (List Int)) : heatR n xs (a ++ b) = heatR n xs a ++ heatR (n + a.length) (endR xs a) b := by
  induction a generalizing xs n with
  | nil => simp [heatR, endR]
  | cons d r ih =>
    simp only [List.cons_append, heatR, endR, ih, List.append_assoc, List.length_cons]
    rw [show n + 1 + (r.length : Int) = n + ((r.length + 1 : Nat) : Int) by omega]
theorem take_step {α : Type} (l : List α) (k : Nat) (h : k < l.length) : l.take (k + 1) = l.take k ++ [l[k]] := by
  rw [List.take_add_one, List.getElem?_eq_getElem h]; rfl
theorem endR_step (xs : List Rk) (ds : List (List Int)) (k : Nat) (h : k < ds.length) : endR xs (ds.take (k + 1)) = dayR ds[k] (endR xs (ds.take k)) := by
  rw [take_step ds k h, endR_append]; rfl
theorem heatR_step (xs : List Rk) (ds : List (List Int)) (k : Nat) (h : k < ds.length) : heatR 0 xs (ds.take (k + 1)) = heatR 0 xs (ds.take k) ++ hotR ((k : Int) + 1) (endR xs (ds.take (k + 1))) := by
  rw [endR_step xs ds k h, take_step ds k h, heatR_append]
  simp only [heatR, List.append_nil]
  rw [show (0 : Int) + ((ds.take k).length : Int) = (k : Int) by simp; omega]
theorem endR_length (xs : List Rk) (ds : List (List Int)) : (endR xs ds).length = xs.length := by rw [endR_map]; simp
theorem endR_get (xs : List Rk) (ds : List (List Int)) (i : Nat) : (endR xs ds)[i]? = (xs[i]?).map fun x => runW x ds := by rw [endR_map]; simp
theorem hotR_length (n : Int) (xs : List Rk) : (hotR n xs).length ≤ xs.length := by
  simp only [hotR, List.length_map]
  exact List.length_filter_le _ _
theorem heatR_length (n : Int) (xs : List Rk) (ds : List (List Int)) : (heatR n xs ds).length ≤ xs.length * ds.length := by
  induction ds generalizing xs n with
  | nil => simp [heatR]
  | cons d r ih =>
    have h1 := hotR_length (n + 1) (dayR d xs)
    have h2 := ih (n + 1) (dayR d xs)
    have h3 : (dayR d xs).length = xs.length := by simp [dayR]
    rw [h3] at h1 h2
    simp only [heatR, List.length_append, List.length_cons, Nat.mul_add, Nat.mul_one]
    omega
/-- Which places are turned. -/
def tset (xs : List Rk) (l : List Int) : Nat → Bool := fun i => match xs[i]? with | some x => l.contains x.1 | none => false
theorem tset_nil (xs : List Rk) : tset xs [] = fun _ => false := by
  funext i; unfold tset; cases xs[i]? <;> simp
theorem tset_step {xs : List Rk} {a : Int} {k : Nat} (hn : (xs.map (·.1)).Nodup) (hk : k < xs.length) (ha : xs[k].1 = a) (l : List Int) : setB (tset xs l) k true = tset xs (l ++ [a]) := by
  funext i
  unfold setB tset
  by_cases h : i = k
  · subst h
    simp [hk, ha]
  · simp only [if_neg h]
    cases hi : xs[i]? with
    | none => rfl
    | some x =>
      have hne : x.1 ≠ a := by
        intro e
        obtain ⟨hil, hxi⟩ := List.getElem?_eq_some_iff.1 hi
        rw [List.nodup_iff_pairwise_ne, List.pairwise_iff_getElem] at hn
        rcases Nat.lt_or_gt_of_ne h with h1 | h1
        · have := hn i k (by simpa using hil) (by simpa using hk) h1
          simp [hxi, e, ha] at this
        · have := hn k i (by simpa using hk) (by simpa using hil) h1
          simp [hxi, e, ha] at this
      simp [hne]
theorem tset_ids {xs ys : List Rk} (h : xs.map (·.1) = ys.map (·.1)) (l : List Int) : tset xs l = tset ys l := by
  have e : ∀ zs : List Rk, tset zs l = fun i => match (zs.map (·.1))[i]? with | some j => l.contains j | none => false := fun zs => by
    funext i
    simp only [tset, List.getElem?_map]
    cases zs[i]? <;> rfl
  rw [e, e, h]
theorem waits_next (ys : List Rk) (day : List Int) : nextS (waits ys) (tset ys day) ys.length = waits (dayR day ys) := by
  funext i
  unfold nextS waits dayR tset
  by_cases h : i < ys.length
  · simp [h, turnW]
  · simp [h]
theorem hotL_map {xs zs : List Rk} (hi : ∀ i : Nat, (xs[i]?).map (fun x => (x.1, x.2.1)) = (zs[i]?).map (fun x => (x.1, x.2.1))) (d : Int) : ∀ m : Nat, m ≤ zs.length →
    (hotL (waits zs) xs m).map (fun i => (d, ((xs[i.toNat]?).map (·.1)).getD 0)) = hotR d (zs.take m)
  | 0, _ => rfl
  | m + 1, hm => by
    have hlt : m < zs.length := hm
    have hx := hi m
    rw [List.getElem?_eq_getElem hlt] at hx
    obtain ⟨x, hx1, hx2⟩ : ∃ x, xs[m]? = some x ∧ (x.1, x.2.1) = (zs[m].1, zs[m].2.1) := by
      cases h : xs[m]? with
      | none => simp [h] at hx
      | some x => rw [h] at hx; exact ⟨x, rfl, by simpa using hx⟩
    simp only [Prod.mk.injEq] at hx2
    have ih := hotL_map hi d m (by omega)
    rw [take_step zs m hlt, hotL, waits_lt zs m hlt, hx1]
    simp only [Option.map_some, Option.getD_some, hx2.2]
    rw [hotR, List.filter_append, List.map_append, ← hotR, ← ih]
    by_cases h : zs[m].2.2 = zs[m].2.1
    · simp [h, hx1, hx2.1]
    · simp [h]
theorem hotL_mem {S : Nat → Int} {xs : List Rk} : ∀ (m : Nat) (x : Int), x ∈ hotL S xs m → ∃ k : Nat, k < m ∧ x = k
  | 0, _, h => by simp [hotL] at h
  | m + 1, x, h => by
    rw [hotL] at h
    split at h
    · rcases List.mem_append.1 h with h | h
      · obtain ⟨k, h1, h2⟩ := hotL_mem m x h; exact ⟨k, by omega, h2⟩
      · simp at h; exact ⟨m, by omega, h⟩
    · obtain ⟨k, h1, h2⟩ := hotL_mem m x h; exact ⟨k, by omega, h2⟩
theorem waits_bound {xs : List Rk} (hok : ∀ x ∈ xs, okR x) (ds : List (List Int)) (i : Nat) : 0 ≤ waits (endR xs ds) i ∧ waits (endR xs ds) i ≤ 6 + ds.length := by
  unfold waits
  rw [endR_get]
  cases h : xs[i]? with
  | none => simp; omega
  | some x =>
    have h1 := hok x (List.mem_of_getElem? h)
    have h2 := runW_nonneg x ds h1.2.2.2.2.1
    have := h1.2.2.2.1
    have := h1.2.2.2.2.2
    simp only [Option.map_some, Option.getD_some]
    omega
theorem keys_same (xs : List Rk) (ds : List (List Int)) (i : Nat) : (xs[i]?).map (fun x => (x.1, x.2.1)) = ((endR xs ds)[i]?).map (fun x => (x.1, x.2.1)) := by
  rw [endR_get]
  cases h : xs[i]? with
  | none => rfl
  | some x => simp [(runW_keys x ds).1, (runW_keys x ds).2]
end Go.Proofs.YtknpglgpkkhhiaaDoor

/- The reference's Done. -/
namespace Go.Proofs.YtknpglgpkkhhiaaDoor
set_option linter.unusedSimpArgs false
set_option linter.unusedVariables false
open Go.RowKit Go.Proofs.YtknpglgpkkhhiaaDoor.Free2

theorem belN (w : World) (n : Nat) : Free.Bel w (w.drewN n) := ⟨rfl, rfl, rfl, Nat.le_refl _, fun _ _ => rfl⟩
theorem cellsR_set (ys : List Rk) (k : Nat) (hk : k < ys.length) (v : Int) : (cellsR ys).set (k * 3 + 2) (.int .i64 v) = cellsR (ys.set k (ys[k].1, ys[k].2.1, v)) := by
  induction ys generalizing k with
  | nil => simp at hk
  | cons y r ih =>
    have e : ∀ (z : Rk) (l : List Rk), cellsR (z :: l) = .int .i64 z.1 :: .int .i64 z.2.1 :: .int .i64 z.2.2 :: cellsR l := fun z l => by simp [cellsR]
    cases k with
    | zero => simp [e]
    | succ k =>
      have := ih k (by simpa using hk)
      rw [e, show (k + 1) * 3 + 2 = (k * 3 + 2) + 1 + 1 + 1 by omega]
      simp only [List.set_cons_succ, List.getElem_cons_succ, e, this]
theorem rick_row {base g n cap : Nat} {ys : List Rk} {w : World} (h : w.ownsRow base 47 3 (.slice (some ⟨g, 0, none⟩) n cap) n (cellsR ys)) (hn : ys.length = n) (k : Nat) (hk : k < ys.length) :
    w.cell? ⟨g, k * 3, none⟩ = some (.int .i64 ys[k].1) ∧ w.cell? ⟨g, k * 3 + 1, none⟩ = some (.int .i64 ys[k].2.1) ∧ w.cell? ⟨g, k * 3 + 2, none⟩ = some (.int .i64 ys[k].2.2) ∧ w.frozen? ⟨g, k * 3 + 2, none⟩ = false := by
  obtain ⟨c1, c2, c3⟩ := cellsR_get ys k hk
  exact ⟨(h.cellAt _ (by omega)).trans c1, (h.cellAt _ (by omega)).trans c2, (h.cellAt _ (by omega)).trans c3, h.frozenAt _⟩
theorem rick_store {base g n cap : Nat} {ys : List Rk} {w : World} (h : w.ownsRow base 47 3 (.slice (some ⟨g, 0, none⟩) n cap) n (cellsR ys)) (k : Nat) (hk : k < ys.length) (v : Int) :
    (w.setCell ⟨g, k * 3 + 2, none⟩ (.int .i64 v)).ownsRow base 47 3 (.slice (some ⟨g, 0, none⟩) n cap) n (cellsR (ys.set k (ys[k].1, ys[k].2.1, v))) := by
  have := (h.stored (k * 3 + 2) (.int .i64 v)).1
  rw [cellsR_set ys k hk] at this
  exact this
/-- The first k ricks behind a day, the rest ahead of it. -/
def mixR (day : List Int) (xs : List Rk) (k : Nat) : List Rk := dayR day (xs.take k) ++ xs.drop k
theorem mixR_length (day : List Int) (xs : List Rk) (k : Nat) (h : k ≤ xs.length) : (mixR day xs k).length = xs.length := by simp [mixR, dayR]; omega
theorem mixR_get (day : List Int) (xs : List Rk) (k : Nat) (h : k < xs.length) (h' : k < (mixR day xs k).length) : (mixR day xs k)[k] = xs[k] := by
  have hm : min k xs.length = k := Nat.min_eq_left (Nat.le_of_lt h)
  simp [mixR, dayR, List.getElem_append, hm]
theorem mixR_step (day : List Int) (xs : List Rk) (k : Nat) (h : k < xs.length) : (mixR day xs k).set k (turnW day xs[k]) = mixR day xs (k + 1) := by
  unfold mixR
  rw [take_step xs k h, List.drop_eq_getElem_cons h]
  simp only [dayR, List.map_append, List.map_cons, List.map_nil, List.append_assoc, List.singleton_append]
  rw [List.set_append_right _ _ (by simp; omega)]
  have hm : min k xs.length = k := Nat.min_eq_left (Nat.le_of_lt h)
  rw [List.length_map, List.length_take, hm, Nat.sub_self]
  rfl
def coolB (xs : List Rk) : Bool := xs.all fun x => x.2.2 != x.2.1

set_option maxRecDepth 100000 in
set_option maxHeartbeats 16000000 in
theorem doneR_any (h : Int) (xs : List Rk) (day : List Int) (u v : Value) (w : World) (hu : RL xs u w) (hz : NZ u) (hv : IL day v w) (hn : xs.length ≤ 1000) (hb : ∀ x ∈ xs, 0 ≤ x.2.2 ∧ x.2.2 ≤ 1000000) :
    Calls Tryd.prog 62 #[.agg #[.int .i64 h, u], v] w fun e w' => (∃ v', e = .returned (.tuple #[.agg #[.int .i64 h, v'], .bool (coolB (dayR day xs))]) ∧ w'.ownsRow w.heap.size 47 3 v' xs.length (cellsR (dayR day xs))) ∧ Below w.heap.size w w' := by
  have HU := Lib.hid hu
  obtain ⟨p, cp, rfl, _, _⟩ := hu
  obtain ⟨q, cq, rfl, hm, hq⟩ := hv
  unfold maxLen at hm
  have HC := Lib.hid hq
  have HBD := Lib.hid hb
  clear hq hb
  have hb0 : Free.Bel w ((w.alloc (.cells #[.int .i64 h, .slice p xs.length cp] 24)).alloc (.cells #[.int .i64 0, .slice none 0 0] 24)) := Bel.allocT (Bel.allocT (Free.Bel.refl _) _) _
  have hs0 : ((w.alloc (.cells #[.int .i64 h, .slice p xs.length cp] 24)).alloc (.cells #[.int .i64 0, .slice none 0 0] 24)).heap.size = w.heap.size + 1 + 1 := by simp
  have m1 : ((w.alloc (.cells #[.int .i64 h, .slice p xs.length cp] 24)).alloc (.cells #[.int .i64 0, .slice none 0 0] 24)).heap[w.heap.size + 1]? = some (.cells #[.int .i64 0, .slice none 0 0] 24 (0, 0)) := by
    have := World.alloc_heap_new (w.alloc (.cells #[.int .i64 h, .slice p xs.length cp] 24)) (.cells #[.int .i64 0, .slice none 0 0] 24)
    simpa using this
  have HTW := Lib.hid (twin_any h xs _ ((w.alloc (.cells #[.int .i64 h, .slice p xs.length cp] 24)).alloc (.cells #[.int .i64 0, .slice none 0 0] 24)) (HU.out.keeps hb0) hz hn)
  have HM := Lib.hid (And.intro hb0 (And.intro hs0 m1))
  clear hb0 hs0 m1 hz
  go_enter Tryd.func62, Tryd.ntmps62
  go_wp2_with fail
  refine HTW.out.mono ?_
  rintro e w1 ⟨v1, rfl, hr1, hB1⟩
  obtain ⟨p1, c1, rfl⟩ := row_slice hr1
  go_wp2_with fail
  have hg0 : 0 < xs.length → ∃ g, p1 = some ⟨g, 0, none⟩ ∧ w.heap.size + 1 + 1 ≤ g ∧ g < w1.heap.size := by
    intro h9
    rcases hr1.2 with ⟨_, h8⟩ | ⟨g, cap, cur, h8, hb8, hg8, _⟩
    · omega
    · simp only [Value.slice.injEq] at h8
      exact ⟨g, h8.1, by rw [HM.out.2.1] at hb8; exact hb8, lt_of_heap hg8⟩
  have hi0 : ∀ o, o = w1.alloc (.cells #[.int .i64 h, .slice p1 xs.length c1] 24) → Below w.heap.size w o ∧ o.heap[w.heap.size + 1]? = some (.cells #[.int .i64 0, .slice none 0 0] 24 (0, 0)) ∧ o.heap[w1.heap.size]? = some (.cells #[.int .i64 h, .slice p1 xs.length c1] 24 (0, 0)) ∧ o.ownsRow (w.heap.size + 1 + 1) 47 3 (.slice p1 xs.length c1) xs.length (cellsR xs) := by
    intro o ho
    subst ho
    exact ⟨(bt HM.out.1 hB1).alloc (bt HM.out.1 hB1).size _, heap_old ((hB1.block _ (lt_of_heap HM.out.2.2)).trans HM.out.2.2), World.alloc_heap_new _ _, bel_row (row_mono hr1 (by rw [HM.out.2.1]; exact Nat.le_refl _)) (belAlloc _ _)⟩
  have hob : w.heap.size + 1 + 1 ≤ w1.heap.size := by have := hB1.size; rw [HM.out.2.1] at this; exact this
  obtain ⟨ob, hob0⟩ : ∃ x, w1.heap.size = x := ⟨_, rfl⟩
  rw [hob0] at hg0 hob
  have hi1 := hi0 _ rfl
  rw [hob0] at hi1 ⊢
  have HG := Lib.hid hg0
  have HI0 := Lib.hid hi1
  clear hg0 hi0 hi1 hr1 hB1 HTW HM hob0
  generalize w1.alloc _ = w2 at *
  go_loopw [8, 7] (fun i c wr => ∃ k : Nat, k ≤ xs.length ∧ i = .int .i64 k ∧ c = .bool (coolB (dayR day (xs.take k))) ∧ Below w.heap.size w wr ∧ wr.heap[w.heap.size + 1]? = some (.cells #[.int .i64 0, .slice none 0 0] 24 (0, 0)) ∧ wr.heap[ob]? = some (.cells #[.int .i64 h, .slice p1 xs.length c1] 24 (0, 0)) ∧ wr.ownsRow (w.heap.size + 1 + 1) 47 3 (.slice p1 xs.length c1) xs.length (cellsR (mixR day xs k))) (fun i _ _ => xs.length - (intOf i).toNat)
  case atStart => exact ⟨0, Nat.zero_le _, rfl, rfl, HI0.out.1, HI0.out.2.1, HI0.out.2.2.1, by simpa [mixR, dayR] using HI0.out.2.2.2⟩
  case round =>
    obtain ⟨k, hk, rfl, rfl, hB, hrz, hbx, hrow⟩ := hrel
    obtain ⟨wo, hwo⟩ : ∃ x, x = wr := ⟨_, rfl⟩
    subst hwo
    obtain ⟨q7, hq7⟩ : ∃ x, coolB (dayR day (xs.take k)) = x := ⟨_, rfl⟩
    rw [hq7]
    have HQ7 := Lib.hid hq7
    clear hq7
    have b1 := cell_of_heap (o := 1) hbx rfl
    have b0 := cell_of_heap (o := 0) hbx rfl
    by_cases hlt : k < xs.length
    · obtain ⟨g, rfl, hg1, hg2⟩ := HG.out (by omega)
      have hlm := mixR_length day xs k hk
      have hkm : k < (mixR day xs k).length := by omega
      have hgk := mixR_get day xs k hlt hkm
      obtain ⟨c0, c2, c3, c4⟩ := rick_row hrow hlm k hkm
      rw [hgk] at c0 c2 c3
      have hklt : (k : Int) < xs.length := by omega
      have hbd := HBD.out xs[k] (List.getElem_mem hlt)
      have hwrp : IntKind.i64.wrap (xs[k].2.2 + 1) = xs[k].2.2 + 1 := IntWalk.i64_in _ (by omega)
      have hst0 := rick_store hrow k hkm (xs[k].2.2 + 1)
      rw [hgk] at hst0
      have hnext : Hid ((mixR day xs k).set k (xs[k].1, xs[k].2.1, if day.contains xs[k].1 then 0 else xs[k].2.2 + 1) = mixR day xs (k + 1)) := mixR_step day xs k hlt
      have hcn : Hid (coolB (dayR day (xs.take (k + 1))) = (q7 && ((if day.contains xs[k].1 then 0 else xs[k].2.2 + 1) != xs[k].2.1))) := by
        show _ = _
        rw [← HQ7.out, take_step xs k hlt]
        simp only [coolB, dayR, List.map_append, List.all_append, List.map_cons, List.map_nil, List.all_cons, List.all_nil, Bool.and_true, turnW]
      have hkx : Hid (k < xs.length) := hlt
      obtain ⟨ys, hys⟩ : ∃ x, mixR day xs k = x := ⟨_, rfl⟩
      rw [hys] at hst0 hnext hlm hkm
      have HST0 := Lib.hid hst0
      have HB := Lib.hid hB
      have HRZ := Lib.hid hrz
      have HBX := Lib.hid hbx
      have HLM := Lib.hid hlm
      have hne : g ≠ ob := by omega
      clear hst0 hrow hB hrz hbx hgk hys hlm
      generalize hx1 : xs[k].1 = x1 at *
      generalize hx2 : xs[k].2.1 = x2 at *
      generalize hx3 : xs[k].2.2 = x3 at *
      clear hx1 hx2 hx3
      go_wp2_with fail
      have hs1 : ∀ o, o = wo.setCell ⟨g, k * 3 + 2, none⟩ (.int .i64 (x3 + 1)) → Below w.heap.size w o ∧ o.heap[w.heap.size + 1]? = some (.cells #[.int .i64 0, .slice none 0 0] 24 (0, 0)) ∧ o.heap[ob]? = some (.cells #[.int .i64 h, .slice (some ⟨g, 0, none⟩) xs.length c1] 24 (0, 0)) ∧ o.ownsRow (w.heap.size + 1 + 1) 47 3 (.slice (some ⟨g, 0, none⟩) xs.length c1) xs.length (cellsR (ys.set k (x1, x2, x3 + 1))) := by
        intro o ho
        subst ho
        exact ⟨HB.out.setCell (by simp; omega) _, heap_other HRZ.out (by simp; omega), heap_other HBX.out (by simp; omega), HST0.out⟩
      have hs2 := hs1 _ rfl
      have HS := Lib.hid hs2
      clear hs1 hs2 c0 c2 c3 c4 b0 b1 HST0
      generalize wo.setCell _ _ = wa at *
      go_loopw [31] (fun i wr => ∃ j : Nat, j ≤ day.length ∧ i = .int .i64 j ∧ Below w.heap.size w wr ∧ wr.heap[w.heap.size + 1]? = some (.cells #[.int .i64 0, .slice none 0 0] 24 (0, 0)) ∧ wr.heap[ob]? = some (.cells #[.int .i64 h, .slice (some ⟨g, 0, none⟩) xs.length c1] 24 (0, 0)) ∧ wr.ownsRow (w.heap.size + 1 + 1) 47 3 (.slice (some ⟨g, 0, none⟩) xs.length c1) xs.length (cellsR (ys.set k (x1, x2, if (day.take j).contains x1 then 0 else x3 + 1)))) (fun i _ => day.length - (intOf i).toNat)
      case atStart => exact ⟨0, Nat.zero_le _, rfl, HS.out.1, HS.out.2.1, HS.out.2.2.1, by simpa using HS.out.2.2.2⟩
      case round =>
        obtain ⟨j, hj, rfl, hB, hrz, hbx, hrow⟩ := hrel
        have b1 := cell_of_heap (o := 1) hbx rfl
        have b0 := cell_of_heap (o := 0) hbx rfl
        obtain ⟨c0, c2, c3, c4⟩ := rick_row hrow (by simp; exact HLM.out) k (by simpa using hkm)
        simp only [List.getElem_set_self] at c0 c2 c3
        by_cases hlt2 : j < day.length
        · obtain ⟨b, off, rfl, hcp⟩ := HC.out (by intro e; simp [e] at hlt2)
          have e1 := keepsB hB (hcp j hlt2)
          have hjlt : (j : Int) < day.length := by omega
          have htk : Hid (day.take (j + 1) = day.take j ++ [day[j]]) := take_step day j hlt2
          have hst1 := rick_store hrow k (by simpa using hkm) 0
          simp only [List.getElem_set_self, List.set_set] at hst1
          have HST1 := Lib.hid hst1
          have HROW := Lib.hid hrow
          have HB2 := Lib.hid hB
          have HRZ2 := Lib.hid hrz
          have HBX2 := Lib.hid hbx
          have hcpH := Lib.hid hcp
          clear hst1 hrow hcp hB hrz hbx
          generalize day[j] = a at *
          by_cases he : a = x1
          · have g0 : (a == x1) = true := by simp [he]
            have HE := Lib.hid he
            clear he
            go_wp2_with fail
            go_roundw
            case rel => exact ⟨j + 1, by omega, by go_num, HB2.out.setCell (by simp; omega) _, heap_other HRZ2.out (by simp; omega), heap_other HBX2.out (by simp; omega), by
              have h9 : (day.take (j + 1)).contains x1 = true := by rw [htk.out]; simp [HE.out]
              rw [h9]
              exact HST1.out⟩
            case measure => simp [intOf]; omega
          · have g0 : (a == x1) = false := by simp [he]
            have HE := Lib.hid he
            clear he
            go_wp2_with fail
            go_roundw
            case rel => exact ⟨j + 1, by omega, by go_num, HB2.out, HRZ2.out, HBX2.out, by
              have h9 : (day.take (j + 1)).contains x1 = (day.take j).contains x1 := by
                have := HE.out
                rw [htk.out]; simp [Ne.symm this]
              rw [h9]
              exact HROW.out⟩
            case measure => simp [intOf]; omega
        · obtain rfl : j = day.length := by omega
          rw [List.take_length] at c3 hrow
          obtain ⟨y3, hy3⟩ : ∃ y3, (if day.contains x1 then 0 else x3 + 1) = y3 := ⟨_, rfl⟩
          rw [hy3] at c3 hrow
          have HCN : Hid (coolB (dayR day (xs.take (k + 1))) = (q7 && (y3 != x2))) := by have := hcn.out; rw [hy3] at this; exact this
          have HNX : Hid (ys.set k (x1, x2, y3) = mixR day xs (k + 1)) := by have := hnext.out; rw [hy3] at this; exact this
          clear hy3 hcn hnext
          have HALL := Lib.hid (And.intro hB (And.intro hrz (And.intro hbx hrow)))
          clear hB hrz hrow
          cases q7
          · go_wp2_with fail
            go_quiet (fail)
            generalize hqe : World.drewN wr _ = w9 at *
            have K9 : Free.Bel wr w9 := by rw [← hqe]; exact belN _ _
            clear hqe
            have HB9 := Lib.hid (HALL.out.1.trans (K9.mono HALL.out.1.size))
            have HRZ9 := Lib.hid ((K9.block _ (lt_of_heap HALL.out.2.1)).trans HALL.out.2.1)
            have HBX9 := Lib.hid ((K9.block _ (lt_of_heap HALL.out.2.2.1)).trans HALL.out.2.2.1)
            have HROW9 := Lib.hid (bel_row HALL.out.2.2.2 K9)
            clear K9
            go_wp2_with fail
            go_roundw
            case rel => exact ⟨k + 1, by omega, by go_num, by rw [HCN.out]; rfl, HB9.out, HRZ9.out, HBX9.out, by rw [← HNX.out]; exact HROW9.out⟩
            case measure => simp [intOf]; omega
          · obtain ⟨q9, hq9⟩ : ∃ q9, (y3 != x2) = q9 := ⟨_, rfl⟩
            have HQ9 := Lib.hid hq9
            have k9 : (y3 == x2) = !q9 := by rw [← hq9]; simp [bne]
            go_wp2_with fail
            go_quiet (fail)
            generalize hqe : World.drewN wr _ = w9 at *
            have K9 : Free.Bel wr w9 := by rw [← hqe]; exact belN _ _
            clear hqe
            have HB9 := Lib.hid (HALL.out.1.trans (K9.mono HALL.out.1.size))
            have HRZ9 := Lib.hid ((K9.block _ (lt_of_heap HALL.out.2.1)).trans HALL.out.2.1)
            have HBX9 := Lib.hid ((K9.block _ (lt_of_heap HALL.out.2.2.1)).trans HALL.out.2.2.1)
            have HROW9 := Lib.hid (bel_row HALL.out.2.2.2 K9)
            clear K9
            go_wp2_with fail
            go_roundw
            case rel => exact ⟨k + 1, by omega, by go_num, by rw [HCN.out, HQ9.out]; simp, HB9.out, HRZ9.out, HBX9.out, by rw [← HNX.out]; exact HROW9.out⟩
            case measure => simp [intOf]; omega
    · obtain rfl : k = xs.length := by omega
      have hc1 : Hid (coolB (dayR day xs) = q7) := by have := HQ7.out; rw [List.take_length] at this; exact this
      have hr9 : mixR day xs xs.length = dayR day xs := by simp [mixR]
      rw [hr9] at hrow
      have z0 := cell_of_heap (o := 0) hrz rfl
      have z1 := cell_of_heap (o := 1) hrz rfl
      have z2 := frozen_of_heap (o := 0) hrz
      have z3 := frozen_of_heap (o := 1) hrz
      have HRZ := Lib.hid hrz
      have HROW := Lib.hid hrow
      clear hrow hrz hr9
      go_wp2_with fail
      have hst := two_stores (.int .i64 h) (.slice p1 xs.length c1) z0 z1
      exact bodyPost_ret (v := .tuple #[.agg #[.int .i64 h, .slice p1 xs.length c1], .bool q7]) (by simp [results, Tryd.results62, go_sem, hst]) rfl ⟨⟨_, by rw [hc1.out], row_mono (ownsRow_setCell_below (ownsRow_setCell_below HROW.out (by simp) _) (by simp) _) (by omega)⟩, (hB.setCell (by simp) _).setCell (by simp) _⟩
end Go.Proofs.YtknpglgpkkhhiaaDoor

