/- slices.IndexFunc, slices.ContainsFunc at numbers; 'in', 'unless', 'first'. -/
import Derived.Test.YthhallnkpbgomaaDoorSampWorld
import Derived.Deep.RegionHeld3
import Derived.Deep.DeepFit
import Derived.Shelf.Abstract
namespace Go.Proofs.YthhallnkpbgomaaDoor
set_option linter.unusedSimpArgs false
set_option linter.unusedVariables false
open Go.RowKit

/-- Whether all numbers are from lo to hi. -/
def inB (lo hi : Int) (xs : List Int) : Bool := xs.all fun x => decide (lo ≤ x) && decide (x ≤ hi)

/-- A function value that answers a bool of a value, and leaves all that was there. -/
def Asks (g : Nat) (caps : Array Value) {α : Type} (enc : α → Value) (p : α → Bool) (w0 : World) : Prop :=
  (∀ args w, (callFunc g args).run Tryd.prog w = .ok (.enter g args) w) ∧ ∀ W x, Below w0.heap.size w0 W → Calls Tryd.prog g (#[enc x] ++ caps) W fun e W' => e = .returned (.bool (p x)) ∧ Below W.heap.size W W'

theorem in1_any (n lo hi : Int) (a b : Addr) (w : World) (h1 : w.cell? a = some (.int .i64 lo)) (h2 : w.cell? b = some (.int .i64 hi)) :
    Calls Tryd.prog 101 #[.int .i64 n, .pointer (some a), .pointer (some b)] w fun e w' => e = .returned (.bool (decide (n < lo) || decide (hi < n))) ∧ w' = w := by
  go_enter Tryd.func101, Tryd.ntmps101
  go_wp2
  all_goals (go_ret; simp [*])

def idxV (p : Int → Bool) (xs : List Int) : Int := match xs.findIdx? p with | some i => (i : Int) | none => -1

set_option maxRecDepth 100000 in
set_option maxHeartbeats 1000000 in
theorem indexFunc_any (g : Nat) (caps : Array Value) (p : Int → Bool) (xs : List Int) (b off cap : Nat) (w : World)
    (hm : xs.length ≤ maxLen)
    (hc : ∀ k, (h : k < xs.length) → w.cell? ⟨b, off + k, none⟩ = some (.int .i64 xs[k]))
    (hg : Asks g caps (Value.int .i64) p w) :
    Calls Tryd.prog 105 #[.slice (some ⟨b, off, none⟩) xs.length cap, .func (.func g) #[] caps] w
      fun e w' => e = .returned (.int .i64 (idxV p xs)) ∧ Below w.heap.size w w' := by
  unfold maxLen at hm
  have HG := Lib.hid hg
  have HC := Lib.hid hc
  clear hg hc
  go_enter Tryd.func105, Tryd.ntmps105
  go_wp2
  go_loopw [8] (fun i wr => ∃ k : Nat, k ≤ xs.length ∧ i = .int .i64 k ∧ (∀ x ∈ xs.take k, p x = false) ∧ Below w.heap.size w wr) (fun i _ => xs.length - (intOf i).toNat)
  case atStart => exact ⟨0, Nat.zero_le _, rfl, by simp, Below.refl _ _⟩
  case round =>
    obtain ⟨k, hk, rfl, hno, hB⟩ := hrel
    by_cases hlt : k < xs.length
    · have hcell : wr.cell? ⟨b, off + k, none⟩ = some (.int .i64 xs[k]) := keepsB hB (HC.out k hlt)
      have hent := HG.out.1
      have hcall := Lib.hid (HG.out.2 wr xs[k] hB)
      have hget : Hid (xs[k]? = some xs[k]) := List.getElem?_eq_getElem hlt
      generalize xs[k] = x at *
      have HNO := Lib.hid hno
      clear hno
      cases hp : p x
      · have hp' := Lib.hid hp
        rw [hp] at hcall
        clear hp
        go_wp2_with fail
        refine hcall.out.mono ?_
        rintro e W1 ⟨rfl, hB1⟩
        have hB2 := hB.trans (hB1.mono hB.size)
        go_wp2_with fail
        go_roundw
        case rel =>
          refine ⟨k + 1, by omega, by go_num, ?_, hB2⟩
          rw [List.take_add_one, hget.out]
          intro y hy
          simp at hy
          rcases hy with hy | rfl
          · exact HNO.out y hy
          · exact hp'.out
        case measure => simp [intOf]; omega
      · have hp' := Lib.hid hp
        rw [hp] at hcall
        clear hp
        go_wp2_with fail
        refine hcall.out.mono ?_
        rintro e W1 ⟨rfl, hB1⟩
        have hB2 := hB.trans (hB1.mono hB.size)
        go_wp2_with fail
        go_ret
        refine ⟨?_, hB2⟩
        have : xs.findIdx? p = some k := by
          rw [List.findIdx?_eq_some_iff_getElem]
          refine ⟨hlt, ?_, ?_⟩
          · have := hget.out; rw [List.getElem?_eq_getElem hlt] at this; rw [Option.some.inj this]; exact hp'.out
          · intro j hj
            have := HNO.out xs[j] (by rw [List.mem_take_iff_getElem]; exact ⟨j, by omega, rfl⟩)
            simp [this]
        simp [idxV, this]
    · obtain rfl : k = xs.length := by omega
      go_wp2_with fail
      go_ret
      refine ⟨?_, hB⟩
      have : xs.findIdx? p = none := by
        rw [List.findIdx?_eq_none_iff]
        simpa using hno
      simp [idxV, this]

theorem containsFunc_any (g : Nat) (caps : Array Value) (p : Int → Bool) (xs : List Int) (b off cap : Nat) (w : World)
    (hm : xs.length ≤ maxLen)
    (hc : ∀ k, (h : k < xs.length) → w.cell? ⟨b, off + k, none⟩ = some (.int .i64 xs[k]))
    (hg : Asks g caps (Value.int .i64) p w) :
    Calls Tryd.prog 100 #[.slice (some ⟨b, off, none⟩) xs.length cap, .func (.func g) #[] caps] w
      fun e w' => e = .returned (.bool (xs.any p)) ∧ Below w.heap.size w w' := by
  have H := Lib.hid (indexFunc_any g caps p xs b off cap w hm hc hg)
  have hv : xs.any p = decide (0 ≤ idxV p xs) := by
    unfold idxV
    cases h : xs.findIdx? p with
    | none =>
      rw [List.findIdx?_eq_none_iff] at h
      simp
      exact h
    | some i =>
      rw [List.findIdx?_eq_some_iff_getElem] at h
      obtain ⟨hi, hp, _⟩ := h
      simp
      exact ⟨xs[i], List.getElem_mem hi, hp⟩
  rw [hv]
  generalize idxV p xs = v at *
  clear hc hg hv
  go_enter Tryd.func100, Tryd.ntmps100
  go_wp2_with fail
  refine H.out.mono ?_
  rintro e W1 ⟨rfl, hB1⟩
  go_wp2_with fail
  go_ret
  exact ⟨rfl, hB1⟩

theorem in_any (lo hi : Int) (xs : List Int) (b off cap : Nat) (w : World) (hm : xs.length ≤ maxLen)
    (hc : ∀ k, (h : k < xs.length) → w.cell? ⟨b, off + k, none⟩ = some (.int .i64 xs[k])) :
    Calls Tryd.prog 80 #[.int .i64 lo, .int .i64 hi, .slice (some ⟨b, off, none⟩) xs.length cap] w
      fun e w' => e = .returned (.bool (inB lo hi xs)) ∧ Below w.heap.size w w' := by
  have hB : Below w.heap.size w ((w.alloc (.cells #[.int .i64 lo] 3)).alloc (.cells #[.int .i64 hi] 3)) := ((Below.refl _ w).alloc (Nat.le_refl _) _).alloc (by simp) _
  have H := Lib.hid (containsFunc_any 101 #[.pointer (some ⟨w.heap.size, 0, none⟩), .pointer (some ⟨w.heap.size + 1, 0, none⟩)] (fun n => decide (n < lo) || decide (hi < n)) xs b off cap
    ((w.alloc (.cells #[.int .i64 lo] 3)).alloc (.cells #[.int .i64 hi] 3)) hm (fun k h => keepsB hB (hc k h))
    ⟨Go.Proofs.enters_of Tryd.func101 (by kernel_rfl) rfl, fun W x hW => (in1_any x lo hi _ _ W ((hW.cell (p := ⟨w.heap.size, 0, none⟩) (by simp; omega)).trans (by simp [go_sem])) ((hW.cell (p := ⟨w.heap.size + 1, 0, none⟩) (by simp)).trans (by simp [go_sem]))).mono
      fun e W' ⟨h1, h2⟩ => ⟨h1, by rw [h2]; exact Below.refl _ _⟩⟩)
  have hv : inB lo hi xs = !(xs.any fun n => decide (n < lo) || decide (hi < n)) := by
    rw [inB, Bool.eq_iff_iff]
    simp [List.all_eq_true, List.any_eq_false]
  rw [hv]
  generalize (xs.any fun n => decide (n < lo) || decide (hi < n)) = v at *
  clear hc hv
  go_enter Tryd.func80, Tryd.ntmps80
  go_wp2_with fail
  refine H.out.mono ?_
  rintro e W1 ⟨rfl, hB1⟩
  go_wp2_with fail
  go_ret
  exact ⟨rfl, hB.trans (hB1.mono (by simp; omega))⟩
end Go.Proofs.YthhallnkpbgomaaDoor
