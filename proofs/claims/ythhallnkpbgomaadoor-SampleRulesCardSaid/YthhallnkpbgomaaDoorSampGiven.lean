/- Chances that are given: the error of a list of them. -/
import Derived.Test.YthhallnkpbgomaaDoorSampRRef
namespace Go.Proofs.YthhallnkpbgomaaDoor
set_option linter.unusedSimpArgs false
set_option linter.unusedVariables false
open Go.RowKit Go.Proofs.YthhallnkpbgomaaDoor.ML Go.Proofs.YthhallnkpbgomaaDoor.Samp

def encP (x : Int × Int) : Value := .agg #[.int .i64 x.1, .int .i64 x.2]
def idxP (p : Int × Int → Bool) (xs : List (Int × Int)) : Int := match xs.findIdx? p with | some i => (i : Int) | none => -1

set_option maxRecDepth 100000 in
set_option maxHeartbeats 1000000 in
theorem indexP_any (g : Nat) (caps : Array Value) (p : Int × Int → Bool) (xs : List (Int × Int)) (b off cap : Nat) (w : World)
    (hm : xs.length ≤ maxLen)
    (hc : ∀ k, (h : k < xs.length) → w.cell? ⟨b, off + k * 2, none⟩ = some (.int .i64 xs[k].1) ∧ w.cell? ⟨b, off + k * 2 + 1, none⟩ = some (.int .i64 xs[k].2))
    (hg : Asks g caps encP p w) :
    Calls Tryd.prog 110 #[.slice (some ⟨b, off, none⟩) xs.length cap, .func (.func g) #[] caps] w
      fun e w' => e = .returned (.int .i64 (idxP p xs)) ∧ Below w.heap.size w w' := by
  unfold maxLen at hm
  have HG := Lib.hid hg
  have HC := Lib.hid hc
  clear hg hc
  go_enter Tryd.func110, Tryd.ntmps110
  go_wp2
  go_loopw [8] (fun i wr => ∃ k : Nat, k ≤ xs.length ∧ i = .int .i64 k ∧ (∀ x ∈ xs.take k, p x = false) ∧ Below w.heap.size w wr) (fun i _ => xs.length - (intOf i).toNat)
  case atStart => exact ⟨0, Nat.zero_le _, rfl, by simp, Below.refl _ _⟩
  case round =>
    obtain ⟨k, hk, rfl, hno, hB⟩ := hrel
    by_cases hlt : k < xs.length
    · have hcell : wr.cell? ⟨b, off + k * 2, none⟩ = some (.int .i64 xs[k].1) := keepsB hB (HC.out k hlt).1
      have hcell2 : wr.cell? ⟨b, off + k * 2 + 1, none⟩ = some (.int .i64 xs[k].2) := keepsB hB (HC.out k hlt).2
      have hent := HG.out.1
      have hcall := Lib.hid (HG.out.2 wr xs[k] hB)
      have hget : Hid (xs[k]? = some xs[k]) := List.getElem?_eq_getElem hlt
      generalize xs[k] = x at *
      obtain ⟨x1, x2⟩ := x
      simp only [encP] at hcall
      simp only at hcell hcell2
      have HNO := Lib.hid hno
      clear hno
      cases hp : p (x1, x2)
      · have hp' := Lib.hid hp
        rw [hp] at hcall
        clear hp
        go_wp2_with fail
        refine hcall.out.mono ?_
        rintro e W1 ⟨rfl, hB1⟩
        have hB2 := hB.trans (hB1.mono hB.size)
        go_wp2_with fail
        go_roundw
        case rel =>
          refine ⟨k + 1, by omega, by go_num, ?_, hB2⟩
          rw [List.take_add_one, hget.out]
          intro y hy
          simp at hy
          rcases hy with hy | rfl
          · exact HNO.out y hy
          · exact hp'.out
        case measure => simp [intOf]; omega
      · have hp' := Lib.hid hp
        rw [hp] at hcall
        clear hp
        go_wp2_with fail
        refine hcall.out.mono ?_
        rintro e W1 ⟨rfl, hB1⟩
        have hB2 := hB.trans (hB1.mono hB.size)
        go_wp2_with fail
        go_ret
        refine ⟨?_, hB2⟩
        have : xs.findIdx? p = some k := by
          rw [List.findIdx?_eq_some_iff_getElem]
          refine ⟨hlt, ?_, ?_⟩
          · have := hget.out; rw [List.getElem?_eq_getElem hlt] at this; rw [Option.some.inj this]; exact hp'.out
          · intro j hj
            have := HNO.out xs[j] (by rw [List.mem_take_iff_getElem]; exact ⟨j, by omega, rfl⟩)
            simp [this]
        simp [idxP, this]
    · obtain rfl : k = xs.length := by omega
      go_wp2_with fail
      go_ret
      refine ⟨?_, hB⟩
      have : xs.findIdx? p = none := by
        rw [List.findIdx?_eq_none_iff]
        exact fun x hx => hno x (by rw [List.take_length]; exact hx)
      simp [idxP, this]

theorem containsP_any (g : Nat) (caps : Array Value) (p : Int × Int → Bool) (xs : List (Int × Int)) (b off cap : Nat) (w : World)
    (hm : xs.length ≤ maxLen)
    (hc : ∀ k, (h : k < xs.length) → w.cell? ⟨b, off + k * 2, none⟩ = some (.int .i64 xs[k].1) ∧ w.cell? ⟨b, off + k * 2 + 1, none⟩ = some (.int .i64 xs[k].2))
    (hg : Asks g caps encP p w) :
    Calls Tryd.prog 97 #[.slice (some ⟨b, off, none⟩) xs.length cap, .func (.func g) #[] caps] w
      fun e w' => e = .returned (.bool (xs.any p)) ∧ Below w.heap.size w w' := by
  have H := Lib.hid (indexP_any g caps p xs b off cap w hm hc hg)
  have hv : xs.any p = decide (0 ≤ idxP p xs) := by
    unfold idxP
    cases h : xs.findIdx? p with
    | none =>
      rw [List.findIdx?_eq_none_iff] at h
      have : xs.any p = false := by rw [List.any_eq_false]; intro x hx; simp [h x hx]
      rw [this]; rfl
    | some i =>
      rw [List.findIdx?_eq_some_iff_getElem] at h
      obtain ⟨hi, hp, _⟩ := h
      have : xs.any p = true := by rw [List.any_eq_true]; exact ⟨xs[i], List.getElem_mem hi, hp⟩
      rw [this]; simp
  rw [hv]
  generalize idxP p xs = v at *
  clear hc hg hv
  go_enter Tryd.func97, Tryd.ntmps97
  go_wp2_with fail
  refine H.out.mono ?_
  rintro e W1 ⟨rfl, hB1⟩
  go_wp2_with fail
  go_ret
  exact ⟨rfl, hB1⟩


set_option maxRecDepth 100000 in
set_option maxHeartbeats 2000000 in
theorem given1_a (n d : Int) (w : World) (H1 : Hid (inB 1 1000 [d] = false)) :
    Calls Tryd.prog 98 #[.agg #[.int .i64 n, .int .i64 d]] w fun e w' => e = .returned (.bool true) ∧ Below w.heap.size w w' := by
  have hB0 : Below w.heap.size w (w.alloc (.cells #[.int .i64 n, .int .i64 d] 31)) := (Below.refl _ w).alloc (Nat.le_refl _) _
  have c0 : (w.alloc (.cells #[.int .i64 n, .int .i64 d] 31)).cell? ⟨w.heap.size, 0, none⟩ = some (.int .i64 n) := by simp [go_sem]
  have c1 : (w.alloc (.cells #[.int .i64 n, .int .i64 d] 31)).cell? ⟨w.heap.size, 1, none⟩ = some (.int .i64 d) := by simp [go_sem]
  have HC := Lib.hid (And.intro c0 c1)
  have HB0 := Lib.hid hB0
  clear hB0 c0 c1
  have s1 := Lib.hid (fun (W : World) (h : Below (w.alloc (.cells #[.int .i64 n, .int .i64 d] 31)).heap.size (w.alloc (.cells #[.int .i64 n, .int .i64 d] 31)) W) => And.intro (keepsB h HC.out.1) (keepsB h HC.out.2))
  go_enter Tryd.func98, Tryd.ntmps98
  go_wp2_with fail
  refine (in_one 1 1000 d false _ _ H1.out (by simp [go_sem])).mono ?_
  rintro e w1 ⟨rfl, hB1⟩
  have hB2 := Below.trans (belAlloc _ _) (hB1.mono (by simp))
  have hc := s1.out w1 hB2
  have HB2 := Lib.hid (HB0.out.trans (hB2.mono HB0.out.size))
  clear hB1 hB2
  obtain ⟨e0, e1⟩ := hc
  go_wp2_with fail
  go_ret
  exact ⟨by simp, HB2.out⟩

set_option maxRecDepth 100000 in
set_option maxHeartbeats 2000000 in
theorem given1_b (n d : Int) (q2 : Bool) (w : World) (H1 : Hid (inB 1 1000 [d] = true)) (H2 : Hid (inB 0 d [n] = q2)) :
    Calls Tryd.prog 98 #[.agg #[.int .i64 n, .int .i64 d]] w fun e w' => e = .returned (.bool (!q2)) ∧ Below w.heap.size w w' := by
  have hB0 : Below w.heap.size w (w.alloc (.cells #[.int .i64 n, .int .i64 d] 31)) := (Below.refl _ w).alloc (Nat.le_refl _) _
  have c0 : (w.alloc (.cells #[.int .i64 n, .int .i64 d] 31)).cell? ⟨w.heap.size, 0, none⟩ = some (.int .i64 n) := by simp [go_sem]
  have c1 : (w.alloc (.cells #[.int .i64 n, .int .i64 d] 31)).cell? ⟨w.heap.size, 1, none⟩ = some (.int .i64 d) := by simp [go_sem]
  have HC := Lib.hid (And.intro c0 c1)
  have HB0 := Lib.hid hB0
  clear hB0 c0 c1
  have s1 := Lib.hid (fun (W : World) (h : Below (w.alloc (.cells #[.int .i64 n, .int .i64 d] 31)).heap.size (w.alloc (.cells #[.int .i64 n, .int .i64 d] 31)) W) => And.intro (keepsB h HC.out.1) (keepsB h HC.out.2))
  go_enter Tryd.func98, Tryd.ntmps98
  go_wp2_with fail
  refine (in_one 1 1000 d true _ _ H1.out (by simp [go_sem])).mono ?_
  rintro e w1 ⟨rfl, hB1⟩
  have hB2 := Below.trans (belAlloc _ _) (hB1.mono (by simp))
  have hc := s1.out w1 hB2
  have HB2 := Lib.hid (HB0.out.trans (hB2.mono HB0.out.size))
  clear hB1 hB2
  obtain ⟨e0, e1⟩ := hc
  go_wp2_with fail
  refine (in_one 0 d n q2 _ _ H2.out (by simp [go_sem])).mono ?_
  rintro e w2 ⟨rfl, hB3⟩
  have HB3 := Lib.hid (HB2.out.trans ((Below.trans (belAlloc _ _) (hB3.mono (by simp))).mono HB2.out.size))
  clear hB3
  go_wp2_with fail
  go_ret
  exact ⟨by simp, HB3.out⟩

theorem given1_any (n d : Int) (w : World) :
    Calls Tryd.prog 98 #[encP (n, d)] w fun e w' => e = .returned (.bool (!givenB n d)) ∧ Below w.heap.size w w' := by
  cases h1 : inB 1 1000 [d]
  · simpa [givenB, h1, encP] using given1_a n d w h1
  · simpa [givenB, h1, encP] using given1_b n d _ w h1 rfl

theorem given_any (xs : List (Int × Int)) (r : Int) (b off cap : Nat) (w : World) (hr : unlessV (xs.all fun x => givenB x.1 x.2) 12 = r)
    (hm : xs.length ≤ maxLen)
    (hc : ∀ k, (h : k < xs.length) → w.cell? ⟨b, off + k * 2, none⟩ = some (.int .i64 xs[k].1) ∧ w.cell? ⟨b, off + k * 2 + 1, none⟩ = some (.int .i64 xs[k].2)) :
    Calls Tryd.prog 77 #[.slice (some ⟨b, off, none⟩) xs.length cap] w fun e w' => e = .returned (.int .i64 r) ∧ Below w.heap.size w w' := by
  have H := Lib.hid (containsP_any 98 #[] (fun x => !givenB x.1 x.2) xs b off cap w hm hc
    ⟨Go.Proofs.enters_of Tryd.func98 (by kernel_rfl) rfl, fun W x _ => by simpa using given1_any x.1 x.2 W⟩)
  have hv : (xs.all fun x => givenB x.1 x.2) = !(xs.any fun x => !givenB x.1 x.2) := by
    rw [Bool.eq_iff_iff]; simp [List.all_eq_true, List.any_eq_false]
  rw [hv] at hr
  generalize (xs.any fun x => !givenB x.1 x.2) = v at *
  have HR := Lib.hid hr
  clear hc hv hr
  go_enter Tryd.func77, Tryd.ntmps77
  go_wp2_with fail
  refine H.out.mono ?_
  rintro e W1 ⟨rfl, hB1⟩
  have HB1 := Lib.hid hB1
  clear hB1
  go_wp2_with fail
  refine (unless_any _ _ r _ HR.out).mono ?_
  rintro e W2 ⟨rfl, rfl⟩
  go_wp2_with fail
  go_ret
  exact ⟨rfl, HB1.out⟩
end Go.Proofs.YthhallnkpbgomaaDoor
