/- 'unless', 'first', 'begun'. -/
import Derived.Test.YthhallnkpbgomaaDoorSampIn
import Derived.Test.YthhallnkpbgomaaDoorSampCount
import Derived.Test.YthhallnkpbgomaaDoorFree
namespace Go.Proofs.YthhallnkpbgomaaDoor
set_option linter.unusedSimpArgs false
set_option linter.unusedVariables false
open Go.RowKit

theorem in_one (lo hi x : Int) (r : Bool) (b : Nat) (w : World) (hr : inB lo hi [x] = r) (h0 : w.cell? ⟨b, 0, none⟩ = some (.int .i64 x)) :
    Calls Tryd.prog 80 #[.int .i64 lo, .int .i64 hi, .slice (some ⟨b, 0, none⟩) 1 1] w
      fun e w' => e = .returned (.bool r) ∧ Below w.heap.size w w' := by
  subst hr
  refine in_any lo hi [x] b 0 1 w (by simp [maxLen]) ?_
  intro k hk
  match k, hk with
  | 0, _ => exact h0
theorem in_two (lo hi x y : Int) (r : Bool) (b : Nat) (w : World) (hr : inB lo hi [x, y] = r) (h0 : w.cell? ⟨b, 0, none⟩ = some (.int .i64 x)) (h1 : w.cell? ⟨b, 1, none⟩ = some (.int .i64 y)) :
    Calls Tryd.prog 80 #[.int .i64 lo, .int .i64 hi, .slice (some ⟨b, 0, none⟩) 2 2] w
      fun e w' => e = .returned (.bool r) ∧ Below w.heap.size w w' := by
  subst hr
  refine in_any lo hi [x, y] b 0 2 w (by simp [maxLen]) ?_
  intro k hk
  match k, hk with
  | 0, _ => exact h0
  | 1, _ => exact h1

/-- A slice of numbers. -/
def SlI (xs : List Int) (v : Value) (w : World) : Prop := ∃ b, v = .slice (some ⟨b, 0, none⟩) xs.length xs.length ∧ ∀ k, (h : k < xs.length) → w.cell? ⟨b, k, none⟩ = some (.int .i64 xs[k])
theorem SlI.keeps {xs : List Int} {v : Value} {w w' : World} (h : SlI xs v w) (hB : Below w.heap.size w w') : SlI xs v w' :=
  let ⟨b, h1, h2⟩ := h
  ⟨b, h1, fun k hk => keepsB hB (h2 k hk)⟩
theorem SlI.stable (xs : List Int) : Free.Stable Free.Bel (SlI xs) := fun v w w' hB h => h.keeps hB
theorem SlI.one (x : Int) (t : TypeId) (w : World) : SlI [x] (.slice (some ⟨w.heap.size, 0, none⟩) 1 1) (w.alloc (.cells #[.int .i64 x] t)) :=
  ⟨_, rfl, fun k hk => by match k, hk with | 0, _ => simp [go_sem]⟩
theorem SlI.two (x y : Int) (t : TypeId) (w : World) : SlI [x, y] (.slice (some ⟨w.heap.size, 0, none⟩) 2 2) (w.alloc (.cells #[.int .i64 x, .int .i64 y] t)) :=
  ⟨_, rfl, fun k hk => by match k, hk with | 0, _ => simp [go_sem] | 1, _ => simp [go_sem]⟩
theorem SlI.three (x y z : Int) (t : TypeId) (w : World) : SlI [x, y, z] (.slice (some ⟨w.heap.size, 0, none⟩) 3 3) (w.alloc (.cells #[.int .i64 x, .int .i64 y, .int .i64 z] t)) :=
  ⟨_, rfl, fun k hk => by match k, hk with | 0, _ => simp [go_sem] | 1, _ => simp [go_sem] | 2, _ => simp [go_sem]⟩
theorem belAlloc (w : World) (o : Obj) : Free.Bel w (w.alloc o) := (Below.refl _ w).alloc (Nat.le_refl _) _

theorem in_sl (lo hi : Int) (xs : List Int) (r : Bool) (v : Value) (w : World) (hm : xs.length ≤ maxLen) (hr : inB lo hi xs = r) (h : SlI xs v w) :
    Calls Tryd.prog 80 #[.int .i64 lo, .int .i64 hi, v] w fun e w' => e = .returned (.bool r) ∧ Below w.heap.size w w' := by
  subst hr
  obtain ⟨b, rfl, hc⟩ := h
  exact in_any lo hi xs b 0 xs.length w hm (fun k hk => by simpa using hc k hk)

/-- What 'unless' returns. -/
def unlessV (so : Bool) (n : Int) : Int := if so then 0 else n
theorem unless_any (so : Bool) (n r : Int) (w : World) (hr : unlessV so n = r) :
    Calls Tryd.prog 87 #[.bool so, .int .i64 n] w fun e w' => e = .returned (.int .i64 r) ∧ w = w' := by
  subst hr
  cases so
  all_goals
    go_enter Tryd.func87, Tryd.ntmps87
    go_wp2
    go_ret
    simp [unlessV]

/-- The first number that is not zero. -/
def firstE : List Int → Int
  | [] => 0
  | x :: r => if x = 0 then firstE r else x
theorem firstE_append (a b : List Int) : firstE (a ++ b) = if firstE a = 0 then firstE b else firstE a := by
  induction a with
  | nil => simp [firstE]
  | cons x r ih =>
    simp only [List.cons_append, firstE]
    split
    · exact ih
    · rename_i h; simp [h]

set_option maxRecDepth 100000 in
set_option maxHeartbeats 1000000 in
theorem first_any (xs : List Int) (b cap : Nat) (w : World) (hm : xs.length ≤ maxLen)
    (hc : ∀ k, (h : k < xs.length) → w.cell? ⟨b, k, none⟩ = some (.int .i64 xs[k])) :
    Calls Tryd.prog 53 #[.slice (some ⟨b, 0, none⟩) xs.length cap] w fun e w' => e = .returned (.int .i64 (firstE xs)) ∧ w = w' := by
  unfold maxLen at hm
  have HC := Lib.hid hc
  clear hc
  go_enter Tryd.func53, Tryd.ntmps53
  go_wp2
  go_loop [8] (fun i => ∃ k : Nat, k ≤ xs.length ∧ i = .int .i64 k ∧ firstE (xs.take k) = 0) (fun i => xs.length - (intOf i).toNat)
  case atStart => exact ⟨0, Nat.zero_le _, rfl, by simp [firstE]⟩
  case round =>
    obtain ⟨k, hk, rfl, hno⟩ := hrel
    have HNO := Lib.hid hno
    clear hno
    by_cases hlt : k < xs.length
    · have hcell : w.cell? ⟨b, k, none⟩ = some (.int .i64 xs[k]) := HC.out k hlt
      have hget : Hid (xs[k]? = some xs[k]) := List.getElem?_eq_getElem hlt
      generalize xs[k] = x at *
      by_cases hx : x = 0
      · subst hx
        go_wp2
        go_round
        case rel =>
          refine ⟨k + 1, by omega, by go_num, ?_⟩
          rw [List.take_add_one, hget.out, firstE_append, HNO.out]
          simp [firstE]
        case measure => simp [intOf]; omega
      · go_wp2
        go_ret
        refine ⟨?_, rfl⟩
        have h1 : xs = xs.take (k + 1) ++ xs.drop (k + 1) := (List.take_append_drop _ _).symm
        have h2 : firstE (xs.take (k + 1)) = x := by
          rw [List.take_add_one, hget.out, firstE_append, HNO.out]
          simp [firstE, hx]
        rw [h1, firstE_append, h2, if_neg hx]
        rfl
    · obtain rfl : k = xs.length := by omega
      go_wp2
      go_ret
      refine ⟨?_, rfl⟩
      have := HNO.out
      rw [List.take_length] at this
      rw [this]; rfl
theorem first_sl (xs : List Int) (r : Int) (v : Value) (w : World) (hm : xs.length ≤ maxLen) (hr : firstE xs = r) (h : SlI xs v w) :
    Calls Tryd.prog 53 #[v] w fun e w' => e = .returned (.int .i64 r) ∧ w = w' := by
  subst hr
  obtain ⟨b, rfl, hc⟩ := h
  exact first_any xs b xs.length w hm hc
theorem first_two (x y r : Int) (b : Nat) (w : World) (hr : firstE [x, y] = r) (h0 : w.cell? ⟨b, 0, none⟩ = some (.int .i64 x)) (h1 : w.cell? ⟨b, 1, none⟩ = some (.int .i64 y)) :
    Calls Tryd.prog 53 #[.slice (some ⟨b, 0, none⟩) 2 2] w fun e w' => e = .returned (.int .i64 r) ∧ w = w' := by
  subst hr
  refine first_any [x, y] b 2 w (by simp [maxLen]) ?_
  intro k hk
  match k, hk with
  | 0, _ => exact h0
  | 1, _ => exact h1
theorem first_three (x y z r : Int) (b : Nat) (w : World) (hr : firstE [x, y, z] = r) (h0 : w.cell? ⟨b, 0, none⟩ = some (.int .i64 x)) (h1 : w.cell? ⟨b, 1, none⟩ = some (.int .i64 y)) (h2 : w.cell? ⟨b, 2, none⟩ = some (.int .i64 z)) :
    Calls Tryd.prog 53 #[.slice (some ⟨b, 0, none⟩) 3 3] w fun e w' => e = .returned (.int .i64 r) ∧ w = w' := by
  subst hr
  refine first_any [x, y, z] b 3 w (by simp [maxLen]) ?_
  intro k hk
  match k, hk with
  | 0, _ => exact h0
  | 1, _ => exact h1
  | 2, _ => exact h2

/-- Whether a cargo is valid. -/
def cargoB (N lo hi : Int) : Bool := inB 1 36 [N] && (inB 0 N [lo, hi] && decide (lo ≤ hi))
theorem cargoB_iff (N lo hi : Int) : cargoB N lo hi = true ↔ 1 ≤ N ∧ N ≤ 36 ∧ 0 ≤ lo ∧ lo ≤ hi ∧ hi ≤ N := by
  simp [cargoB, inB]; omega

def cells3 (N lo hi : Int) : Value := .agg #[.int .i64 N, .int .i64 lo, .int .i64 hi]

set_option maxRecDepth 100000 in
set_option maxHeartbeats 2000000 in
theorem begun_bad (N lo hi : Int) (w : World) (h : cargoB N lo hi = false) :
    Calls Tryd.prog 52 #[.agg #[.int .i64 N, .int .i64 lo, .int .i64 hi]] w fun e w' => e = .returned (.tuple #[.pointer none, .int .i64 10]) ∧ Below w.heap.size w w' := by
  have hB0 : Below w.heap.size w ((w.alloc (.cells #[.int .i64 N, .int .i64 lo, .int .i64 hi] 25)).alloc (.cells #[.int .i64 N] 3)) := ((Below.refl _ w).alloc (Nat.le_refl _) _).alloc (by simp) _
  cases h1 : inB 1 36 [N]
  · have HH := Lib.hid h1
    clear h1 h
    go_enter Tryd.func52, Tryd.ntmps52
    go_wp2_with fail
    refine (in_one _ _ N false _ _ HH.out (by simp [go_sem])).mono ?_
    rintro e w1 ⟨rfl, hB1⟩
    go_wp2_with fail
    go_ret2
    exact ⟨rfl, hB0.trans (hB1.mono (by simp; omega))⟩
  · cases h2 : inB 0 N [lo, hi]
    · have HH := Lib.hid h1
      have H2 := Lib.hid h2
      clear h1 h2 h
      go_enter Tryd.func52, Tryd.ntmps52
      go_wp2_with fail
      refine (in_one _ _ N true _ _ HH.out (by simp [go_sem])).mono ?_
      rintro e w1 ⟨rfl, hB1⟩
      have c0 : w1.cell? ⟨w.heap.size, 0, none⟩ = some (.int .i64 N) := keepsB hB1 (by simp [go_sem])
      have c1 : w1.cell? ⟨w.heap.size, 1, none⟩ = some (.int .i64 lo) := keepsB hB1 (by simp [go_sem])
      have c2 : w1.cell? ⟨w.heap.size, 2, none⟩ = some (.int .i64 hi) := keepsB hB1 (by simp [go_sem])
      have hB2 := Lib.hid (hB0.trans (hB1.mono (by simp; omega)))
      clear hB1
      go_wp2_with fail
      refine (in_two _ _ lo hi false _ _ H2.out (by simp [go_sem]) (by simp [go_sem])).mono ?_
      rintro e w2 ⟨rfl, hB3⟩
      go_wp2_with fail
      go_ret2
      exact ⟨rfl, (hB2.out.alloc hB2.out.size _).trans (hB3.mono (by have := hB2.out.size; simp; omega))⟩
    · have h3 : ¬ lo ≤ hi := by
        intro h3; simp [cargoB, h1, h2, h3] at h
      have HH := Lib.hid h1
      have H2 := Lib.hid h2
      clear h1 h2 h
      go_enter Tryd.func52, Tryd.ntmps52
      go_wp2_with fail
      refine (in_one _ _ N true _ _ HH.out (by simp [go_sem])).mono ?_
      rintro e w1 ⟨rfl, hB1⟩
      have c0 : w1.cell? ⟨w.heap.size, 0, none⟩ = some (.int .i64 N) := keepsB hB1 (by simp [go_sem])
      have c1 : w1.cell? ⟨w.heap.size, 1, none⟩ = some (.int .i64 lo) := keepsB hB1 (by simp [go_sem])
      have c2 : w1.cell? ⟨w.heap.size, 2, none⟩ = some (.int .i64 hi) := keepsB hB1 (by simp [go_sem])
      have hB2 := Lib.hid (hB0.trans (hB1.mono (by simp; omega)))
      clear hB1
      go_wp2_with fail
      refine (in_two _ _ lo hi true _ _ H2.out (by simp [go_sem]) (by simp [go_sem])).mono ?_
      rintro e w2 ⟨rfl, hB3⟩
      have d1 : w2.cell? ⟨w.heap.size, 1, none⟩ = some (.int .i64 lo) := keepsB hB3 (keepsB ((Below.refl _ w1).alloc (Nat.le_refl _) _) c1)
      have d2 : w2.cell? ⟨w.heap.size, 2, none⟩ = some (.int .i64 hi) := keepsB hB3 (keepsB ((Below.refl _ w1).alloc (Nat.le_refl _) _) c2)
      have hB4 := Lib.hid ((hB2.out.alloc hB2.out.size _).trans (hB3.mono (by have := hB2.out.size; simp; omega)))
      clear hB3
      go_wp2_with fail
      go_ret2
      exact ⟨rfl, hB4.out⟩

/-- A cargo at work has been made. -/
def NewHold (N lo hi : Int) (w : World) (e : Ending) (w' : World) : Prop :=
  ∃ hb mb kb cb, e = .returned (.tuple #[.pointer (some ⟨hb, 0, none⟩), .int .i64 0]) ∧ Hold hb N lo hi mb kb cb w' ∧ w.heap.size ≤ mb ∧ w.heap.size ≤ hb ∧ Below w.heap.size w w'

set_option maxRecDepth 100000 in
set_option maxHeartbeats 2000000 in
theorem begun_ok (N lo hi : Int) (w : World) (h : cargoB N lo hi = true) :
    Calls Tryd.prog 52 #[.agg #[.int .i64 N, .int .i64 lo, .int .i64 hi]] w (NewHold N lo hi w) := by
  have hB0 : Below w.heap.size w ((w.alloc (.cells #[.int .i64 N, .int .i64 lo, .int .i64 hi] 25)).alloc (.cells #[.int .i64 N] 3)) := ((Below.refl _ w).alloc (Nat.le_refl _) _).alloc (by simp) _
  simp only [cargoB, Bool.and_eq_true, decide_eq_true_eq] at h
  obtain ⟨h1, h2, h3⟩ := h
  have HH := Lib.hid h1
  have H2 := Lib.hid h2
  clear h1 h2
  go_enter Tryd.func52, Tryd.ntmps52
  go_wp2_with fail
  refine (in_one _ _ N true _ _ HH.out (by simp [go_sem])).mono ?_
  rintro e w1 ⟨rfl, hB1⟩
  have c0 : w1.cell? ⟨w.heap.size, 0, none⟩ = some (.int .i64 N) := keepsB hB1 (by simp [go_sem])
  have c1 : w1.cell? ⟨w.heap.size, 1, none⟩ = some (.int .i64 lo) := keepsB hB1 (by simp [go_sem])
  have c2 : w1.cell? ⟨w.heap.size, 2, none⟩ = some (.int .i64 hi) := keepsB hB1 (by simp [go_sem])
  have hB2 := Lib.hid (hB0.trans (hB1.mono (by simp; omega)))
  clear hB1
  go_wp2_with fail
  refine (in_two _ _ lo hi true _ _ H2.out (by simp [go_sem]) (by simp [go_sem])).mono ?_
  rintro e w2 ⟨rfl, hB3⟩
  have d0 : w2.cell? ⟨w.heap.size, 0, none⟩ = some (.int .i64 N) := keepsB hB3 (keepsB ((Below.refl _ w1).alloc (Nat.le_refl _) _) c0)
  have d1 : w2.cell? ⟨w.heap.size, 1, none⟩ = some (.int .i64 lo) := keepsB hB3 (keepsB ((Below.refl _ w1).alloc (Nat.le_refl _) _) c1)
  have d2 : w2.cell? ⟨w.heap.size, 2, none⟩ = some (.int .i64 hi) := keepsB hB3 (keepsB ((Below.refl _ w1).alloc (Nat.le_refl _) _) c2)
  have hB4 := Lib.hid ((hB2.out.alloc hB2.out.size _).trans (hB3.mono (by have := hB2.out.size; simp; omega)))
  clear hB3 c0 c1 c2 hB0
  have hsz := lt_of_cell d0
  generalize hbb : w.heap.size = bb at *
  have HBB := Lib.hid hbb
  clear hbb
  go_wp2_with fail
  go_region_held3 (fun w' => w'.cell? ⟨bb, 0, none⟩ = some (.int .i64 N) ∧ w'.cell? ⟨bb, 1, none⟩ = some (.int .i64 lo) ∧ w'.cell? ⟨bb, 2, none⟩ = some (.int .i64 hi)) (go_keep)
    (first
      | (go_at_call 92; ((with_reducible refine (counter_any _).mono ?_); (rintro e w3 ⟨mb, kb, cb, rfl, hC, hmb, hB5⟩); (have HC := Lib.hid hC); (have HB5 := Lib.hid (hB4.out.drew.trans (hB5.mono (by simp at hsz ⊢; omega)))); (have HM := Lib.hid hmb); (have g0 := keepsB hB5 d0); (have g1 := keepsB hB5 d1); (have g2 := keepsB hB5 d2); clear hB5 hC hmb))
      | fail)
  go_wp2_with fail
  go_ret2
  have hbb := HBB.out
  subst hbb
  have hs := HB5.out.size
  have hm := HM.out
  simp at hm hsz
  refine ⟨w3.heap.size, mb, kb, cb, rfl, ⟨HC.out.kept (.of_below ((Below.refl _ w3).alloc (Nat.le_refl _) _)), by simp [go_sem], by simp [go_sem], by simp [go_sem], by simp [go_sem, setsV]⟩, by omega, by omega, HB5.out.alloc hs _⟩
end Go.Proofs.YthhallnkpbgomaaDoor
