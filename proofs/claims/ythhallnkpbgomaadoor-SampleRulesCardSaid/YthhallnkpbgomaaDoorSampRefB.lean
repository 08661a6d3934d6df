/- The reference of layer 1: cargoes, draws, and what is asked of them. -/
import Derived.Test.YthhallnkpbgomaaDoorSampRef
namespace Go.Proofs.YthhallnkpbgomaaDoor
set_option linter.unusedSimpArgs false
set_option linter.unusedVariables false
open Go.RowKit Go.Proofs.YthhallnkpbgomaaDoor.ML Go.Proofs.YthhallnkpbgomaaDoor.Samp

theorem KeptR.of_below {mb rb : Nat} {xs : List Value} {a b : World} (h : Below a.heap.size a b) (hlt : rb < a.heap.size) : KeptR mb rb xs a b :=
  have hb := h.block rb hlt
  ⟨h.os, h.tape, h.output, h.size, fun k hk _ _ => h.block k hk, (Kept.of_below (mb := mb) h).memo, fun o => World.frozen?_of_block (w := a) (a := ⟨rb, o, none⟩) hb,
    fun o hs => by rw [World.cell?_of_block (w := a) (a := ⟨rb, o, none⟩) hb]; exact hs, .inl fun o => World.cell?_of_block (w := a) (a := ⟨rb, o, none⟩) hb⟩
theorem KeptR.store2' {rb : Nat} {x y u v : Value} {w : World} (c0 : w.cell? ⟨rb, 0, none⟩ = some u) (c1 : w.cell? ⟨rb, 1, none⟩ = some v) :
    KeptR rb rb [x, y] w ((w.setCell ⟨rb, 0, none⟩ x).setCell ⟨rb, 1, none⟩ y) ∧
      (((w.setCell ⟨rb, 0, none⟩ x).setCell ⟨rb, 1, none⟩ y).cell? ⟨rb, 0, none⟩ = some x ∧ ((w.setCell ⟨rb, 0, none⟩ x).setCell ⟨rb, 1, none⟩ y).cell? ⟨rb, 1, none⟩ = some y) :=
  have h := KeptR.store2 (mb := rb + 1) (x := x) (y := y) (w := w) (by omega) c0 c1
  have hb : ∀ k, k ≠ rb → ((w.setCell ⟨rb, 0, none⟩ x).setCell ⟨rb, 1, none⟩ y).heap[k]? = w.heap[k]? := fun k hk => by
    rw [Below.heap_setCell _ _ _ _ (by simpa using hk), Below.heap_setCell _ _ _ _ (by simpa using hk)]
  ⟨⟨h.1.os, h.1.tape, h.1.output, h.1.size, fun k _ h1 _ => hb k h1, fun m => absurd rfl (m.ne c0), h.1.frozen, h.1.there, h.1.cells⟩, h.2⟩

theorem cargoB_parts (N lo hi : Int) : cargoB N lo hi = (inB 1 36 [N] && (decide (0 ≤ lo) && (decide (lo ≤ hi) && decide (hi ≤ N)))) := by
  rw [Bool.eq_iff_iff, cargoB_iff]; simp [inB]; omega

set_option maxRecDepth 100000 in
set_option maxHeartbeats 2000000 in
theorem cargoR_any (N lo hi : Int) (r : Bool) (w : World) (hr : cargoB N lo hi = r) :
    Calls Tryd.prog 31 #[.agg #[.int .i64 N, .int .i64 lo, .int .i64 hi]] w fun e w' => e = .returned (.bool r) ∧ Below w.heap.size w w' := by
  subst hr
  rw [cargoB_parts]
  have hB : Below w.heap.size w (w.alloc (.cells #[.int .i64 N, .int .i64 lo, .int .i64 hi] 25)) := (Below.refl _ w).alloc (Nat.le_refl _) _
  have HB := Lib.hid hB
  clear hB
  cases h1 : inB 1 36 [N]
  · have H1 := Lib.hid h1
    clear h1
    go_enter Tryd.func31, Tryd.ntmps31
    go_wp2_with fail
    refine (within_any N 1 36 false _ H1.out).mono ?_
    rintro e w1 ⟨rfl, rfl⟩
    go_wp2_with fail
    go_ret
    exact ⟨rfl, HB.out⟩
  · have H1 := Lib.hid h1
    clear h1
    by_cases h2 : 0 ≤ lo
    · by_cases h3 : lo ≤ hi
      · by_cases h4 : hi ≤ N
        · have hv : Hid ((true && (decide (0 ≤ lo) && (decide (lo ≤ hi) && decide (hi ≤ N)))) = true) := by simp [Hid, h2, h3, h4]
          go_enter Tryd.func31, Tryd.ntmps31
          go_wp2_with fail
          refine (within_any N 1 36 true _ H1.out).mono ?_
          rintro e w1 ⟨rfl, rfl⟩
          go_wp2_with fail
          go_ret
          exact ⟨by simp [*] <;> omega, HB.out⟩
        · have hv : Hid ((true && (decide (0 ≤ lo) && (decide (lo ≤ hi) && decide (hi ≤ N)))) = false) := by simp [Hid, h2, h3, h4]
          go_enter Tryd.func31, Tryd.ntmps31
          go_wp2_with fail
          refine (within_any N 1 36 true _ H1.out).mono ?_
          rintro e w1 ⟨rfl, rfl⟩
          go_wp2_with fail
          go_ret
          exact ⟨by simp [*] <;> omega, HB.out⟩
      · have hv : Hid ((true && (decide (0 ≤ lo) && (decide (lo ≤ hi) && decide (hi ≤ N)))) = false) := by simp [Hid, h2, h3]
        go_enter Tryd.func31, Tryd.ntmps31
        go_wp2_with fail
        refine (within_any N 1 36 true _ H1.out).mono ?_
        rintro e w1 ⟨rfl, rfl⟩
        go_wp2_with fail
        go_ret
        exact ⟨by simp [*] <;> omega, HB.out⟩
    · have hv : Hid ((true && (decide (0 ≤ lo) && (decide (lo ≤ hi) && decide (hi ≤ N)))) = false) := by simp [Hid, h2]
      go_enter Tryd.func31, Tryd.ntmps31
      go_wp2_with fail
      refine (within_any N 1 36 true _ H1.out).mono ?_
      rintro e w1 ⟨rfl, rfl⟩
      go_wp2_with fail
      go_ret
      exact ⟨by simp [*] <;> omega, HB.out⟩

set_option maxRecDepth 100000 in
set_option maxHeartbeats 2000000 in
theorem drawR_any (N lo hi o f : Int) (r : Bool) (w : World) (hr : drawB N o f = r) :
    Calls Tryd.prog 32 #[.agg #[.int .i64 N, .int .i64 lo, .int .i64 hi], .agg #[.int .i64 o, .int .i64 f]] w fun e w' => e = .returned (.bool r) ∧ Below w.heap.size w w' := by
  subst hr
  unfold drawB
  have hB : Below w.heap.size w ((w.alloc (.cells #[.int .i64 N, .int .i64 lo, .int .i64 hi] 25)).alloc (.cells #[.int .i64 o, .int .i64 f] 60)) := ((Below.refl _ w).alloc (Nat.le_refl _) _).alloc (by simp) _
  have HB := Lib.hid hB
  clear hB
  generalize hq1 : inB 0 N [o] = q1 at *
  generalize hq2 : inB 0 o [f] = q2 at *
  have H1 := Lib.hid hq1
  have H2 := Lib.hid hq2
  clear hq1 hq2
  cases q1
  · go_enter Tryd.func32, Tryd.ntmps32
    go_wp2_with fail
    refine (within_any o 0 N false _ H1.out).mono ?_
    rintro e w1 ⟨rfl, rfl⟩
    go_wp2_with fail
    go_ret
    exact ⟨by simp, HB.out⟩
  · go_enter Tryd.func32, Tryd.ntmps32
    go_wp2_with fail
    refine (within_any o 0 N true _ H1.out).mono ?_
    rintro e w1 ⟨rfl, rfl⟩
    go_wp2_with fail
    refine (within_any f 0 o q2 _ H2.out).mono ?_
    rintro e w1 ⟨rfl, rfl⟩
    go_wp2_with fail
    go_ret
    exact ⟨by simp, HB.out⟩

set_option maxRecDepth 100000 in
set_option maxHeartbeats 2000000 in
theorem mayR_any (N lo hi D : Int) (r : Bool) (w : World) (hr : inB lo hi [D] = r) :
    Calls Tryd.prog 58 #[.agg #[.int .i64 N, .int .i64 lo, .int .i64 hi], .int .i64 D] w fun e w' => e = .returned (.bool r) ∧ Below w.heap.size w w' := by
  have HR := Lib.hid hr
  clear hr
  go_enter Tryd.func58, Tryd.ntmps58
  go_wp2_with fail
  refine (within_any D lo hi r _ HR.out).mono ?_
  rintro e w1 ⟨rfl, rfl⟩
  go_wp2_with fail
  go_ret
  exact ⟨rfl, (Below.refl _ w).alloc (Nat.le_refl _) _⟩
end Go.Proofs.YthhallnkpbgomaaDoor
