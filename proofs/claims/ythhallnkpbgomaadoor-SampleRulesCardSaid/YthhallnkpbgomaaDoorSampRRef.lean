/- The reference of layer 1: rules, chances, risks. -/
import Derived.Test.YthhallnkpbgomaaDoorSampRefB
namespace Go.Proofs.YthhallnkpbgomaaDoor
set_option linter.unusedSimpArgs false
set_option linter.unusedVariables false
open Go.RowKit Go.Proofs.YthhallnkpbgomaaDoor.ML Go.Proofs.YthhallnkpbgomaaDoor.Samp

/-- Whether a chance is valid. -/
def givenB (n d : Int) : Bool := inB 1 1000 [d] && inB 0 d [n]
theorem givenB_iff (n d : Int) : givenB n d = true ↔ 1 ≤ d ∧ d ≤ 1000 ∧ 0 ≤ n ∧ n ≤ d := by simp [givenB, inB]; omega
/-- Whether a double rule is valid. -/
def doubleB (N F A R S T : Int) : Bool := inB 0 N [F] && (inB 0 (N - F) [S] && (inB 0 F [A] && (inB (A + 1) (F + 1) [R] && inB A (R + S) [T])))
theorem doubleB_iff (N F A R S T : Int) : doubleB N F A R S T = true ↔ 0 ≤ F ∧ F ≤ N ∧ 0 ≤ S ∧ S ≤ N - F ∧ 0 ≤ A ∧ A ≤ F ∧ A + 1 ≤ R ∧ R ≤ F + 1 ∧ A ≤ T ∧ T ≤ R + S := by simp [doubleB, inB]; omega

set_option maxRecDepth 100000 in
set_option maxHeartbeats 2000000 in
theorem ruleR_any (N lo hi o f : Int) (r : Bool) (w : World) (hr : drawB N o f = r) :
    Calls Tryd.prog 57 #[.agg #[.int .i64 N, .int .i64 lo, .int .i64 hi], .agg #[.int .i64 o, .int .i64 f]] w fun e w' => e = .returned (.bool r) ∧ Below w.heap.size w w' := by
  subst hr
  unfold drawB
  have hB : Below w.heap.size w ((w.alloc (.cells #[.int .i64 N, .int .i64 lo, .int .i64 hi] 25)).alloc (.cells #[.int .i64 o, .int .i64 f] 27)) := ((Below.refl _ w).alloc (Nat.le_refl _) _).alloc (by simp) _
  have HB := Lib.hid hB
  clear hB
  generalize hq0 : inB 0 N [o] = q0 at *
  have H0 := Lib.hid hq0
  generalize hq1 : inB 0 o [f] = q1 at *
  have H1 := Lib.hid hq1
  clear hq0 hq1
  cases q0
  ·
    go_enter Tryd.func57, Tryd.ntmps57
    go_wp2_with fail
    refine (within_any (o) (0) (N) false _ H0.out).mono ?_
    rintro e w1 ⟨rfl, rfl⟩
    go_wp2_with fail
    go_ret
    exact ⟨by simp, HB.out⟩
  ·
    cases q1
    ·
      go_enter Tryd.func57, Tryd.ntmps57
      go_wp2_with fail
      refine (within_any (o) (0) (N) true _ H0.out).mono ?_
      rintro e w1 ⟨rfl, rfl⟩
      go_wp2_with fail
      refine (within_any (f) (0) (o) false _ H1.out).mono ?_
      rintro e w1 ⟨rfl, rfl⟩
      go_wp2_with fail
      go_ret
      exact ⟨by simp, HB.out⟩
    ·
      go_enter Tryd.func57, Tryd.ntmps57
      go_wp2_with fail
      refine (within_any (o) (0) (N) true _ H0.out).mono ?_
      rintro e w1 ⟨rfl, rfl⟩
      go_wp2_with fail
      refine (within_any (f) (0) (o) true _ H1.out).mono ?_
      rintro e w1 ⟨rfl, rfl⟩
      go_wp2_with fail
      go_ret
      exact ⟨by simp, HB.out⟩

set_option maxRecDepth 100000 in
set_option maxHeartbeats 2000000 in
theorem givenR_any (n d : Int) (r : Bool) (w : World) (hr : givenB n d = r) :
    Calls Tryd.prog 93 #[.agg #[.int .i64 n, .int .i64 d]] w fun e w' => e = .returned (.bool r) ∧ Below w.heap.size w w' := by
  subst hr
  unfold givenB
  have hB : Below w.heap.size w (w.alloc (.cells #[.int .i64 n, .int .i64 d] 31)) := (Below.refl _ w).alloc (Nat.le_refl _) _
  have HB := Lib.hid hB
  clear hB
  generalize hq0 : inB 1 1000 [d] = q0 at *
  have H0 := Lib.hid hq0
  generalize hq1 : inB 0 d [n] = q1 at *
  have H1 := Lib.hid hq1
  clear hq0 hq1
  cases q0
  ·
    go_enter Tryd.func93, Tryd.ntmps93
    go_wp2_with fail
    refine (within_any (d) (1) (1000) false _ H0.out).mono ?_
    rintro e w1 ⟨rfl, rfl⟩
    go_wp2_with fail
    go_ret
    exact ⟨by simp, HB.out⟩
  ·
    cases q1
    ·
      go_enter Tryd.func93, Tryd.ntmps93
      go_wp2_with fail
      refine (within_any (d) (1) (1000) true _ H0.out).mono ?_
      rintro e w1 ⟨rfl, rfl⟩
      go_wp2_with fail
      refine (within_any (n) (0) (d) false _ H1.out).mono ?_
      rintro e w1 ⟨rfl, rfl⟩
      go_wp2_with fail
      go_ret
      exact ⟨by simp, HB.out⟩
    ·
      go_enter Tryd.func93, Tryd.ntmps93
      go_wp2_with fail
      refine (within_any (d) (1) (1000) true _ H0.out).mono ?_
      rintro e w1 ⟨rfl, rfl⟩
      go_wp2_with fail
      refine (within_any (n) (0) (d) true _ H1.out).mono ?_
      rintro e w1 ⟨rfl, rfl⟩
      go_wp2_with fail
      go_ret
      exact ⟨by simp, HB.out⟩

set_option maxRecDepth 100000 in
set_option maxHeartbeats 2000000 in
theorem doubleR_0 (N lo hi F A R S T : Int) (q : Bool) (w : World) (hN : 1 ≤ N ∧ N ≤ 36)   (HQ : Hid (inB 0 N [F] = q)) (hq : q = false) :
    Calls Tryd.prog 66 #[.agg #[.int .i64 N, .int .i64 lo, .int .i64 hi], .agg #[.int .i64 F, .int .i64 A, .int .i64 R, .int .i64 S, .int .i64 T]] w fun e w' => e = .returned (.bool q) ∧ Below w.heap.size w w' := by
  have hB : Below w.heap.size w ((w.alloc (.cells #[.int .i64 N, .int .i64 lo, .int .i64 hi] 25)).alloc (.cells #[.int .i64 F, .int .i64 A, .int .i64 R, .int .i64 S, .int .i64 T] 29)) := ((Below.refl _ w).alloc (Nat.le_refl _) _).alloc (by simp) _
  have HB := Lib.hid hB
  clear hB
  subst hq
  go_enter Tryd.func66, Tryd.ntmps66
  go_wp2_with fail
  refine (within_any (F) (0) (N) false _ HQ.out).mono ?_
  rintro e w1 ⟨rfl, rfl⟩
  go_wp2_with fail
  go_ret
  exact ⟨rfl, HB.out⟩

set_option maxRecDepth 100000 in
set_option maxHeartbeats 2000000 in
theorem doubleR_1 (N lo hi F A R S T : Int) (q : Bool) (w : World) (hN : 1 ≤ N ∧ N ≤ 36) (f0 : 0 ≤ F ∧ F ≤ N) (H0 : Hid (inB 0 N [F] = true)) (HQ : Hid (inB 0 (N - F) [S] = q)) (hq : q = false) :
    Calls Tryd.prog 66 #[.agg #[.int .i64 N, .int .i64 lo, .int .i64 hi], .agg #[.int .i64 F, .int .i64 A, .int .i64 R, .int .i64 S, .int .i64 T]] w fun e w' => e = .returned (.bool q) ∧ Below w.heap.size w w' := by
  have hB : Below w.heap.size w ((w.alloc (.cells #[.int .i64 N, .int .i64 lo, .int .i64 hi] 25)).alloc (.cells #[.int .i64 F, .int .i64 A, .int .i64 R, .int .i64 S, .int .i64 T] 29)) := ((Below.refl _ w).alloc (Nat.le_refl _) _).alloc (by simp) _
  have HB := Lib.hid hB
  clear hB
  subst hq
  go_enter Tryd.func66, Tryd.ntmps66
  go_wp2_with fail
  refine (within_any (F) (0) (N) true _ H0.out).mono ?_
  rintro e w1 ⟨rfl, rfl⟩
  go_wp2_with fail
  refine (within_any (S) (0) ((N - F)) false _ HQ.out).mono ?_
  rintro e w1 ⟨rfl, rfl⟩
  go_wp2_with fail
  go_ret
  exact ⟨rfl, HB.out⟩

set_option maxRecDepth 100000 in
set_option maxHeartbeats 2000000 in
theorem doubleR_2 (N lo hi F A R S T : Int) (q : Bool) (w : World) (hN : 1 ≤ N ∧ N ≤ 36) (f0 : 0 ≤ F ∧ F ≤ N) (f1 : 0 ≤ S ∧ S ≤ N - F) (H0 : Hid (inB 0 N [F] = true)) (H1 : Hid (inB 0 (N - F) [S] = true)) (HQ : Hid (inB 0 F [A] = q)) (hq : q = false) :
    Calls Tryd.prog 66 #[.agg #[.int .i64 N, .int .i64 lo, .int .i64 hi], .agg #[.int .i64 F, .int .i64 A, .int .i64 R, .int .i64 S, .int .i64 T]] w fun e w' => e = .returned (.bool q) ∧ Below w.heap.size w w' := by
  have hB : Below w.heap.size w ((w.alloc (.cells #[.int .i64 N, .int .i64 lo, .int .i64 hi] 25)).alloc (.cells #[.int .i64 F, .int .i64 A, .int .i64 R, .int .i64 S, .int .i64 T] 29)) := ((Below.refl _ w).alloc (Nat.le_refl _) _).alloc (by simp) _
  have HB := Lib.hid hB
  clear hB
  subst hq
  go_enter Tryd.func66, Tryd.ntmps66
  go_wp2_with fail
  refine (within_any (F) (0) (N) true _ H0.out).mono ?_
  rintro e w1 ⟨rfl, rfl⟩
  go_wp2_with fail
  refine (within_any (S) (0) ((N - F)) true _ H1.out).mono ?_
  rintro e w1 ⟨rfl, rfl⟩
  go_wp2_with fail
  refine (within_any (A) (0) (F) false _ HQ.out).mono ?_
  rintro e w1 ⟨rfl, rfl⟩
  go_wp2_with fail
  go_ret
  exact ⟨rfl, HB.out⟩

set_option maxRecDepth 100000 in
set_option maxHeartbeats 2000000 in
theorem doubleR_3 (N lo hi F A R S T : Int) (q : Bool) (w : World) (hN : 1 ≤ N ∧ N ≤ 36) (f0 : 0 ≤ F ∧ F ≤ N) (f1 : 0 ≤ S ∧ S ≤ N - F) (f2 : 0 ≤ A ∧ A ≤ F) (H0 : Hid (inB 0 N [F] = true)) (H1 : Hid (inB 0 (N - F) [S] = true)) (H2 : Hid (inB 0 F [A] = true)) (HQ : Hid (inB (A + 1) (F + 1) [R] = q)) (hq : q = false) :
    Calls Tryd.prog 66 #[.agg #[.int .i64 N, .int .i64 lo, .int .i64 hi], .agg #[.int .i64 F, .int .i64 A, .int .i64 R, .int .i64 S, .int .i64 T]] w fun e w' => e = .returned (.bool q) ∧ Below w.heap.size w w' := by
  have hB : Below w.heap.size w ((w.alloc (.cells #[.int .i64 N, .int .i64 lo, .int .i64 hi] 25)).alloc (.cells #[.int .i64 F, .int .i64 A, .int .i64 R, .int .i64 S, .int .i64 T] 29)) := ((Below.refl _ w).alloc (Nat.le_refl _) _).alloc (by simp) _
  have HB := Lib.hid hB
  clear hB
  subst hq
  go_enter Tryd.func66, Tryd.ntmps66
  go_wp2_with fail
  refine (within_any (F) (0) (N) true _ H0.out).mono ?_
  rintro e w1 ⟨rfl, rfl⟩
  go_wp2_with fail
  refine (within_any (S) (0) ((N - F)) true _ H1.out).mono ?_
  rintro e w1 ⟨rfl, rfl⟩
  go_wp2_with fail
  refine (within_any (A) (0) (F) true _ H2.out).mono ?_
  rintro e w1 ⟨rfl, rfl⟩
  go_wp2_with fail
  refine (within_any (R) ((A + 1)) ((F + 1)) false _ HQ.out).mono ?_
  rintro e w1 ⟨rfl, rfl⟩
  go_wp2_with fail
  go_ret
  exact ⟨rfl, HB.out⟩

set_option maxRecDepth 100000 in
set_option maxHeartbeats 2000000 in
theorem doubleR_4 (N lo hi F A R S T : Int) (q : Bool) (w : World) (hN : 1 ≤ N ∧ N ≤ 36) (f0 : 0 ≤ F ∧ F ≤ N) (f1 : 0 ≤ S ∧ S ≤ N - F) (f2 : 0 ≤ A ∧ A ≤ F) (f3 : A + 1 ≤ R ∧ R ≤ F + 1) (H0 : Hid (inB 0 N [F] = true)) (H1 : Hid (inB 0 (N - F) [S] = true)) (H2 : Hid (inB 0 F [A] = true)) (H3 : Hid (inB (A + 1) (F + 1) [R] = true)) (HQ : Hid (inB A (R + S) [T] = q)) (hq : True) :
    Calls Tryd.prog 66 #[.agg #[.int .i64 N, .int .i64 lo, .int .i64 hi], .agg #[.int .i64 F, .int .i64 A, .int .i64 R, .int .i64 S, .int .i64 T]] w fun e w' => e = .returned (.bool q) ∧ Below w.heap.size w w' := by
  have hB : Below w.heap.size w ((w.alloc (.cells #[.int .i64 N, .int .i64 lo, .int .i64 hi] 25)).alloc (.cells #[.int .i64 F, .int .i64 A, .int .i64 R, .int .i64 S, .int .i64 T] 29)) := ((Below.refl _ w).alloc (Nat.le_refl _) _).alloc (by simp) _
  have HB := Lib.hid hB
  clear hB
  clear hq
  go_enter Tryd.func66, Tryd.ntmps66
  go_wp2_with fail
  refine (within_any (F) (0) (N) true _ H0.out).mono ?_
  rintro e w1 ⟨rfl, rfl⟩
  go_wp2_with fail
  refine (within_any (S) (0) ((N - F)) true _ H1.out).mono ?_
  rintro e w1 ⟨rfl, rfl⟩
  go_wp2_with fail
  refine (within_any (A) (0) (F) true _ H2.out).mono ?_
  rintro e w1 ⟨rfl, rfl⟩
  go_wp2_with fail
  refine (within_any (R) ((A + 1)) ((F + 1)) true _ H3.out).mono ?_
  rintro e w1 ⟨rfl, rfl⟩
  go_wp2_with fail
  refine (within_any (T) (A) ((R + S)) q _ HQ.out).mono ?_
  rintro e w1 ⟨rfl, rfl⟩
  go_wp2_with fail
  go_ret
  exact ⟨rfl, HB.out⟩

theorem doubleR_any (N lo hi F A R S T : Int) (r : Bool) (w : World) (hN : 1 ≤ N ∧ N ≤ 36) (hr : doubleB N F A R S T = r) :
    Calls Tryd.prog 66 #[.agg #[.int .i64 N, .int .i64 lo, .int .i64 hi], .agg #[.int .i64 F, .int .i64 A, .int .i64 R, .int .i64 S, .int .i64 T]] w fun e w' => e = .returned (.bool r) ∧ Below w.heap.size w w' := by
  subst hr
  unfold doubleB
  cases h0 : inB 0 N [F]
  · exact doubleR_0 N lo hi F A R S T false w hN   h0 rfl
  have f0 : 0 ≤ F ∧ F ≤ N := by simpa [inB] using h0
  cases h1 : inB 0 (N - F) [S]
  · exact doubleR_1 N lo hi F A R S T false w hN f0 h0 h1 rfl
  have f1 : 0 ≤ S ∧ S ≤ N - F := by simpa [inB] using h1
  cases h2 : inB 0 F [A]
  · exact doubleR_2 N lo hi F A R S T false w hN f0 f1 h0 h1 h2 rfl
  have f2 : 0 ≤ A ∧ A ≤ F := by simpa [inB] using h2
  cases h3 : inB (A + 1) (F + 1) [R]
  · exact doubleR_3 N lo hi F A R S T false w hN f0 f1 f2 h0 h1 h2 h3 rfl
  have f3 : A + 1 ≤ R ∧ R ≤ F + 1 := by simpa [inB] using h3
  simp only [Bool.true_and]
  exact doubleR_4 N lo hi F A R S T _ w hN f0 f1 f2 f3 h0 h1 h2 h3 rfl trivial
end Go.Proofs.YthhallnkpbgomaaDoor
