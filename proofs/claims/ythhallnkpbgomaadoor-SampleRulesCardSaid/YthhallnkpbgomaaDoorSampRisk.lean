/- Rules: the errors of risks; whether a rule is good. -/
import Derived.Test.YthhallnkpbgomaaDoorSampGiven
namespace Go.Proofs.YthhallnkpbgomaaDoor
set_option linter.unusedSimpArgs false
set_option linter.unusedVariables false
open Go.RowKit Go.Proofs.YthhallnkpbgomaaDoor.ML Go.Proofs.YthhallnkpbgomaaDoor.Samp

/-- A slice of fractions. -/
def SlP (xs : List (Int × Int)) (v : Value) (w : World) : Prop := ∃ b, v = .slice (some ⟨b, 0, none⟩) xs.length xs.length ∧ ∀ k, (h : k < xs.length) → w.cell? ⟨b, 0 + k * 2, none⟩ = some (.int .i64 xs[k].1) ∧ w.cell? ⟨b, 0 + k * 2 + 1, none⟩ = some (.int .i64 xs[k].2)
theorem SlP.keeps {xs : List (Int × Int)} {v : Value} {w w' : World} (h : SlP xs v w) (hB : Below w.heap.size w w') : SlP xs v w' :=
  let ⟨b, h1, h2⟩ := h
  ⟨b, h1, fun k hk => ⟨keepsB hB (h2 k hk).1, keepsB hB (h2 k hk).2⟩⟩
theorem SlP.stable (xs : List (Int × Int)) : Free.Stable Free.Bel (SlP xs) := fun v w w' hB h => h.keeps hB
theorem SlP.two (a b c d : Int) (t : TypeId) (w : World) : SlP [(a, b), (c, d)] (.slice (some ⟨w.heap.size, 0, none⟩) 2 2) (w.alloc (.cells #[.int .i64 a, .int .i64 b, .int .i64 c, .int .i64 d] t)) :=
  ⟨_, rfl, fun k hk => by match k, hk with | 0, _ => simp [go_sem] | 1, _ => simp [go_sem]⟩
theorem SlP.one (a b : Int) (t : TypeId) (w : World) : SlP [(a, b)] (.slice (some ⟨w.heap.size, 0, none⟩) 1 1) (w.alloc (.cells #[.int .i64 a, .int .i64 b] t)) :=
  ⟨_, rfl, fun k hk => by match k, hk with | 0, _ => simp [go_sem]⟩
theorem given_sl (xs : List (Int × Int)) (r : Int) (v : Value) (w : World) (hm : xs.length ≤ maxLen) (hr : unlessV (xs.all fun x => givenB x.1 x.2) 12 = r) (h : SlP xs v w) :
    Calls Tryd.prog 77 #[v] w fun e w' => e = .returned (.int .i64 r) ∧ Below w.heap.size w w' := by
  obtain ⟨b, rfl, hc⟩ := h
  exact given_any xs r b 0 xs.length w hr hm hc
def part2 (n d : Int) : Value := .agg #[.int .i64 n, .int .i64 d]
def riskedE (lo hi g b sn sd bn bd : Int) : Int := firstE [unlessV (inB lo hi [g, b]) 2, unlessV ([(sn, sd), (bn, bd)].all fun x => givenB x.1 x.2) 12, unlessV (decide (g < b)) 2]

set_option maxRecDepth 100000 in
set_option maxHeartbeats 2000000 in
theorem riskedR_a (N lo hi g b sn sd bn bd : Int) (w : World) (hm : Hid (inB lo hi [g] = false)) :
    Calls Tryd.prog 62 #[.agg #[.int .i64 N, .int .i64 lo, .int .i64 hi], .int .i64 g, .int .i64 b, .agg #[.int .i64 sn, .int .i64 sd], .agg #[.int .i64 bn, .int .i64 bd]] w fun e w' => e = .returned (.int .i64 2) ∧ Below w.heap.size w w' := by
  have hB0 : Below w.heap.size w (((w.alloc (.cells #[.int .i64 N, .int .i64 lo, .int .i64 hi] 25)).alloc (.cells #[.int .i64 sn, .int .i64 sd] 31)).alloc (.cells #[.int .i64 bn, .int .i64 bd] 31)) := (((Below.refl _ w).alloc (Nat.le_refl _) _).alloc (by simp) _).alloc (by simp; omega) _
  have c0 : (((w.alloc (.cells #[.int .i64 N, .int .i64 lo, .int .i64 hi] 25)).alloc (.cells #[.int .i64 sn, .int .i64 sd] 31)).alloc (.cells #[.int .i64 bn, .int .i64 bd] 31)).cell? ⟨w.heap.size, 0, none⟩ = some (.int .i64 N) := by simp [go_sem]
  have c1 : (((w.alloc (.cells #[.int .i64 N, .int .i64 lo, .int .i64 hi] 25)).alloc (.cells #[.int .i64 sn, .int .i64 sd] 31)).alloc (.cells #[.int .i64 bn, .int .i64 bd] 31)).cell? ⟨w.heap.size, 1, none⟩ = some (.int .i64 lo) := by simp [go_sem]
  have c2 : (((w.alloc (.cells #[.int .i64 N, .int .i64 lo, .int .i64 hi] 25)).alloc (.cells #[.int .i64 sn, .int .i64 sd] 31)).alloc (.cells #[.int .i64 bn, .int .i64 bd] 31)).cell? ⟨w.heap.size, 2, none⟩ = some (.int .i64 hi) := by simp [go_sem]
  have c3 : (((w.alloc (.cells #[.int .i64 N, .int .i64 lo, .int .i64 hi] 25)).alloc (.cells #[.int .i64 sn, .int .i64 sd] 31)).alloc (.cells #[.int .i64 bn, .int .i64 bd] 31)).cell? ⟨w.heap.size + 1, 0, none⟩ = some (.int .i64 sn) := by simp [go_sem]
  have c4 : (((w.alloc (.cells #[.int .i64 N, .int .i64 lo, .int .i64 hi] 25)).alloc (.cells #[.int .i64 sn, .int .i64 sd] 31)).alloc (.cells #[.int .i64 bn, .int .i64 bd] 31)).cell? ⟨w.heap.size + 1, 1, none⟩ = some (.int .i64 sd) := by simp [go_sem]
  have c5 : (((w.alloc (.cells #[.int .i64 N, .int .i64 lo, .int .i64 hi] 25)).alloc (.cells #[.int .i64 sn, .int .i64 sd] 31)).alloc (.cells #[.int .i64 bn, .int .i64 bd] 31)).cell? ⟨w.heap.size + 1 + 1, 0, none⟩ = some (.int .i64 bn) := by simp [go_sem]
  have c6 : (((w.alloc (.cells #[.int .i64 N, .int .i64 lo, .int .i64 hi] 25)).alloc (.cells #[.int .i64 sn, .int .i64 sd] 31)).alloc (.cells #[.int .i64 bn, .int .i64 bd] 31)).cell? ⟨w.heap.size + 1 + 1, 1, none⟩ = some (.int .i64 bd) := by simp [go_sem]
  have s1 := Lib.hid (fun (W : World) (h : Below (((w.alloc (.cells #[.int .i64 N, .int .i64 lo, .int .i64 hi] 25)).alloc (.cells #[.int .i64 sn, .int .i64 sd] 31)).alloc (.cells #[.int .i64 bn, .int .i64 bd] 31)).heap.size (((w.alloc (.cells #[.int .i64 N, .int .i64 lo, .int .i64 hi] 25)).alloc (.cells #[.int .i64 sn, .int .i64 sd] 31)).alloc (.cells #[.int .i64 bn, .int .i64 bd] 31)) W) => And.intro (keepsB h c0) ( And.intro (keepsB h c1) ( And.intro (keepsB h c2) ( And.intro (keepsB h c3) ( And.intro (keepsB h c4) ( And.intro (keepsB h c5) (keepsB h c6)))))))
  have HB0 := Lib.hid hB0
  clear hB0 c0 c1 c2 c3 c4 c5 c6
  go_enter Tryd.func62, Tryd.ntmps62
  go_wp2_with fail
  refine (mayR_any N lo hi g false _ hm.out).mono ?_
  rintro e w1 ⟨rfl, hB1⟩
  have HB1 := Lib.hid hB1
  clear hB1
  obtain ⟨d1_0, d1_1, d1_2, d1_3, d1_4, d1_5, d1_6⟩ := s1.out w1 HB1.out
  go_wp2_with fail
  go_ret
  exact ⟨by simp [*], HB0.out.trans (HB1.out.mono HB0.out.size)⟩

set_option maxRecDepth 100000 in
set_option maxHeartbeats 2000000 in
theorem riskedR_b (N lo hi g b sn sd bn bd : Int) (w : World) (hm : Hid (inB lo hi [g] = true)) (hn : Hid (inB lo hi [b] = false)) :
    Calls Tryd.prog 62 #[.agg #[.int .i64 N, .int .i64 lo, .int .i64 hi], .int .i64 g, .int .i64 b, .agg #[.int .i64 sn, .int .i64 sd], .agg #[.int .i64 bn, .int .i64 bd]] w fun e w' => e = .returned (.int .i64 2) ∧ Below w.heap.size w w' := by
  have hB0 : Below w.heap.size w (((w.alloc (.cells #[.int .i64 N, .int .i64 lo, .int .i64 hi] 25)).alloc (.cells #[.int .i64 sn, .int .i64 sd] 31)).alloc (.cells #[.int .i64 bn, .int .i64 bd] 31)) := (((Below.refl _ w).alloc (Nat.le_refl _) _).alloc (by simp) _).alloc (by simp; omega) _
  have c0 : (((w.alloc (.cells #[.int .i64 N, .int .i64 lo, .int .i64 hi] 25)).alloc (.cells #[.int .i64 sn, .int .i64 sd] 31)).alloc (.cells #[.int .i64 bn, .int .i64 bd] 31)).cell? ⟨w.heap.size, 0, none⟩ = some (.int .i64 N) := by simp [go_sem]
  have c1 : (((w.alloc (.cells #[.int .i64 N, .int .i64 lo, .int .i64 hi] 25)).alloc (.cells #[.int .i64 sn, .int .i64 sd] 31)).alloc (.cells #[.int .i64 bn, .int .i64 bd] 31)).cell? ⟨w.heap.size, 1, none⟩ = some (.int .i64 lo) := by simp [go_sem]
  have c2 : (((w.alloc (.cells #[.int .i64 N, .int .i64 lo, .int .i64 hi] 25)).alloc (.cells #[.int .i64 sn, .int .i64 sd] 31)).alloc (.cells #[.int .i64 bn, .int .i64 bd] 31)).cell? ⟨w.heap.size, 2, none⟩ = some (.int .i64 hi) := by simp [go_sem]
  have c3 : (((w.alloc (.cells #[.int .i64 N, .int .i64 lo, .int .i64 hi] 25)).alloc (.cells #[.int .i64 sn, .int .i64 sd] 31)).alloc (.cells #[.int .i64 bn, .int .i64 bd] 31)).cell? ⟨w.heap.size + 1, 0, none⟩ = some (.int .i64 sn) := by simp [go_sem]
  have c4 : (((w.alloc (.cells #[.int .i64 N, .int .i64 lo, .int .i64 hi] 25)).alloc (.cells #[.int .i64 sn, .int .i64 sd] 31)).alloc (.cells #[.int .i64 bn, .int .i64 bd] 31)).cell? ⟨w.heap.size + 1, 1, none⟩ = some (.int .i64 sd) := by simp [go_sem]
  have c5 : (((w.alloc (.cells #[.int .i64 N, .int .i64 lo, .int .i64 hi] 25)).alloc (.cells #[.int .i64 sn, .int .i64 sd] 31)).alloc (.cells #[.int .i64 bn, .int .i64 bd] 31)).cell? ⟨w.heap.size + 1 + 1, 0, none⟩ = some (.int .i64 bn) := by simp [go_sem]
  have c6 : (((w.alloc (.cells #[.int .i64 N, .int .i64 lo, .int .i64 hi] 25)).alloc (.cells #[.int .i64 sn, .int .i64 sd] 31)).alloc (.cells #[.int .i64 bn, .int .i64 bd] 31)).cell? ⟨w.heap.size + 1 + 1, 1, none⟩ = some (.int .i64 bd) := by simp [go_sem]
  have s1 := Lib.hid (fun (W : World) (h : Below (((w.alloc (.cells #[.int .i64 N, .int .i64 lo, .int .i64 hi] 25)).alloc (.cells #[.int .i64 sn, .int .i64 sd] 31)).alloc (.cells #[.int .i64 bn, .int .i64 bd] 31)).heap.size (((w.alloc (.cells #[.int .i64 N, .int .i64 lo, .int .i64 hi] 25)).alloc (.cells #[.int .i64 sn, .int .i64 sd] 31)).alloc (.cells #[.int .i64 bn, .int .i64 bd] 31)) W) => And.intro (keepsB h c0) ( And.intro (keepsB h c1) ( And.intro (keepsB h c2) ( And.intro (keepsB h c3) ( And.intro (keepsB h c4) ( And.intro (keepsB h c5) (keepsB h c6)))))))
  have HB0 := Lib.hid hB0
  clear hB0 c0 c1 c2 c3 c4 c5 c6
  go_enter Tryd.func62, Tryd.ntmps62
  go_wp2_with fail
  refine (mayR_any N lo hi g true _ hm.out).mono ?_
  rintro e w1 ⟨rfl, hB1⟩
  have HB1 := Lib.hid hB1
  clear hB1
  obtain ⟨d1_0, d1_1, d1_2, d1_3, d1_4, d1_5, d1_6⟩ := s1.out w1 HB1.out
  go_wp2_with fail
  refine (mayR_any N lo hi b false _ hn.out).mono ?_
  rintro e w2 ⟨rfl, hB2⟩
  have HB2 := Lib.hid (HB1.out.trans (hB2.mono HB1.out.size))
  clear hB2
  obtain ⟨d2_0, d2_1, d2_2, d2_3, d2_4, d2_5, d2_6⟩ := s1.out w2 HB2.out
  go_wp2_with fail
  go_ret
  exact ⟨by simp [*], HB0.out.trans (HB2.out.mono HB0.out.size)⟩

set_option maxRecDepth 100000 in
set_option maxHeartbeats 2000000 in
theorem riskedR_c (N lo hi g b sn sd bn bd : Int) (w : World) (hm : Hid (inB lo hi [g] = true)) (hn : Hid (inB lo hi [b] = true)) (hp : Hid (givenB sn sd = false)) :
    Calls Tryd.prog 62 #[.agg #[.int .i64 N, .int .i64 lo, .int .i64 hi], .int .i64 g, .int .i64 b, .agg #[.int .i64 sn, .int .i64 sd], .agg #[.int .i64 bn, .int .i64 bd]] w fun e w' => e = .returned (.int .i64 12) ∧ Below w.heap.size w w' := by
  have hB0 : Below w.heap.size w (((w.alloc (.cells #[.int .i64 N, .int .i64 lo, .int .i64 hi] 25)).alloc (.cells #[.int .i64 sn, .int .i64 sd] 31)).alloc (.cells #[.int .i64 bn, .int .i64 bd] 31)) := (((Below.refl _ w).alloc (Nat.le_refl _) _).alloc (by simp) _).alloc (by simp; omega) _
  have c0 : (((w.alloc (.cells #[.int .i64 N, .int .i64 lo, .int .i64 hi] 25)).alloc (.cells #[.int .i64 sn, .int .i64 sd] 31)).alloc (.cells #[.int .i64 bn, .int .i64 bd] 31)).cell? ⟨w.heap.size, 0, none⟩ = some (.int .i64 N) := by simp [go_sem]
  have c1 : (((w.alloc (.cells #[.int .i64 N, .int .i64 lo, .int .i64 hi] 25)).alloc (.cells #[.int .i64 sn, .int .i64 sd] 31)).alloc (.cells #[.int .i64 bn, .int .i64 bd] 31)).cell? ⟨w.heap.size, 1, none⟩ = some (.int .i64 lo) := by simp [go_sem]
  have c2 : (((w.alloc (.cells #[.int .i64 N, .int .i64 lo, .int .i64 hi] 25)).alloc (.cells #[.int .i64 sn, .int .i64 sd] 31)).alloc (.cells #[.int .i64 bn, .int .i64 bd] 31)).cell? ⟨w.heap.size, 2, none⟩ = some (.int .i64 hi) := by simp [go_sem]
  have c3 : (((w.alloc (.cells #[.int .i64 N, .int .i64 lo, .int .i64 hi] 25)).alloc (.cells #[.int .i64 sn, .int .i64 sd] 31)).alloc (.cells #[.int .i64 bn, .int .i64 bd] 31)).cell? ⟨w.heap.size + 1, 0, none⟩ = some (.int .i64 sn) := by simp [go_sem]
  have c4 : (((w.alloc (.cells #[.int .i64 N, .int .i64 lo, .int .i64 hi] 25)).alloc (.cells #[.int .i64 sn, .int .i64 sd] 31)).alloc (.cells #[.int .i64 bn, .int .i64 bd] 31)).cell? ⟨w.heap.size + 1, 1, none⟩ = some (.int .i64 sd) := by simp [go_sem]
  have c5 : (((w.alloc (.cells #[.int .i64 N, .int .i64 lo, .int .i64 hi] 25)).alloc (.cells #[.int .i64 sn, .int .i64 sd] 31)).alloc (.cells #[.int .i64 bn, .int .i64 bd] 31)).cell? ⟨w.heap.size + 1 + 1, 0, none⟩ = some (.int .i64 bn) := by simp [go_sem]
  have c6 : (((w.alloc (.cells #[.int .i64 N, .int .i64 lo, .int .i64 hi] 25)).alloc (.cells #[.int .i64 sn, .int .i64 sd] 31)).alloc (.cells #[.int .i64 bn, .int .i64 bd] 31)).cell? ⟨w.heap.size + 1 + 1, 1, none⟩ = some (.int .i64 bd) := by simp [go_sem]
  have s1 := Lib.hid (fun (W : World) (h : Below (((w.alloc (.cells #[.int .i64 N, .int .i64 lo, .int .i64 hi] 25)).alloc (.cells #[.int .i64 sn, .int .i64 sd] 31)).alloc (.cells #[.int .i64 bn, .int .i64 bd] 31)).heap.size (((w.alloc (.cells #[.int .i64 N, .int .i64 lo, .int .i64 hi] 25)).alloc (.cells #[.int .i64 sn, .int .i64 sd] 31)).alloc (.cells #[.int .i64 bn, .int .i64 bd] 31)) W) => And.intro (keepsB h c0) ( And.intro (keepsB h c1) ( And.intro (keepsB h c2) ( And.intro (keepsB h c3) ( And.intro (keepsB h c4) ( And.intro (keepsB h c5) (keepsB h c6)))))))
  have HB0 := Lib.hid hB0
  clear hB0 c0 c1 c2 c3 c4 c5 c6
  go_enter Tryd.func62, Tryd.ntmps62
  go_wp2_with fail
  refine (mayR_any N lo hi g true _ hm.out).mono ?_
  rintro e w1 ⟨rfl, hB1⟩
  have HB1 := Lib.hid hB1
  clear hB1
  obtain ⟨d1_0, d1_1, d1_2, d1_3, d1_4, d1_5, d1_6⟩ := s1.out w1 HB1.out
  go_wp2_with fail
  refine (mayR_any N lo hi b true _ hn.out).mono ?_
  rintro e w2 ⟨rfl, hB2⟩
  have HB2 := Lib.hid (HB1.out.trans (hB2.mono HB1.out.size))
  clear hB2
  obtain ⟨d2_0, d2_1, d2_2, d2_3, d2_4, d2_5, d2_6⟩ := s1.out w2 HB2.out
  go_wp2_with fail
  refine (givenR_any sn sd false _ hp.out).mono ?_
  rintro e w3 ⟨rfl, hB3⟩
  have HB3 := Lib.hid (HB2.out.trans (hB3.mono HB2.out.size))
  clear hB3
  obtain ⟨d3_0, d3_1, d3_2, d3_3, d3_4, d3_5, d3_6⟩ := s1.out w3 HB3.out
  go_wp2_with fail
  go_ret
  exact ⟨by simp [*], HB0.out.trans (HB3.out.mono HB0.out.size)⟩

set_option maxRecDepth 100000 in
set_option maxHeartbeats 2000000 in
theorem riskedR_d (N lo hi g b sn sd bn bd : Int) (w : World) (hm : Hid (inB lo hi [g] = true)) (hn : Hid (inB lo hi [b] = true)) (hp : Hid (givenB sn sd = true)) (hq : Hid (givenB bn bd = false)) :
    Calls Tryd.prog 62 #[.agg #[.int .i64 N, .int .i64 lo, .int .i64 hi], .int .i64 g, .int .i64 b, .agg #[.int .i64 sn, .int .i64 sd], .agg #[.int .i64 bn, .int .i64 bd]] w fun e w' => e = .returned (.int .i64 12) ∧ Below w.heap.size w w' := by
  have hB0 : Below w.heap.size w (((w.alloc (.cells #[.int .i64 N, .int .i64 lo, .int .i64 hi] 25)).alloc (.cells #[.int .i64 sn, .int .i64 sd] 31)).alloc (.cells #[.int .i64 bn, .int .i64 bd] 31)) := (((Below.refl _ w).alloc (Nat.le_refl _) _).alloc (by simp) _).alloc (by simp; omega) _
  have c0 : (((w.alloc (.cells #[.int .i64 N, .int .i64 lo, .int .i64 hi] 25)).alloc (.cells #[.int .i64 sn, .int .i64 sd] 31)).alloc (.cells #[.int .i64 bn, .int .i64 bd] 31)).cell? ⟨w.heap.size, 0, none⟩ = some (.int .i64 N) := by simp [go_sem]
  have c1 : (((w.alloc (.cells #[.int .i64 N, .int .i64 lo, .int .i64 hi] 25)).alloc (.cells #[.int .i64 sn, .int .i64 sd] 31)).alloc (.cells #[.int .i64 bn, .int .i64 bd] 31)).cell? ⟨w.heap.size, 1, none⟩ = some (.int .i64 lo) := by simp [go_sem]
  have c2 : (((w.alloc (.cells #[.int .i64 N, .int .i64 lo, .int .i64 hi] 25)).alloc (.cells #[.int .i64 sn, .int .i64 sd] 31)).alloc (.cells #[.int .i64 bn, .int .i64 bd] 31)).cell? ⟨w.heap.size, 2, none⟩ = some (.int .i64 hi) := by simp [go_sem]
  have c3 : (((w.alloc (.cells #[.int .i64 N, .int .i64 lo, .int .i64 hi] 25)).alloc (.cells #[.int .i64 sn, .int .i64 sd] 31)).alloc (.cells #[.int .i64 bn, .int .i64 bd] 31)).cell? ⟨w.heap.size + 1, 0, none⟩ = some (.int .i64 sn) := by simp [go_sem]
  have c4 : (((w.alloc (.cells #[.int .i64 N, .int .i64 lo, .int .i64 hi] 25)).alloc (.cells #[.int .i64 sn, .int .i64 sd] 31)).alloc (.cells #[.int .i64 bn, .int .i64 bd] 31)).cell? ⟨w.heap.size + 1, 1, none⟩ = some (.int .i64 sd) := by simp [go_sem]
  have c5 : (((w.alloc (.cells #[.int .i64 N, .int .i64 lo, .int .i64 hi] 25)).alloc (.cells #[.int .i64 sn, .int .i64 sd] 31)).alloc (.cells #[.int .i64 bn, .int .i64 bd] 31)).cell? ⟨w.heap.size + 1 + 1, 0, none⟩ = some (.int .i64 bn) := by simp [go_sem]
  have c6 : (((w.alloc (.cells #[.int .i64 N, .int .i64 lo, .int .i64 hi] 25)).alloc (.cells #[.int .i64 sn, .int .i64 sd] 31)).alloc (.cells #[.int .i64 bn, .int .i64 bd] 31)).cell? ⟨w.heap.size + 1 + 1, 1, none⟩ = some (.int .i64 bd) := by simp [go_sem]
  have s1 := Lib.hid (fun (W : World) (h : Below (((w.alloc (.cells #[.int .i64 N, .int .i64 lo, .int .i64 hi] 25)).alloc (.cells #[.int .i64 sn, .int .i64 sd] 31)).alloc (.cells #[.int .i64 bn, .int .i64 bd] 31)).heap.size (((w.alloc (.cells #[.int .i64 N, .int .i64 lo, .int .i64 hi] 25)).alloc (.cells #[.int .i64 sn, .int .i64 sd] 31)).alloc (.cells #[.int .i64 bn, .int .i64 bd] 31)) W) => And.intro (keepsB h c0) ( And.intro (keepsB h c1) ( And.intro (keepsB h c2) ( And.intro (keepsB h c3) ( And.intro (keepsB h c4) ( And.intro (keepsB h c5) (keepsB h c6)))))))
  have HB0 := Lib.hid hB0
  clear hB0 c0 c1 c2 c3 c4 c5 c6
  go_enter Tryd.func62, Tryd.ntmps62
  go_wp2_with fail
  refine (mayR_any N lo hi g true _ hm.out).mono ?_
  rintro e w1 ⟨rfl, hB1⟩
  have HB1 := Lib.hid hB1
  clear hB1
  obtain ⟨d1_0, d1_1, d1_2, d1_3, d1_4, d1_5, d1_6⟩ := s1.out w1 HB1.out
  go_wp2_with fail
  refine (mayR_any N lo hi b true _ hn.out).mono ?_
  rintro e w2 ⟨rfl, hB2⟩
  have HB2 := Lib.hid (HB1.out.trans (hB2.mono HB1.out.size))
  clear hB2
  obtain ⟨d2_0, d2_1, d2_2, d2_3, d2_4, d2_5, d2_6⟩ := s1.out w2 HB2.out
  go_wp2_with fail
  refine (givenR_any sn sd true _ hp.out).mono ?_
  rintro e w3 ⟨rfl, hB3⟩
  have HB3 := Lib.hid (HB2.out.trans (hB3.mono HB2.out.size))
  clear hB3
  obtain ⟨d3_0, d3_1, d3_2, d3_3, d3_4, d3_5, d3_6⟩ := s1.out w3 HB3.out
  go_wp2_with fail
  refine (givenR_any bn bd false _ hq.out).mono ?_
  rintro e w4 ⟨rfl, hB4⟩
  have HB4 := Lib.hid (HB3.out.trans (hB4.mono HB3.out.size))
  clear hB4
  obtain ⟨d4_0, d4_1, d4_2, d4_3, d4_4, d4_5, d4_6⟩ := s1.out w4 HB4.out
  go_wp2_with fail
  go_ret
  exact ⟨by simp [*], HB0.out.trans (HB4.out.mono HB0.out.size)⟩

set_option maxRecDepth 100000 in
set_option maxHeartbeats 2000000 in
theorem riskedR_e (N lo hi g b sn sd bn bd : Int) (w : World) (hm : Hid (inB lo hi [g] = true)) (hn : Hid (inB lo hi [b] = true)) (hp : Hid (givenB sn sd = true)) (hq : Hid (givenB bn bd = true)) :
    Calls Tryd.prog 62 #[.agg #[.int .i64 N, .int .i64 lo, .int .i64 hi], .int .i64 g, .int .i64 b, .agg #[.int .i64 sn, .int .i64 sd], .agg #[.int .i64 bn, .int .i64 bd]] w fun e w' => e = .returned (.int .i64 (if b ≤ g then 2 else 0)) ∧ Below w.heap.size w w' := by
  have hB0 : Below w.heap.size w (((w.alloc (.cells #[.int .i64 N, .int .i64 lo, .int .i64 hi] 25)).alloc (.cells #[.int .i64 sn, .int .i64 sd] 31)).alloc (.cells #[.int .i64 bn, .int .i64 bd] 31)) := (((Below.refl _ w).alloc (Nat.le_refl _) _).alloc (by simp) _).alloc (by simp; omega) _
  have c0 : (((w.alloc (.cells #[.int .i64 N, .int .i64 lo, .int .i64 hi] 25)).alloc (.cells #[.int .i64 sn, .int .i64 sd] 31)).alloc (.cells #[.int .i64 bn, .int .i64 bd] 31)).cell? ⟨w.heap.size, 0, none⟩ = some (.int .i64 N) := by simp [go_sem]
  have c1 : (((w.alloc (.cells #[.int .i64 N, .int .i64 lo, .int .i64 hi] 25)).alloc (.cells #[.int .i64 sn, .int .i64 sd] 31)).alloc (.cells #[.int .i64 bn, .int .i64 bd] 31)).cell? ⟨w.heap.size, 1, none⟩ = some (.int .i64 lo) := by simp [go_sem]
  have c2 : (((w.alloc (.cells #[.int .i64 N, .int .i64 lo, .int .i64 hi] 25)).alloc (.cells #[.int .i64 sn, .int .i64 sd] 31)).alloc (.cells #[.int .i64 bn, .int .i64 bd] 31)).cell? ⟨w.heap.size, 2, none⟩ = some (.int .i64 hi) := by simp [go_sem]
  have c3 : (((w.alloc (.cells #[.int .i64 N, .int .i64 lo, .int .i64 hi] 25)).alloc (.cells #[.int .i64 sn, .int .i64 sd] 31)).alloc (.cells #[.int .i64 bn, .int .i64 bd] 31)).cell? ⟨w.heap.size + 1, 0, none⟩ = some (.int .i64 sn) := by simp [go_sem]
  have c4 : (((w.alloc (.cells #[.int .i64 N, .int .i64 lo, .int .i64 hi] 25)).alloc (.cells #[.int .i64 sn, .int .i64 sd] 31)).alloc (.cells #[.int .i64 bn, .int .i64 bd] 31)).cell? ⟨w.heap.size + 1, 1, none⟩ = some (.int .i64 sd) := by simp [go_sem]
  have c5 : (((w.alloc (.cells #[.int .i64 N, .int .i64 lo, .int .i64 hi] 25)).alloc (.cells #[.int .i64 sn, .int .i64 sd] 31)).alloc (.cells #[.int .i64 bn, .int .i64 bd] 31)).cell? ⟨w.heap.size + 1 + 1, 0, none⟩ = some (.int .i64 bn) := by simp [go_sem]
  have c6 : (((w.alloc (.cells #[.int .i64 N, .int .i64 lo, .int .i64 hi] 25)).alloc (.cells #[.int .i64 sn, .int .i64 sd] 31)).alloc (.cells #[.int .i64 bn, .int .i64 bd] 31)).cell? ⟨w.heap.size + 1 + 1, 1, none⟩ = some (.int .i64 bd) := by simp [go_sem]
  have s1 := Lib.hid (fun (W : World) (h : Below (((w.alloc (.cells #[.int .i64 N, .int .i64 lo, .int .i64 hi] 25)).alloc (.cells #[.int .i64 sn, .int .i64 sd] 31)).alloc (.cells #[.int .i64 bn, .int .i64 bd] 31)).heap.size (((w.alloc (.cells #[.int .i64 N, .int .i64 lo, .int .i64 hi] 25)).alloc (.cells #[.int .i64 sn, .int .i64 sd] 31)).alloc (.cells #[.int .i64 bn, .int .i64 bd] 31)) W) => And.intro (keepsB h c0) ( And.intro (keepsB h c1) ( And.intro (keepsB h c2) ( And.intro (keepsB h c3) ( And.intro (keepsB h c4) ( And.intro (keepsB h c5) (keepsB h c6)))))))
  have HB0 := Lib.hid hB0
  clear hB0 c0 c1 c2 c3 c4 c5 c6
  by_cases hbg : b ≤ g
  ·
    go_enter Tryd.func62, Tryd.ntmps62
    go_wp2_with fail
    refine (mayR_any N lo hi g true _ hm.out).mono ?_
    rintro e w1 ⟨rfl, hB1⟩
    have HB1 := Lib.hid hB1
    clear hB1
    obtain ⟨d1_0, d1_1, d1_2, d1_3, d1_4, d1_5, d1_6⟩ := s1.out w1 HB1.out
    go_wp2_with fail
    refine (mayR_any N lo hi b true _ hn.out).mono ?_
    rintro e w2 ⟨rfl, hB2⟩
    have HB2 := Lib.hid (HB1.out.trans (hB2.mono HB1.out.size))
    clear hB2
    obtain ⟨d2_0, d2_1, d2_2, d2_3, d2_4, d2_5, d2_6⟩ := s1.out w2 HB2.out
    go_wp2_with fail
    refine (givenR_any sn sd true _ hp.out).mono ?_
    rintro e w3 ⟨rfl, hB3⟩
    have HB3 := Lib.hid (HB2.out.trans (hB3.mono HB2.out.size))
    clear hB3
    obtain ⟨d3_0, d3_1, d3_2, d3_3, d3_4, d3_5, d3_6⟩ := s1.out w3 HB3.out
    go_wp2_with fail
    refine (givenR_any bn bd true _ hq.out).mono ?_
    rintro e w4 ⟨rfl, hB4⟩
    have HB4 := Lib.hid (HB3.out.trans (hB4.mono HB3.out.size))
    clear hB4
    obtain ⟨d4_0, d4_1, d4_2, d4_3, d4_4, d4_5, d4_6⟩ := s1.out w4 HB4.out
    go_wp2_with fail
    go_ret
    exact ⟨by simp [*], HB0.out.trans (HB4.out.mono HB0.out.size)⟩
  ·
    go_enter Tryd.func62, Tryd.ntmps62
    go_wp2_with fail
    refine (mayR_any N lo hi g true _ hm.out).mono ?_
    rintro e w1 ⟨rfl, hB1⟩
    have HB1 := Lib.hid hB1
    clear hB1
    obtain ⟨d1_0, d1_1, d1_2, d1_3, d1_4, d1_5, d1_6⟩ := s1.out w1 HB1.out
    go_wp2_with fail
    refine (mayR_any N lo hi b true _ hn.out).mono ?_
    rintro e w2 ⟨rfl, hB2⟩
    have HB2 := Lib.hid (HB1.out.trans (hB2.mono HB1.out.size))
    clear hB2
    obtain ⟨d2_0, d2_1, d2_2, d2_3, d2_4, d2_5, d2_6⟩ := s1.out w2 HB2.out
    go_wp2_with fail
    refine (givenR_any sn sd true _ hp.out).mono ?_
    rintro e w3 ⟨rfl, hB3⟩
    have HB3 := Lib.hid (HB2.out.trans (hB3.mono HB2.out.size))
    clear hB3
    obtain ⟨d3_0, d3_1, d3_2, d3_3, d3_4, d3_5, d3_6⟩ := s1.out w3 HB3.out
    go_wp2_with fail
    refine (givenR_any bn bd true _ hq.out).mono ?_
    rintro e w4 ⟨rfl, hB4⟩
    have HB4 := Lib.hid (HB3.out.trans (hB4.mono HB3.out.size))
    clear hB4
    obtain ⟨d4_0, d4_1, d4_2, d4_3, d4_4, d4_5, d4_6⟩ := s1.out w4 HB4.out
    go_wp2_with fail
    go_ret
    exact ⟨by simp [*], HB0.out.trans (HB4.out.mono HB0.out.size)⟩

theorem riskedR_any (N lo hi g b sn sd bn bd r : Int) (w : World) (hr : riskedE lo hi g b sn sd bn bd = r) :
    Calls Tryd.prog 62 #[.agg #[.int .i64 N, .int .i64 lo, .int .i64 hi], .int .i64 g, .int .i64 b, .agg #[.int .i64 sn, .int .i64 sd], .agg #[.int .i64 bn, .int .i64 bd]] w fun e w' => e = .returned (.int .i64 r) ∧ Below w.heap.size w w' := by
  subst hr
  have h2 : inB lo hi [g, b] = (inB lo hi [g] && inB lo hi [b]) := by simp [inB]
  unfold riskedE
  rw [h2]
  cases hm : inB lo hi [g]
  · simpa [unlessV, firstE] using riskedR_a N lo hi g b sn sd bn bd w hm
  cases hn : inB lo hi [b]
  · simpa [unlessV, firstE] using riskedR_b N lo hi g b sn sd bn bd w hm hn
  cases hp : givenB sn sd
  · simpa [unlessV, firstE, hp] using riskedR_c N lo hi g b sn sd bn bd w hm hn hp
  cases hq : givenB bn bd
  · simpa [unlessV, firstE, hp, hq] using riskedR_d N lo hi g b sn sd bn bd w hm hn hp hq
  by_cases hbg : b ≤ g
  · simpa [unlessV, firstE, hp, hq, hbg, Int.not_lt.mpr hbg] using riskedR_e N lo hi g b sn sd bn bd w hm hn hp hq
  · simpa [unlessV, firstE, hp, hq, hbg, Int.not_le.mp hbg] using riskedR_e N lo hi g b sn sd bn bd w hm hn hp hq

set_option maxRecDepth 100000 in
set_option maxHeartbeats 2000000 in
theorem risked_any (hb : Nat) (lo hi g b sn sd bn bd : Int) (x y z r : Int) (w : World) (h1 : w.cell? ⟨hb, 1, none⟩ = some (.int .i64 lo)) (h2 : w.cell? ⟨hb, 2, none⟩ = some (.int .i64 hi))
    (hx : Hid (unlessV (inB lo hi [g, b]) 2 = x)) (hy : Hid (unlessV ([(sn, sd), (bn, bd)].all fun x => givenB x.1 x.2) 12 = y)) (hz : Hid (unlessV (decide (g < b)) 2 = z)) (hr : Hid (firstE [x, y, z] = r)) :
    Calls Tryd.prog 60 #[.pointer (some ⟨hb, 0, none⟩), .int .i64 g, .int .i64 b, .agg #[.int .i64 sn, .int .i64 sd], .agg #[.int .i64 bn, .int .i64 bd]] w fun e w' => e = .returned (.int .i64 r) ∧ Below w.heap.size w w' := by
  have hB0 : Below w.heap.size w ((w.alloc (.cells #[.int .i64 sn, .int .i64 sd] 31)).alloc (.cells #[.int .i64 bn, .int .i64 bd] 31)) := ((Below.refl _ w).alloc (Nat.le_refl _) _).alloc (by simp) _
  have c0 : ((w.alloc (.cells #[.int .i64 sn, .int .i64 sd] 31)).alloc (.cells #[.int .i64 bn, .int .i64 bd] 31)).cell? ⟨w.heap.size, 0, none⟩ = some (.int .i64 sn) := by simp [go_sem]
  have c1 : ((w.alloc (.cells #[.int .i64 sn, .int .i64 sd] 31)).alloc (.cells #[.int .i64 bn, .int .i64 bd] 31)).cell? ⟨w.heap.size, 1, none⟩ = some (.int .i64 sd) := by simp [go_sem]
  have c2 : ((w.alloc (.cells #[.int .i64 sn, .int .i64 sd] 31)).alloc (.cells #[.int .i64 bn, .int .i64 bd] 31)).cell? ⟨w.heap.size + 1, 0, none⟩ = some (.int .i64 bn) := by simp [go_sem]
  have c3 : ((w.alloc (.cells #[.int .i64 sn, .int .i64 sd] 31)).alloc (.cells #[.int .i64 bn, .int .i64 bd] 31)).cell? ⟨w.heap.size + 1, 1, none⟩ = some (.int .i64 bd) := by simp [go_sem]
  have HC := Lib.hid (And.intro c0 (And.intro c1 (And.intro c2 (And.intro c3 (And.intro (keepsB hB0 h1) (keepsB hB0 h2))))))
  have HB0 := Lib.hid hB0
  clear hB0 c0 c1 c2 c3 h1 h2
  go_enter Tryd.func60, Tryd.ntmps60
  go_wp2_with fail
  generalize ((w.alloc (.cells #[.int .i64 sn, .int .i64 sd] 31)).alloc (.cells #[.int .i64 bn, .int .i64 bd] 31)) = W0 at *
  generalize hbb : w.heap.size = bb at *
  have HBB := Lib.hid hbb
  clear hbb
  have hF : ∀ W, Free.Bel W0.drew W → W.cell? ⟨bb, 0, none⟩ = some (.int .i64 sn) ∧ W.cell? ⟨bb, 1, none⟩ = some (.int .i64 sd) ∧ W.cell? ⟨bb + 1, 0, none⟩ = some (.int .i64 bn) ∧ W.cell? ⟨bb + 1, 1, none⟩ = some (.int .i64 bd) ∧ W.cell? ⟨hb, 1, none⟩ = some (.int .i64 lo) ∧ W.cell? ⟨hb, 2, none⟩ = some (.int .i64 hi) :=
    fun W hW => ⟨keepsB hW HC.out.1, keepsB hW HC.out.2.1, keepsB hW HC.out.2.2.1, keepsB hW HC.out.2.2.2.1, keepsB hW HC.out.2.2.2.2.1, keepsB hW HC.out.2.2.2.2.2⟩
  refine Free.wp_free (R := Free.Bel) (by kernel_rfl) (by kernel_rfl) Free.Bel.refl Free.Bel.trans ?_
  refine Free.Chain.ex ?_ [] [0] (by kernel_rfl) (by kernel_rfl) rfl Free.Bel.refl ?_ ?_
  rotate_left
  · (intro ev W hb hR hO hD; have hS := hF W hR; obtain ⟨hb1, hb2, hb3⟩ := hb; simp only [Free.AllDeps, Free.AllOuts, Free.At, List.getElem?_cons_succ, List.getElem?_cons_zero, Array.getD_eq_getD_getElem?, List.getElem?_toArray, Option.getD_some, and_true] at hO hD; go_simp; rfl)
  simp only [List.nil_append, List.cons_append]
  refine Free.Chain.ex ?_ [] [1] (by kernel_rfl) (by kernel_rfl) rfl Free.Bel.refl ?_ ?_
  rotate_left
  · (intro ev W hb hR hO hD; have hS := hF W hR; obtain ⟨hb1, hb2, hb3⟩ := hb; simp only [Free.AllDeps, Free.AllOuts, Free.At, List.getElem?_cons_succ, List.getElem?_cons_zero, Array.getD_eq_getD_getElem?, List.getElem?_toArray, Option.getD_some, and_true] at hO hD; go_simp; rfl)
  simp only [List.nil_append, List.cons_append]
  refine Free.Chain.ex ?_ [] [2] (by kernel_rfl) (by kernel_rfl) rfl Free.Bel.refl ?_ ?_
  rotate_left
  · (intro ev W hb hR hO hD; have hS := hF W hR; obtain ⟨hb1, hb2, hb3⟩ := hb; simp only [Free.AllDeps, Free.AllOuts, Free.At, List.getElem?_cons_succ, List.getElem?_cons_zero, Array.getD_eq_getD_getElem?, List.getElem?_toArray, Option.getD_some, and_true] at hO hD; go_simp; rfl)
  simp only [List.nil_append, List.cons_append]
  refine Free.Chain.pr (SlI [g, b]) [(1, 12), (2, 13)] [] (by kernel_rfl) (by kernel_rfl) rfl (SlI.stable _) ?_ ?_
  · (intro ev W hb hR hO hD; have hS := hF W hR; obtain ⟨hb1, hb2, hb3⟩ := hb; simp only [Free.AllDeps, Free.AllOuts, Free.At, List.getElem?_cons_succ, List.getElem?_cons_zero, Array.getD_eq_getD_getElem?, List.getElem?_toArray, Option.getD_some, and_true] at hO hD; go_simp; exact ⟨belAlloc _ _, SlI.two _ _ _ _⟩)
  simp only [List.nil_append, List.cons_append]
  refine Free.Chain.pr (fun v _ => v = .int .i64 x) [(0, 11), (3, 14)] [] (by kernel_rfl) (by kernel_rfl) rfl (fun _ _ _ _ h => h) ?_ ?_
  · (intro ev W hb hR hO hD; have hS := hF W hR; obtain ⟨hb1, hb2, hb3⟩ := hb; simp only [Free.AllDeps, Free.AllOuts, Free.At, List.getElem?_cons_succ, List.getElem?_cons_zero, Array.getD_eq_getD_getElem?, List.getElem?_toArray, Option.getD_some, and_true] at hO hD; go_simp; refine (may_any hb lo hi [g, b] _ x _ (by simp [maxLen]) hS.2.2.2.2.1 hS.2.2.2.2.2 hD.2 hx.out).mono ?_; rintro e W1 ⟨rfl, hB1⟩; exact ⟨_, rfl, hB1, rfl⟩)
  simp only [List.nil_append, List.cons_append]
  refine Free.Chain.ex ?_ [] [8] (by kernel_rfl) (by kernel_rfl) rfl Free.Bel.refl ?_ ?_
  rotate_left
  · (intro ev W hb hR hO hD; have hS := hF W hR; obtain ⟨hb1, hb2, hb3⟩ := hb; simp only [Free.AllDeps, Free.AllOuts, Free.At, List.getElem?_cons_succ, List.getElem?_cons_zero, Array.getD_eq_getD_getElem?, List.getElem?_toArray, Option.getD_some, and_true] at hO hD; go_simp; rfl)
  simp only [List.nil_append, List.cons_append]
  refine Free.Chain.ex ?_ [] [9] (by kernel_rfl) (by kernel_rfl) rfl Free.Bel.refl ?_ ?_
  rotate_left
  · (intro ev W hb hR hO hD; have hS := hF W hR; obtain ⟨hb1, hb2, hb3⟩ := hb; simp only [Free.AllDeps, Free.AllOuts, Free.At, List.getElem?_cons_succ, List.getElem?_cons_zero, Array.getD_eq_getD_getElem?, List.getElem?_toArray, Option.getD_some, and_true] at hO hD; go_simp; rfl)
  simp only [List.nil_append, List.cons_append]
  refine Free.Chain.pr (SlP [(sn, sd), (bn, bd)]) [(5, 16), (6, 17)] [] (by kernel_rfl) (by kernel_rfl) rfl (SlP.stable _) ?_ ?_
  · (intro ev W hb hR hO hD; have hS := hF W hR; obtain ⟨hb1, hb2, hb3⟩ := hb; simp only [Free.AllDeps, Free.AllOuts, Free.At, List.getElem?_cons_succ, List.getElem?_cons_zero, Array.getD_eq_getD_getElem?, List.getElem?_toArray, Option.getD_some, and_true] at hO hD; go_simp; exact ⟨belAlloc _ _, SlP.two _ _ _ _ _ _⟩)
  simp only [List.nil_append, List.cons_append]
  refine Free.Chain.pr (fun v _ => v = .int .i64 y) [(7, 18), (4, 15)] [] (by kernel_rfl) (by kernel_rfl) rfl (fun _ _ _ _ h => h) ?_ ?_
  · (intro ev W hb hR hO hD; have hS := hF W hR; obtain ⟨hb1, hb2, hb3⟩ := hb; simp only [Free.AllDeps, Free.AllOuts, Free.At, List.getElem?_cons_succ, List.getElem?_cons_zero, Array.getD_eq_getD_getElem?, List.getElem?_toArray, Option.getD_some, and_true] at hO hD; go_simp; refine (given_sl [(sn, sd), (bn, bd)] y _ _ (by simp [maxLen]) hy.out hD.1).mono ?_; rintro e W1 ⟨rfl, hB1⟩; exact ⟨_, rfl, hB1, rfl⟩)
  simp only [List.nil_append, List.cons_append]
  refine Free.Chain.ex ?_ [] [1] (by kernel_rfl) (by kernel_rfl) rfl Free.Bel.refl ?_ ?_
  rotate_left
  · (intro ev W hb hR hO hD; have hS := hF W hR; obtain ⟨hb1, hb2, hb3⟩ := hb; simp only [Free.AllDeps, Free.AllOuts, Free.At, List.getElem?_cons_succ, List.getElem?_cons_zero, Array.getD_eq_getD_getElem?, List.getElem?_toArray, Option.getD_some, and_true] at hO hD; go_simp; rfl)
  simp only [List.nil_append, List.cons_append]
  refine Free.Chain.ex ?_ [] [2] (by kernel_rfl) (by kernel_rfl) rfl Free.Bel.refl ?_ ?_
  rotate_left
  · (intro ev W hb hR hO hD; have hS := hF W hR; obtain ⟨hb1, hb2, hb3⟩ := hb; simp only [Free.AllDeps, Free.AllOuts, Free.At, List.getElem?_cons_succ, List.getElem?_cons_zero, Array.getD_eq_getD_getElem?, List.getElem?_toArray, Option.getD_some, and_true] at hO hD; go_simp; rfl)
  simp only [List.nil_append, List.cons_append]
  refine Free.Chain.ex ?_ [(9, 20), (10, 21)] [] (by kernel_rfl) (by kernel_rfl) rfl Free.Bel.refl ?_ ?_
  rotate_left
  · (intro ev W hb hR hO hD; have hS := hF W hR; obtain ⟨hb1, hb2, hb3⟩ := hb; simp only [Free.AllDeps, Free.AllOuts, Free.At, List.getElem?_cons_succ, List.getElem?_cons_zero, Array.getD_eq_getD_getElem?, List.getElem?_toArray, Option.getD_some, and_true] at hO hD; go_simp; rfl)
  simp only [List.nil_append, List.cons_append]
  refine Free.Chain.pr (fun v _ => v = .int .i64 z) [(11, 22), (8, 19)] [] (by kernel_rfl) (by kernel_rfl) rfl (fun _ _ _ _ h => h) ?_ ?_
  · (intro ev W hb hR hO hD; have hS := hF W hR; obtain ⟨hb1, hb2, hb3⟩ := hb; simp only [Free.AllDeps, Free.AllOuts, Free.At, List.getElem?_cons_succ, List.getElem?_cons_zero, Array.getD_eq_getD_getElem?, List.getElem?_toArray, Option.getD_some, and_true] at hO hD; go_simp; refine (unless_any _ _ z _ hz.out).mono ?_; rintro e W1 ⟨rfl, rfl⟩; exact ⟨_, rfl, Free.Bel.refl _, rfl⟩)
  simp only [List.nil_append, List.cons_append]
  refine Free.Chain.pr (SlI [x, y, z]) [(4, 15), (8, 19), (12, 23)] [] (by kernel_rfl) (by kernel_rfl) rfl (SlI.stable _) ?_ ?_
  · (intro ev W hb hR hO hD; have hS := hF W hR; obtain ⟨hb1, hb2, hb3⟩ := hb; simp only [Free.AllDeps, Free.AllOuts, Free.At, List.getElem?_cons_succ, List.getElem?_cons_zero, Array.getD_eq_getD_getElem?, List.getElem?_toArray, Option.getD_some, and_true] at hO hD; go_simp; exact ⟨belAlloc _ _, SlI.three _ _ _ _ _⟩)
  simp only [List.nil_append, List.cons_append]
  refine Free.Chain.pr (fun v _ => v = .int .i64 r) [(13, 24), (12, 23)] [] (by kernel_rfl) (by kernel_rfl) rfl (fun _ _ _ _ h => h) ?_ ?_
  · (intro ev W hb hR hO hD; have hS := hF W hR; obtain ⟨hb1, hb2, hb3⟩ := hb; simp only [Free.AllDeps, Free.AllOuts, Free.At, List.getElem?_cons_succ, List.getElem?_cons_zero, Array.getD_eq_getD_getElem?, List.getElem?_toArray, Option.getD_some, and_true] at hO hD; go_simp; refine (first_sl [x, y, z] r _ _ (by simp [maxLen]) hr.out hD.1).mono ?_; rintro e W1 ⟨rfl, rfl⟩; exact ⟨_, rfl, Free.Bel.refl _, rfl⟩)
  simp only [List.nil_append, List.cons_append]
  refine Free.Chain.ex ?_ [(14, 25), (14, 25), (0, 11), (1, 12), (2, 13), (3, 14), (4, 15), (5, 16), (6, 17), (7, 18), (8, 19), (9, 20), (10, 21), (11, 22), (12, 23), (13, 24), (14, 25)] [] (by kernel_rfl) (by kernel_rfl) rfl Free.Bel.refl ?_ ?_
  rotate_left
  · (intro ev W hb hR hO hD; have hS := hF W hR; obtain ⟨hb1, hb2, hb3⟩ := hb; simp only [Free.AllDeps, Free.AllOuts, Free.At, List.getElem?_cons_succ, List.getElem?_cons_zero, Array.getD_eq_getD_getElem?, List.getElem?_toArray, Option.getD_some, and_true] at hO hD; go_simp; rfl)
  simp only [List.nil_append, List.cons_append]
  intro xs w' hR hV
  simp only [Free.AllV, Free.At, List.length_cons, List.length_nil, Nat.reduceAdd, List.getElem?_cons_succ, List.getElem?_cons_zero, true_and] at hV
  simp only [Free.putsFrom, Act.put, hV, List.setIfInBounds_toArray, List.set_cons_succ, List.set_cons_zero]
  go_wp2_with fail
  have hbb := HBB.out
  subst hbb
  go_ret
  exact ⟨rfl, HB0.out.drew.trans (hR.mono (by have := HB0.out.size; simp; omega))⟩
end Go.Proofs.YthhallnkpbgomaaDoor
