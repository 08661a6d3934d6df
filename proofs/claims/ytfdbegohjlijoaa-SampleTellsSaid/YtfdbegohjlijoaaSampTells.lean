/- The law: what is told of chances is the specification's. -/
import Derived.Test.YtfdbegohjlijoaaSampRefD
namespace Go.Proofs.Ytfdbegohjlijoaa
set_option linter.unusedSimpArgs false
set_option linter.unusedVariables false
open Go.RowKit Go.Proofs.Ytfdbegohjlijoaa.ML Go.Proofs.Ytfdbegohjlijoaa.Samp

theorem shape_if {c d : Prop} [Decidable c] [Decidable d] (x y : Int) (a b : Nat) : ∃ px py e : Int, (if c then #[zeroPart, .int .i64 x] else if d then #[zeroPart, .int .i64 y] else #[partV a b, .int .i64 0]) = #[.agg #[.int .i64 px, .int .i64 py], .int .i64 e] := by
  split
  · exact ⟨_, _, _, rfl⟩
  · split
    · exact ⟨_, _, _, rfl⟩
    · exact ⟨_, _, _, rfl⟩
theorem ways2_any (n k : Int) (w : World) :
    Calls Try.prog 6 #[.int .i64 n, .int .i64 k] w fun e w' => e = .returned (.tuple (if nkB n k = true then #[.int .i64 (chI n k), .int .i64 0] else #[.int .i64 0, .int .i64 2])) ∧ Below w.heap.size w w' := by
  cases h : nkB n k
  · simpa using ways2_bad n k w h
  · simpa using ways2_ok n k w h

set_option maxRecDepth 100000 in
set_option maxHeartbeats 4000000 in
theorem tells_walk (N lo hi D o f n k : Int) (w : World) :
    Calls Try.prog 3 #[.agg #[.int .i64 N, .int .i64 lo, .int .i64 hi], .int .i64 D, .agg #[.int .i64 o, .int .i64 f], .int .i64 n, .int .i64 k] w fun e w' => e = .returned (.bool true) ∧ Below w.heap.size w w' := by
  obtain ⟨a1, e1, hx1⟩ : ∃ a e : Int, (if nkB n k = true then #[.int .i64 (chI n k), .int .i64 0] else #[.int .i64 0, .int .i64 2]) = #[Value.int .i64 a, .int .i64 e] := by
    split
    · exact ⟨_, _, rfl⟩
    · exact ⟨_, _, rfl⟩
  obtain ⟨p2, q2, e2, hx2⟩ := shape_if (c := cargoB N lo hi = false) (d := drawnE N lo hi D o f ≠ 0) 10 (drawnE N lo hi D o f) (waysI N D o f).toNat (chI N o).toNat
  obtain ⟨p3, q3, e3, hx3⟩ : ∃ px py e : Int, (if cargoB N lo hi = false then #[zeroPart, .int .i64 10] else if drawnE N lo hi D o f ≠ 0 then #[zeroPart, .int .i64 (drawnE N lo hi D o f)] else #[mostV N D o f, .int .i64 0]) = #[.agg #[.int .i64 px, .int .i64 py], .int .i64 e] := shape_if 10 _ _ _
  obtain ⟨p4, q4, e4, hx4⟩ := shape_if (c := cargoB N lo hi = false) (d := meanE N lo hi D n ≠ 0) 10 (meanE N lo hi D n) (D * n).toNat N.toNat
  obtain ⟨e5, hx5⟩ : ∃ e : Int, unlessV (cargoB N lo hi) 10 = e := ⟨_, rfl⟩
  have k1 : Hid (∀ W, Calls Try.prog 6 #[.int .i64 n, .int .i64 k] W fun e w' => e = .returned (.tuple #[.int .i64 a1, .int .i64 e1]) ∧ Below W.heap.size W w') := fun W => by
    have := ways2_any n k W
    rw [hx1] at this
    exact this
  have k2 : Hid (∀ W, Calls Try.prog 7 #[.int .i64 n, .int .i64 k] W fun e w' => e = .returned (.tuple #[.int .i64 a1, .int .i64 e1]) ∧ W = w') := fun W => by
    have := waysR_any n k W
    rw [hx1] at this
    exact this
  have k3 : Hid (∀ W, Calls Try.prog 8 #[.agg #[.int .i64 N, .int .i64 lo, .int .i64 hi], .int .i64 D, .agg #[.int .i64 o, .int .i64 f]] W fun e w' => e = .returned (.tuple #[.agg #[.int .i64 p2, .int .i64 q2], .int .i64 e2]) ∧ Below W.heap.size W w') := fun W => by
    have := chance_any N lo hi D o f W
    rw [hx2] at this
    exact this
  have k4 : Hid (∀ W, Calls Try.prog 9 #[.agg #[.int .i64 N, .int .i64 lo, .int .i64 hi], .int .i64 D, .agg #[.int .i64 o, .int .i64 f]] W fun e w' => e = .returned (.tuple #[.agg #[.int .i64 p2, .int .i64 q2], .int .i64 e2]) ∧ Below W.heap.size W w') := fun W => by
    have := chanceR_any N lo hi D o f W
    rw [hx2] at this
    exact this
  have k5 : Hid (∀ W, Calls Try.prog 10 #[.agg #[.int .i64 N, .int .i64 lo, .int .i64 hi], .int .i64 D, .agg #[.int .i64 o, .int .i64 f]] W fun e w' => e = .returned (.tuple #[.agg #[.int .i64 p3, .int .i64 q3], .int .i64 e3]) ∧ Below W.heap.size W w') := fun W => by
    have := atmost_any N lo hi D o f W
    rw [hx3] at this
    exact this
  have k6 : Hid (∀ W, Calls Try.prog 11 #[.agg #[.int .i64 N, .int .i64 lo, .int .i64 hi], .int .i64 D, .agg #[.int .i64 o, .int .i64 f]] W fun e w' => e = .returned (.tuple #[.agg #[.int .i64 p3, .int .i64 q3], .int .i64 e3]) ∧ Below W.heap.size W w') := fun W => by
    have := atmostR_any N lo hi D o f W
    rw [hx3] at this
    exact this
  have k7 : Hid (∀ W, Calls Try.prog 12 #[.agg #[.int .i64 N, .int .i64 lo, .int .i64 hi], .int .i64 D, .int .i64 n] W fun e w' => e = .returned (.tuple #[.agg #[.int .i64 p4, .int .i64 q4], .int .i64 e4]) ∧ Below W.heap.size W w') := fun W => by
    have := mean_any N lo hi D n W
    rw [hx4] at this
    exact this
  have k8 : Hid (∀ W, Calls Try.prog 13 #[.agg #[.int .i64 N, .int .i64 lo, .int .i64 hi], .int .i64 D, .int .i64 n] W fun e w' => e = .returned (.tuple #[.agg #[.int .i64 p4, .int .i64 q4], .int .i64 e4]) ∧ Below W.heap.size W w') := fun W => by
    have := meanR_any N lo hi D n W
    rw [hx4] at this
    exact this
  have k9 : Hid (∀ W, Calls Try.prog 14 #[.agg #[.int .i64 N, .int .i64 lo, .int .i64 hi]] W fun e w' => e = .returned (.int .i64 e5) ∧ Below W.heap.size W w') := fun W => by
    have := check_any N lo hi W
    rw [hx5] at this
    exact this
  have k10 : Hid (∀ W, Calls Try.prog 15 #[.agg #[.int .i64 N, .int .i64 lo, .int .i64 hi]] W fun e w' => e = .returned (.int .i64 e5) ∧ Below W.heap.size W w') := fun W => by
    have := checkR_any N lo hi W
    rw [hx5] at this
    exact this
  clear hx1 hx2 hx3 hx4 hx5
  have hB0 : Below w.heap.size w ((w.alloc (.cells #[.int .i64 N, .int .i64 lo, .int .i64 hi] 25)).alloc (.cells #[.int .i64 o, .int .i64 f] 27)) := ((Below.refl _ w).alloc (Nat.le_refl _) _).alloc (by simp) _
  have b0 : ((w.alloc (.cells #[.int .i64 N, .int .i64 lo, .int .i64 hi] 25)).alloc (.cells #[.int .i64 o, .int .i64 f] 27)).cell? ⟨w.heap.size, 0, none⟩ = some (.int .i64 N) := by simp [go_sem]
  have b1 : ((w.alloc (.cells #[.int .i64 N, .int .i64 lo, .int .i64 hi] 25)).alloc (.cells #[.int .i64 o, .int .i64 f] 27)).cell? ⟨w.heap.size, 1, none⟩ = some (.int .i64 lo) := by simp [go_sem]
  have b2 : ((w.alloc (.cells #[.int .i64 N, .int .i64 lo, .int .i64 hi] 25)).alloc (.cells #[.int .i64 o, .int .i64 f] 27)).cell? ⟨w.heap.size, 2, none⟩ = some (.int .i64 hi) := by simp [go_sem]
  have d0 : ((w.alloc (.cells #[.int .i64 N, .int .i64 lo, .int .i64 hi] 25)).alloc (.cells #[.int .i64 o, .int .i64 f] 27)).cell? ⟨w.heap.size + 1, 0, none⟩ = some (.int .i64 o) := by simp [go_sem]
  have d1 : ((w.alloc (.cells #[.int .i64 N, .int .i64 lo, .int .i64 hi] 25)).alloc (.cells #[.int .i64 o, .int .i64 f] 27)).cell? ⟨w.heap.size + 1, 1, none⟩ = some (.int .i64 f) := by simp [go_sem]
  have HB := Lib.hid hB0
  clear hB0
  go_enter Try.func3, Try.ntmps3
  go_wp2_with fail
  generalize ((w.alloc (.cells #[.int .i64 N, .int .i64 lo, .int .i64 hi] 25)).alloc (.cells #[.int .i64 o, .int .i64 f] 27)) = W0 at *
  generalize hbb : w.heap.size = bb at *
  have HBB := Lib.hid hbb
  clear hbb
  have hsz : bb < W0.heap.size := lt_of_cell b0
  refine (k1.out _).mono ?_
  rintro e w1 ⟨rfl, hB⟩
  have b0 := keepsB hB b0
  have b1 := keepsB hB b1
  have b2 := keepsB hB b2
  have d0 := keepsB hB d0
  have d1 := keepsB hB d1
  have HB := Lib.hid (HB.out.trans (hB.mono (Nat.le_of_lt hsz)))
  have hsz : bb < w1.heap.size := Nat.lt_of_lt_of_le hsz hB.size
  clear hB
  go_wp2_with fail
  refine (k2.out _).mono ?_
  rintro e w2 ⟨rfl, rfl⟩
  go_wp2_with fail
  refine (k3.out _).mono ?_
  rintro e w3 ⟨rfl, hB⟩
  have b0 := keepsB hB b0
  have b1 := keepsB hB b1
  have b2 := keepsB hB b2
  have d0 := keepsB hB d0
  have d1 := keepsB hB d1
  have HB := Lib.hid (HB.out.trans (hB.mono (Nat.le_of_lt hsz)))
  have hsz : bb < w3.heap.size := Nat.lt_of_lt_of_le hsz hB.size
  clear hB
  have b0 := keepsB (belAlloc w3 (.cells #[.int .i64 p2, .int .i64 q2] 34)) b0
  have b1 := keepsB (belAlloc w3 (.cells #[.int .i64 p2, .int .i64 q2] 34)) b1
  have b2 := keepsB (belAlloc w3 (.cells #[.int .i64 p2, .int .i64 q2] 34)) b2
  have d0 := keepsB (belAlloc w3 (.cells #[.int .i64 p2, .int .i64 q2] 34)) d0
  have d1 := keepsB (belAlloc w3 (.cells #[.int .i64 p2, .int .i64 q2] 34)) d1
  have r30 : (w3.alloc (.cells #[.int .i64 p2, .int .i64 q2] 34)).cell? ⟨w3.heap.size, 0, none⟩ = some (.int .i64 p2) := by simp [go_sem]
  have r31 : (w3.alloc (.cells #[.int .i64 p2, .int .i64 q2] 34)).cell? ⟨w3.heap.size, 1, none⟩ = some (.int .i64 q2) := by simp [go_sem]
  have HB := Lib.hid (HB.out.alloc (Nat.le_of_lt hsz) (.cells #[.int .i64 p2, .int .i64 q2] 34))
  have hsz : bb < (w3.alloc (.cells #[.int .i64 p2, .int .i64 q2] 34)).heap.size := by simp; omega
  go_wp2_with fail
  refine (k4.out _).mono ?_
  rintro e w4 ⟨rfl, hB⟩
  have b0 := keepsB hB b0
  have b1 := keepsB hB b1
  have b2 := keepsB hB b2
  have d0 := keepsB hB d0
  have d1 := keepsB hB d1
  have r30 := keepsB hB r30
  have r31 := keepsB hB r31
  have HB := Lib.hid (HB.out.trans (hB.mono (Nat.le_of_lt hsz)))
  have hsz : bb < w4.heap.size := Nat.lt_of_lt_of_le hsz hB.size
  clear hB
  have b0 := keepsB (belAlloc w4 (.cells #[.int .i64 p2, .int .i64 q2] 34)) b0
  have b1 := keepsB (belAlloc w4 (.cells #[.int .i64 p2, .int .i64 q2] 34)) b1
  have b2 := keepsB (belAlloc w4 (.cells #[.int .i64 p2, .int .i64 q2] 34)) b2
  have d0 := keepsB (belAlloc w4 (.cells #[.int .i64 p2, .int .i64 q2] 34)) d0
  have d1 := keepsB (belAlloc w4 (.cells #[.int .i64 p2, .int .i64 q2] 34)) d1
  have r30 := keepsB (belAlloc w4 (.cells #[.int .i64 p2, .int .i64 q2] 34)) r30
  have r31 := keepsB (belAlloc w4 (.cells #[.int .i64 p2, .int .i64 q2] 34)) r31
  have r40 : (w4.alloc (.cells #[.int .i64 p2, .int .i64 q2] 34)).cell? ⟨w4.heap.size, 0, none⟩ = some (.int .i64 p2) := by simp [go_sem]
  have r41 : (w4.alloc (.cells #[.int .i64 p2, .int .i64 q2] 34)).cell? ⟨w4.heap.size, 1, none⟩ = some (.int .i64 q2) := by simp [go_sem]
  have HB := Lib.hid (HB.out.alloc (Nat.le_of_lt hsz) (.cells #[.int .i64 p2, .int .i64 q2] 34))
  have hsz : bb < (w4.alloc (.cells #[.int .i64 p2, .int .i64 q2] 34)).heap.size := by simp; omega
  go_wp2_with fail
  refine (k5.out _).mono ?_
  rintro e w5 ⟨rfl, hB⟩
  have b0 := keepsB hB b0
  have b1 := keepsB hB b1
  have b2 := keepsB hB b2
  have d0 := keepsB hB d0
  have d1 := keepsB hB d1
  have r30 := keepsB hB r30
  have r31 := keepsB hB r31
  have r40 := keepsB hB r40
  have r41 := keepsB hB r41
  have HB := Lib.hid (HB.out.trans (hB.mono (Nat.le_of_lt hsz)))
  have hsz : bb < w5.heap.size := Nat.lt_of_lt_of_le hsz hB.size
  clear hB
  have b0 := keepsB (belAlloc w5 (.cells #[.int .i64 p3, .int .i64 q3] 34)) b0
  have b1 := keepsB (belAlloc w5 (.cells #[.int .i64 p3, .int .i64 q3] 34)) b1
  have b2 := keepsB (belAlloc w5 (.cells #[.int .i64 p3, .int .i64 q3] 34)) b2
  have d0 := keepsB (belAlloc w5 (.cells #[.int .i64 p3, .int .i64 q3] 34)) d0
  have d1 := keepsB (belAlloc w5 (.cells #[.int .i64 p3, .int .i64 q3] 34)) d1
  have r30 := keepsB (belAlloc w5 (.cells #[.int .i64 p3, .int .i64 q3] 34)) r30
  have r31 := keepsB (belAlloc w5 (.cells #[.int .i64 p3, .int .i64 q3] 34)) r31
  have r40 := keepsB (belAlloc w5 (.cells #[.int .i64 p3, .int .i64 q3] 34)) r40
  have r41 := keepsB (belAlloc w5 (.cells #[.int .i64 p3, .int .i64 q3] 34)) r41
  have r50 : (w5.alloc (.cells #[.int .i64 p3, .int .i64 q3] 34)).cell? ⟨w5.heap.size, 0, none⟩ = some (.int .i64 p3) := by simp [go_sem]
  have r51 : (w5.alloc (.cells #[.int .i64 p3, .int .i64 q3] 34)).cell? ⟨w5.heap.size, 1, none⟩ = some (.int .i64 q3) := by simp [go_sem]
  have HB := Lib.hid (HB.out.alloc (Nat.le_of_lt hsz) (.cells #[.int .i64 p3, .int .i64 q3] 34))
  have hsz : bb < (w5.alloc (.cells #[.int .i64 p3, .int .i64 q3] 34)).heap.size := by simp; omega
  go_wp2_with fail
  refine (k6.out _).mono ?_
  rintro e w6 ⟨rfl, hB⟩
  have b0 := keepsB hB b0
  have b1 := keepsB hB b1
  have b2 := keepsB hB b2
  have d0 := keepsB hB d0
  have d1 := keepsB hB d1
  have r30 := keepsB hB r30
  have r31 := keepsB hB r31
  have r40 := keepsB hB r40
  have r41 := keepsB hB r41
  have r50 := keepsB hB r50
  have r51 := keepsB hB r51
  have HB := Lib.hid (HB.out.trans (hB.mono (Nat.le_of_lt hsz)))
  have hsz : bb < w6.heap.size := Nat.lt_of_lt_of_le hsz hB.size
  clear hB
  have b0 := keepsB (belAlloc w6 (.cells #[.int .i64 p3, .int .i64 q3] 34)) b0
  have b1 := keepsB (belAlloc w6 (.cells #[.int .i64 p3, .int .i64 q3] 34)) b1
  have b2 := keepsB (belAlloc w6 (.cells #[.int .i64 p3, .int .i64 q3] 34)) b2
  have d0 := keepsB (belAlloc w6 (.cells #[.int .i64 p3, .int .i64 q3] 34)) d0
  have d1 := keepsB (belAlloc w6 (.cells #[.int .i64 p3, .int .i64 q3] 34)) d1
  have r30 := keepsB (belAlloc w6 (.cells #[.int .i64 p3, .int .i64 q3] 34)) r30
  have r31 := keepsB (belAlloc w6 (.cells #[.int .i64 p3, .int .i64 q3] 34)) r31
  have r40 := keepsB (belAlloc w6 (.cells #[.int .i64 p3, .int .i64 q3] 34)) r40
  have r41 := keepsB (belAlloc w6 (.cells #[.int .i64 p3, .int .i64 q3] 34)) r41
  have r50 := keepsB (belAlloc w6 (.cells #[.int .i64 p3, .int .i64 q3] 34)) r50
  have r51 := keepsB (belAlloc w6 (.cells #[.int .i64 p3, .int .i64 q3] 34)) r51
  have r60 : (w6.alloc (.cells #[.int .i64 p3, .int .i64 q3] 34)).cell? ⟨w6.heap.size, 0, none⟩ = some (.int .i64 p3) := by simp [go_sem]
  have r61 : (w6.alloc (.cells #[.int .i64 p3, .int .i64 q3] 34)).cell? ⟨w6.heap.size, 1, none⟩ = some (.int .i64 q3) := by simp [go_sem]
  have HB := Lib.hid (HB.out.alloc (Nat.le_of_lt hsz) (.cells #[.int .i64 p3, .int .i64 q3] 34))
  have hsz : bb < (w6.alloc (.cells #[.int .i64 p3, .int .i64 q3] 34)).heap.size := by simp; omega
  go_wp2_with fail
  refine (k7.out _).mono ?_
  rintro e w7 ⟨rfl, hB⟩
  have b0 := keepsB hB b0
  have b1 := keepsB hB b1
  have b2 := keepsB hB b2
  have d0 := keepsB hB d0
  have d1 := keepsB hB d1
  have r30 := keepsB hB r30
  have r31 := keepsB hB r31
  have r40 := keepsB hB r40
  have r41 := keepsB hB r41
  have r50 := keepsB hB r50
  have r51 := keepsB hB r51
  have r60 := keepsB hB r60
  have r61 := keepsB hB r61
  have HB := Lib.hid (HB.out.trans (hB.mono (Nat.le_of_lt hsz)))
  have hsz : bb < w7.heap.size := Nat.lt_of_lt_of_le hsz hB.size
  clear hB
  have b0 := keepsB (belAlloc w7 (.cells #[.int .i64 p4, .int .i64 q4] 34)) b0
  have b1 := keepsB (belAlloc w7 (.cells #[.int .i64 p4, .int .i64 q4] 34)) b1
  have b2 := keepsB (belAlloc w7 (.cells #[.int .i64 p4, .int .i64 q4] 34)) b2
  have d0 := keepsB (belAlloc w7 (.cells #[.int .i64 p4, .int .i64 q4] 34)) d0
  have d1 := keepsB (belAlloc w7 (.cells #[.int .i64 p4, .int .i64 q4] 34)) d1
  have r30 := keepsB (belAlloc w7 (.cells #[.int .i64 p4, .int .i64 q4] 34)) r30
  have r31 := keepsB (belAlloc w7 (.cells #[.int .i64 p4, .int .i64 q4] 34)) r31
  have r40 := keepsB (belAlloc w7 (.cells #[.int .i64 p4, .int .i64 q4] 34)) r40
  have r41 := keepsB (belAlloc w7 (.cells #[.int .i64 p4, .int .i64 q4] 34)) r41
  have r50 := keepsB (belAlloc w7 (.cells #[.int .i64 p4, .int .i64 q4] 34)) r50
  have r51 := keepsB (belAlloc w7 (.cells #[.int .i64 p4, .int .i64 q4] 34)) r51
  have r60 := keepsB (belAlloc w7 (.cells #[.int .i64 p4, .int .i64 q4] 34)) r60
  have r61 := keepsB (belAlloc w7 (.cells #[.int .i64 p4, .int .i64 q4] 34)) r61
  have r70 : (w7.alloc (.cells #[.int .i64 p4, .int .i64 q4] 34)).cell? ⟨w7.heap.size, 0, none⟩ = some (.int .i64 p4) := by simp [go_sem]
  have r71 : (w7.alloc (.cells #[.int .i64 p4, .int .i64 q4] 34)).cell? ⟨w7.heap.size, 1, none⟩ = some (.int .i64 q4) := by simp [go_sem]
  have HB := Lib.hid (HB.out.alloc (Nat.le_of_lt hsz) (.cells #[.int .i64 p4, .int .i64 q4] 34))
  have hsz : bb < (w7.alloc (.cells #[.int .i64 p4, .int .i64 q4] 34)).heap.size := by simp; omega
  go_wp2_with fail
  refine (k8.out _).mono ?_
  rintro e w8 ⟨rfl, hB⟩
  have b0 := keepsB hB b0
  have b1 := keepsB hB b1
  have b2 := keepsB hB b2
  have d0 := keepsB hB d0
  have d1 := keepsB hB d1
  have r30 := keepsB hB r30
  have r31 := keepsB hB r31
  have r40 := keepsB hB r40
  have r41 := keepsB hB r41
  have r50 := keepsB hB r50
  have r51 := keepsB hB r51
  have r60 := keepsB hB r60
  have r61 := keepsB hB r61
  have r70 := keepsB hB r70
  have r71 := keepsB hB r71
  have HB := Lib.hid (HB.out.trans (hB.mono (Nat.le_of_lt hsz)))
  have hsz : bb < w8.heap.size := Nat.lt_of_lt_of_le hsz hB.size
  clear hB
  have b0 := keepsB (belAlloc w8 (.cells #[.int .i64 p4, .int .i64 q4] 34)) b0
  have b1 := keepsB (belAlloc w8 (.cells #[.int .i64 p4, .int .i64 q4] 34)) b1
  have b2 := keepsB (belAlloc w8 (.cells #[.int .i64 p4, .int .i64 q4] 34)) b2
  have d0 := keepsB (belAlloc w8 (.cells #[.int .i64 p4, .int .i64 q4] 34)) d0
  have d1 := keepsB (belAlloc w8 (.cells #[.int .i64 p4, .int .i64 q4] 34)) d1
  have r30 := keepsB (belAlloc w8 (.cells #[.int .i64 p4, .int .i64 q4] 34)) r30
  have r31 := keepsB (belAlloc w8 (.cells #[.int .i64 p4, .int .i64 q4] 34)) r31
  have r40 := keepsB (belAlloc w8 (.cells #[.int .i64 p4, .int .i64 q4] 34)) r40
  have r41 := keepsB (belAlloc w8 (.cells #[.int .i64 p4, .int .i64 q4] 34)) r41
  have r50 := keepsB (belAlloc w8 (.cells #[.int .i64 p4, .int .i64 q4] 34)) r50
  have r51 := keepsB (belAlloc w8 (.cells #[.int .i64 p4, .int .i64 q4] 34)) r51
  have r60 := keepsB (belAlloc w8 (.cells #[.int .i64 p4, .int .i64 q4] 34)) r60
  have r61 := keepsB (belAlloc w8 (.cells #[.int .i64 p4, .int .i64 q4] 34)) r61
  have r70 := keepsB (belAlloc w8 (.cells #[.int .i64 p4, .int .i64 q4] 34)) r70
  have r71 := keepsB (belAlloc w8 (.cells #[.int .i64 p4, .int .i64 q4] 34)) r71
  have r80 : (w8.alloc (.cells #[.int .i64 p4, .int .i64 q4] 34)).cell? ⟨w8.heap.size, 0, none⟩ = some (.int .i64 p4) := by simp [go_sem]
  have r81 : (w8.alloc (.cells #[.int .i64 p4, .int .i64 q4] 34)).cell? ⟨w8.heap.size, 1, none⟩ = some (.int .i64 q4) := by simp [go_sem]
  have HB := Lib.hid (HB.out.alloc (Nat.le_of_lt hsz) (.cells #[.int .i64 p4, .int .i64 q4] 34))
  have hsz : bb < (w8.alloc (.cells #[.int .i64 p4, .int .i64 q4] 34)).heap.size := by simp; omega
  go_wp2_with fail
  generalize (w8.alloc (.cells #[.int .i64 p4, .int .i64 q4] 34)) = W9 at *
  generalize w3.heap.size = g3 at *
  generalize w4.heap.size = g4 at *
  generalize w5.heap.size = g5 at *
  generalize w6.heap.size = g6 at *
  generalize w7.heap.size = g7 at *
  generalize w8.heap.size = g8 at *
  have hszF : bb < W9.heap.size := lt_of_cell b0
  have hF : ∀ W, Free.Bel W9.drew W → W.cell? ⟨bb, 0, none⟩ = some (.int .i64 N) ∧ W.cell? ⟨bb, 1, none⟩ = some (.int .i64 lo) ∧ W.cell? ⟨bb, 2, none⟩ = some (.int .i64 hi) ∧ W.cell? ⟨g3, 0, none⟩ = some (.int .i64 p2) ∧ W.cell? ⟨g3, 1, none⟩ = some (.int .i64 q2) ∧ W.cell? ⟨g4, 0, none⟩ = some (.int .i64 p2) ∧ W.cell? ⟨g4, 1, none⟩ = some (.int .i64 q2) ∧ W.cell? ⟨g5, 0, none⟩ = some (.int .i64 p3) ∧ W.cell? ⟨g5, 1, none⟩ = some (.int .i64 q3) ∧ W.cell? ⟨g6, 0, none⟩ = some (.int .i64 p3) ∧ W.cell? ⟨g6, 1, none⟩ = some (.int .i64 q3) ∧ W.cell? ⟨g7, 0, none⟩ = some (.int .i64 p4) ∧ W.cell? ⟨g7, 1, none⟩ = some (.int .i64 q4) ∧ W.cell? ⟨g8, 0, none⟩ = some (.int .i64 p4) ∧ W.cell? ⟨g8, 1, none⟩ = some (.int .i64 q4) :=
    fun W hW => ⟨keepsB hW b0, keepsB hW b1, keepsB hW b2, keepsB hW r30, keepsB hW r31, keepsB hW r40, keepsB hW r41, keepsB hW r50, keepsB hW r51, keepsB hW r60, keepsB hW r61, keepsB hW r70, keepsB hW r71, keepsB hW r80, keepsB hW r81⟩
  refine Free.wp_free (R := Free.Bel) (by kernel_rfl) (by kernel_rfl) Free.Bel.refl Free.Bel.trans ?_
  refine Free.Chain.ex ?_ [] [5] (by kernel_rfl) (by kernel_rfl) rfl Free.Bel.refl ?_ ?_
  rotate_left
  · (intro ev W hb hR hO hD; have hS := hF W hR; obtain ⟨hb1, hb2, hb3⟩ := hb; simp only [Free.AllDeps, Free.AllOuts, Free.At, List.getElem?_cons_succ, List.getElem?_cons_zero, Array.getD_eq_getD_getElem?, List.getElem?_toArray, Option.getD_some, and_true] at hO hD; go_simp; rfl)
  simp only [List.nil_append, List.cons_append]
  refine Free.Chain.pr (fun v _ => v = .int .i64 e5) [(0, 81)] [] (by kernel_rfl) (by kernel_rfl) rfl (fun _ _ _ _ h => h) ?_ ?_
  · (intro ev W hb hR hO hD; have hS := hF W hR; obtain ⟨hb1, hb2, hb3⟩ := hb; simp only [Free.AllDeps, Free.AllOuts, Free.At, List.getElem?_cons_succ, List.getElem?_cons_zero, Array.getD_eq_getD_getElem?, List.getElem?_toArray, Option.getD_some, and_true] at hO hD; go_simp; refine (k9.out _).mono ?_; rintro e W1 ⟨rfl, hB1⟩; exact ⟨_, rfl, hB1, rfl⟩)
  simp only [List.nil_append, List.cons_append]
  refine Free.Chain.ex ?_ [] [5] (by kernel_rfl) (by kernel_rfl) rfl Free.Bel.refl ?_ ?_
  rotate_left
  · (intro ev W hb hR hO hD; have hS := hF W hR; obtain ⟨hb1, hb2, hb3⟩ := hb; simp only [Free.AllDeps, Free.AllOuts, Free.At, List.getElem?_cons_succ, List.getElem?_cons_zero, Array.getD_eq_getD_getElem?, List.getElem?_toArray, Option.getD_some, and_true] at hO hD; go_simp; rfl)
  simp only [List.nil_append, List.cons_append]
  refine Free.Chain.pr (fun v _ => v = .int .i64 e5) [(2, 83), (1, 82)] [] (by kernel_rfl) (by kernel_rfl) rfl (fun _ _ _ _ h => h) ?_ ?_
  · (intro ev W hb hR hO hD; have hS := hF W hR; obtain ⟨hb1, hb2, hb3⟩ := hb; simp only [Free.AllDeps, Free.AllOuts, Free.At, List.getElem?_cons_succ, List.getElem?_cons_zero, Array.getD_eq_getD_getElem?, List.getElem?_toArray, Option.getD_some, and_true] at hO hD; go_simp; refine (k10.out _).mono ?_; rintro e W1 ⟨rfl, hB1⟩; exact ⟨_, rfl, hB1, rfl⟩)
  simp only [List.nil_append, List.cons_append]
  refine Free.Chain.ex ?_ [(1, 82), (3, 84)] [] (by kernel_rfl) (by kernel_rfl) rfl Free.Bel.refl ?_ ?_
  rotate_left
  · (intro ev W hb hR hO hD; have hS := hF W hR; obtain ⟨hb1, hb2, hb3⟩ := hb; simp only [Free.AllDeps, Free.AllOuts, Free.At, List.getElem?_cons_succ, List.getElem?_cons_zero, Array.getD_eq_getD_getElem?, List.getElem?_toArray, Option.getD_some, and_true] at hO hD; go_simp; rfl)
  simp only [List.nil_append, List.cons_append]
  refine Free.Chain.ex ?_ [(4, 85), (3, 84)] [] (by kernel_rfl) (by kernel_rfl) rfl Free.Bel.refl ?_ ?_
  rotate_left
  · (intro ev W hb hR hO hD; have hS := hF W hR; obtain ⟨hb1, hb2, hb3⟩ := hb; simp only [Free.AllDeps, Free.AllOuts, Free.At, List.getElem?_cons_succ, List.getElem?_cons_zero, Array.getD_eq_getD_getElem?, List.getElem?_toArray, Option.getD_some, and_true] at hO hD; go_simp; rfl)
  simp only [List.nil_append, List.cons_append]
  refine Free.Chain.exG ?_ [(5, 86)] [11] 5 true 86 (by kernel_rfl) (by kernel_rfl) rfl (by kernel_rfl) Free.Bel.refl ?_ ?_
  rotate_left
  · (intro ev W hb hR hO hD; have hS := hF W hR; obtain ⟨hb1, hb2, hb3⟩ := hb; simp only [Free.AllDeps, Free.AllOuts, Free.At, List.getElem?_cons_succ, List.getElem?_cons_zero, Array.getD_eq_getD_getElem?, List.getElem?_toArray, Option.getD_some, and_true] at hO hD; refine ⟨by simp [hD], ?_⟩; go_simp; rfl)
  simp only [List.nil_append, List.cons_append]
  refine Free.Chain.exG ?_ [(5, 86)] [13] 5 true 86 (by kernel_rfl) (by kernel_rfl) rfl (by kernel_rfl) Free.Bel.refl ?_ ?_
  rotate_left
  · (intro ev W hb hR hO hD; have hS := hF W hR; obtain ⟨hb1, hb2, hb3⟩ := hb; simp only [Free.AllDeps, Free.AllOuts, Free.At, List.getElem?_cons_succ, List.getElem?_cons_zero, Array.getD_eq_getD_getElem?, List.getElem?_toArray, Option.getD_some, and_true] at hO hD; refine ⟨by simp [hD], ?_⟩; go_simp; rfl)
  simp only [List.nil_append, List.cons_append]
  refine Free.Chain.exG ?_ [(6, 87), (7, 88), (5, 86)] [] 5 true 86 (by kernel_rfl) (by kernel_rfl) rfl (by kernel_rfl) Free.Bel.refl ?_ ?_
  rotate_left
  · (intro ev W hb hR hO hD; have hS := hF W hR; obtain ⟨hb1, hb2, hb3⟩ := hb; simp only [Free.AllDeps, Free.AllOuts, Free.At, List.getElem?_cons_succ, List.getElem?_cons_zero, Array.getD_eq_getD_getElem?, List.getElem?_toArray, Option.getD_some, and_true] at hO hD; refine ⟨by simp [hD], ?_⟩; go_simp; rfl)
  simp only [List.nil_append, List.cons_append]
  refine Free.Chain.ex ?_ [(5, 86), (8, 89)] [] (by kernel_rfl) (by kernel_rfl) rfl Free.Bel.refl ?_ ?_
  rotate_left
  · (intro ev W hb hR hO hD; have hS := hF W hR; obtain ⟨hb1, hb2, hb3⟩ := hb; simp only [Free.AllDeps, Free.AllOuts, Free.At, List.getElem?_cons_succ, List.getElem?_cons_zero, Array.getD_eq_getD_getElem?, List.getElem?_toArray, Option.getD_some, and_true] at hO hD; go_simp; rfl)
  simp only [List.nil_append, List.cons_append]
  refine Free.Chain.ex ?_ [(9, 90), (5, 86)] [] (by kernel_rfl) (by kernel_rfl) rfl Free.Bel.refl ?_ ?_
  rotate_left
  · (intro ev W hb hR hO hD; have hS := hF W hR; obtain ⟨hb1, hb2, hb3⟩ := hb; simp only [Free.AllDeps, Free.AllOuts, Free.At, List.getElem?_cons_succ, List.getElem?_cons_zero, Array.getD_eq_getD_getElem?, List.getElem?_toArray, Option.getD_some, and_true] at hO hD; go_simp; rfl)
  simp only [List.nil_append, List.cons_append]
  refine Free.Chain.exG ?_ [(10, 91)] [12] 10 true 91 (by kernel_rfl) (by kernel_rfl) rfl (by kernel_rfl) Free.Bel.refl ?_ ?_
  rotate_left
  · (intro ev W hb hR hO hD; have hS := hF W hR; obtain ⟨hb1, hb2, hb3⟩ := hb; simp only [Free.AllDeps, Free.AllOuts, Free.At, List.getElem?_cons_succ, List.getElem?_cons_zero, Array.getD_eq_getD_getElem?, List.getElem?_toArray, Option.getD_some, and_true] at hO hD; refine ⟨by simp [hD], ?_⟩; go_simp; rfl)
  simp only [List.nil_append, List.cons_append]
  refine Free.Chain.exG ?_ [(10, 91)] [14] 10 true 91 (by kernel_rfl) (by kernel_rfl) rfl (by kernel_rfl) Free.Bel.refl ?_ ?_
  rotate_left
  · (intro ev W hb hR hO hD; have hS := hF W hR; obtain ⟨hb1, hb2, hb3⟩ := hb; simp only [Free.AllDeps, Free.AllOuts, Free.At, List.getElem?_cons_succ, List.getElem?_cons_zero, Array.getD_eq_getD_getElem?, List.getElem?_toArray, Option.getD_some, and_true] at hO hD; refine ⟨by simp [hD], ?_⟩; go_simp; rfl)
  simp only [List.nil_append, List.cons_append]
  refine Free.Chain.exG ?_ [(11, 92), (12, 93), (10, 91)] [] 10 true 91 (by kernel_rfl) (by kernel_rfl) rfl (by kernel_rfl) Free.Bel.refl ?_ ?_
  rotate_left
  · (intro ev W hb hR hO hD; have hS := hF W hR; obtain ⟨hb1, hb2, hb3⟩ := hb; simp only [Free.AllDeps, Free.AllOuts, Free.At, List.getElem?_cons_succ, List.getElem?_cons_zero, Array.getD_eq_getD_getElem?, List.getElem?_toArray, Option.getD_some, and_true] at hO hD; refine ⟨by simp [hD], ?_⟩; go_simp; rfl)
  simp only [List.nil_append, List.cons_append]
  refine Free.Chain.ex ?_ [(10, 91), (13, 94)] [] (by kernel_rfl) (by kernel_rfl) rfl Free.Bel.refl ?_ ?_
  rotate_left
  · (intro ev W hb hR hO hD; have hS := hF W hR; obtain ⟨hb1, hb2, hb3⟩ := hb; simp only [Free.AllDeps, Free.AllOuts, Free.At, List.getElem?_cons_succ, List.getElem?_cons_zero, Array.getD_eq_getD_getElem?, List.getElem?_toArray, Option.getD_some, and_true] at hO hD; go_simp; rfl)
  simp only [List.nil_append, List.cons_append]
  refine Free.Chain.ex ?_ [(14, 95), (10, 91)] [] (by kernel_rfl) (by kernel_rfl) rfl Free.Bel.refl ?_ ?_
  rotate_left
  · (intro ev W hb hR hO hD; have hS := hF W hR; obtain ⟨hb1, hb2, hb3⟩ := hb; simp only [Free.AllDeps, Free.AllOuts, Free.At, List.getElem?_cons_succ, List.getElem?_cons_zero, Array.getD_eq_getD_getElem?, List.getElem?_toArray, Option.getD_some, and_true] at hO hD; go_simp; rfl)
  simp only [List.nil_append, List.cons_append]
  refine Free.Chain.exG ?_ [(15, 96)] [15] 15 true 96 (by kernel_rfl) (by kernel_rfl) rfl (by kernel_rfl) Free.Bel.refl ?_ ?_
  rotate_left
  · (intro ev W hb hR hO hD; have hS := hF W hR; obtain ⟨hb1, hb2, hb3⟩ := hb; simp only [Free.AllDeps, Free.AllOuts, Free.At, List.getElem?_cons_succ, List.getElem?_cons_zero, Array.getD_eq_getD_getElem?, List.getElem?_toArray, Option.getD_some, and_true] at hO hD; refine ⟨by simp [hD], ?_⟩; go_simp; rfl)
  simp only [List.nil_append, List.cons_append]
  refine Free.Chain.exG ?_ [(15, 96)] [17] 15 true 96 (by kernel_rfl) (by kernel_rfl) rfl (by kernel_rfl) Free.Bel.refl ?_ ?_
  rotate_left
  · (intro ev W hb hR hO hD; have hS := hF W hR; obtain ⟨hb1, hb2, hb3⟩ := hb; simp only [Free.AllDeps, Free.AllOuts, Free.At, List.getElem?_cons_succ, List.getElem?_cons_zero, Array.getD_eq_getD_getElem?, List.getElem?_toArray, Option.getD_some, and_true] at hO hD; refine ⟨by simp [hD], ?_⟩; go_simp; rfl)
  simp only [List.nil_append, List.cons_append]
  refine Free.Chain.exG ?_ [(16, 97), (17, 98), (15, 96)] [] 15 true 96 (by kernel_rfl) (by kernel_rfl) rfl (by kernel_rfl) Free.Bel.refl ?_ ?_
  rotate_left
  · (intro ev W hb hR hO hD; have hS := hF W hR; obtain ⟨hb1, hb2, hb3⟩ := hb; simp only [Free.AllDeps, Free.AllOuts, Free.At, List.getElem?_cons_succ, List.getElem?_cons_zero, Array.getD_eq_getD_getElem?, List.getElem?_toArray, Option.getD_some, and_true] at hO hD; refine ⟨by simp [hD], ?_⟩; go_simp; rfl)
  simp only [List.nil_append, List.cons_append]
  refine Free.Chain.ex ?_ [(15, 96), (18, 99)] [] (by kernel_rfl) (by kernel_rfl) rfl Free.Bel.refl ?_ ?_
  rotate_left
  · (intro ev W hb hR hO hD; have hS := hF W hR; obtain ⟨hb1, hb2, hb3⟩ := hb; simp only [Free.AllDeps, Free.AllOuts, Free.At, List.getElem?_cons_succ, List.getElem?_cons_zero, Array.getD_eq_getD_getElem?, List.getElem?_toArray, Option.getD_some, and_true] at hO hD; go_simp; rfl)
  simp only [List.nil_append, List.cons_append]
  refine Free.Chain.ex ?_ [(19, 100), (15, 96)] [] (by kernel_rfl) (by kernel_rfl) rfl Free.Bel.refl ?_ ?_
  rotate_left
  · (intro ev W hb hR hO hD; have hS := hF W hR; obtain ⟨hb1, hb2, hb3⟩ := hb; simp only [Free.AllDeps, Free.AllOuts, Free.At, List.getElem?_cons_succ, List.getElem?_cons_zero, Array.getD_eq_getD_getElem?, List.getElem?_toArray, Option.getD_some, and_true] at hO hD; go_simp; rfl)
  simp only [List.nil_append, List.cons_append]
  refine Free.Chain.exG ?_ [(20, 101)] [16] 20 true 101 (by kernel_rfl) (by kernel_rfl) rfl (by kernel_rfl) Free.Bel.refl ?_ ?_
  rotate_left
  · (intro ev W hb hR hO hD; have hS := hF W hR; obtain ⟨hb1, hb2, hb3⟩ := hb; simp only [Free.AllDeps, Free.AllOuts, Free.At, List.getElem?_cons_succ, List.getElem?_cons_zero, Array.getD_eq_getD_getElem?, List.getElem?_toArray, Option.getD_some, and_true] at hO hD; refine ⟨by simp [hD], ?_⟩; go_simp; rfl)
  simp only [List.nil_append, List.cons_append]
  refine Free.Chain.exG ?_ [(20, 101)] [18] 20 true 101 (by kernel_rfl) (by kernel_rfl) rfl (by kernel_rfl) Free.Bel.refl ?_ ?_
  rotate_left
  · (intro ev W hb hR hO hD; have hS := hF W hR; obtain ⟨hb1, hb2, hb3⟩ := hb; simp only [Free.AllDeps, Free.AllOuts, Free.At, List.getElem?_cons_succ, List.getElem?_cons_zero, Array.getD_eq_getD_getElem?, List.getElem?_toArray, Option.getD_some, and_true] at hO hD; refine ⟨by simp [hD], ?_⟩; go_simp; rfl)
  simp only [List.nil_append, List.cons_append]
  refine Free.Chain.exG ?_ [(21, 102), (22, 103), (20, 101)] [] 20 true 101 (by kernel_rfl) (by kernel_rfl) rfl (by kernel_rfl) Free.Bel.refl ?_ ?_
  rotate_left
  · (intro ev W hb hR hO hD; have hS := hF W hR; obtain ⟨hb1, hb2, hb3⟩ := hb; simp only [Free.AllDeps, Free.AllOuts, Free.At, List.getElem?_cons_succ, List.getElem?_cons_zero, Array.getD_eq_getD_getElem?, List.getElem?_toArray, Option.getD_some, and_true] at hO hD; refine ⟨by simp [hD], ?_⟩; go_simp; rfl)
  simp only [List.nil_append, List.cons_append]
  refine Free.Chain.ex ?_ [(20, 101), (23, 104)] [] (by kernel_rfl) (by kernel_rfl) rfl Free.Bel.refl ?_ ?_
  rotate_left
  · (intro ev W hb hR hO hD; have hS := hF W hR; obtain ⟨hb1, hb2, hb3⟩ := hb; simp only [Free.AllDeps, Free.AllOuts, Free.At, List.getElem?_cons_succ, List.getElem?_cons_zero, Array.getD_eq_getD_getElem?, List.getElem?_toArray, Option.getD_some, and_true] at hO hD; go_simp; rfl)
  simp only [List.nil_append, List.cons_append]
  refine Free.Chain.ex ?_ [(24, 105), (20, 101)] [] (by kernel_rfl) (by kernel_rfl) rfl Free.Bel.refl ?_ ?_
  rotate_left
  · (intro ev W hb hR hO hD; have hS := hF W hR; obtain ⟨hb1, hb2, hb3⟩ := hb; simp only [Free.AllDeps, Free.AllOuts, Free.At, List.getElem?_cons_succ, List.getElem?_cons_zero, Array.getD_eq_getD_getElem?, List.getElem?_toArray, Option.getD_some, and_true] at hO hD; go_simp; rfl)
  simp only [List.nil_append, List.cons_append]
  refine Free.Chain.exG ?_ [(25, 106)] [19] 25 true 106 (by kernel_rfl) (by kernel_rfl) rfl (by kernel_rfl) Free.Bel.refl ?_ ?_
  rotate_left
  · (intro ev W hb hR hO hD; have hS := hF W hR; obtain ⟨hb1, hb2, hb3⟩ := hb; simp only [Free.AllDeps, Free.AllOuts, Free.At, List.getElem?_cons_succ, List.getElem?_cons_zero, Array.getD_eq_getD_getElem?, List.getElem?_toArray, Option.getD_some, and_true] at hO hD; refine ⟨by simp [hD], ?_⟩; go_simp; rfl)
  simp only [List.nil_append, List.cons_append]
  refine Free.Chain.exG ?_ [(25, 106)] [21] 25 true 106 (by kernel_rfl) (by kernel_rfl) rfl (by kernel_rfl) Free.Bel.refl ?_ ?_
  rotate_left
  · (intro ev W hb hR hO hD; have hS := hF W hR; obtain ⟨hb1, hb2, hb3⟩ := hb; simp only [Free.AllDeps, Free.AllOuts, Free.At, List.getElem?_cons_succ, List.getElem?_cons_zero, Array.getD_eq_getD_getElem?, List.getElem?_toArray, Option.getD_some, and_true] at hO hD; refine ⟨by simp [hD], ?_⟩; go_simp; rfl)
  simp only [List.nil_append, List.cons_append]
  refine Free.Chain.exG ?_ [(26, 107), (27, 108), (25, 106)] [] 25 true 106 (by kernel_rfl) (by kernel_rfl) rfl (by kernel_rfl) Free.Bel.refl ?_ ?_
  rotate_left
  · (intro ev W hb hR hO hD; have hS := hF W hR; obtain ⟨hb1, hb2, hb3⟩ := hb; simp only [Free.AllDeps, Free.AllOuts, Free.At, List.getElem?_cons_succ, List.getElem?_cons_zero, Array.getD_eq_getD_getElem?, List.getElem?_toArray, Option.getD_some, and_true] at hO hD; refine ⟨by simp [hD], ?_⟩; go_simp; rfl)
  simp only [List.nil_append, List.cons_append]
  refine Free.Chain.ex ?_ [(25, 106), (28, 109)] [] (by kernel_rfl) (by kernel_rfl) rfl Free.Bel.refl ?_ ?_
  rotate_left
  · (intro ev W hb hR hO hD; have hS := hF W hR; obtain ⟨hb1, hb2, hb3⟩ := hb; simp only [Free.AllDeps, Free.AllOuts, Free.At, List.getElem?_cons_succ, List.getElem?_cons_zero, Array.getD_eq_getD_getElem?, List.getElem?_toArray, Option.getD_some, and_true] at hO hD; go_simp; rfl)
  simp only [List.nil_append, List.cons_append]
  refine Free.Chain.ex ?_ [(29, 110), (25, 106)] [] (by kernel_rfl) (by kernel_rfl) rfl Free.Bel.refl ?_ ?_
  rotate_left
  · (intro ev W hb hR hO hD; have hS := hF W hR; obtain ⟨hb1, hb2, hb3⟩ := hb; simp only [Free.AllDeps, Free.AllOuts, Free.At, List.getElem?_cons_succ, List.getElem?_cons_zero, Array.getD_eq_getD_getElem?, List.getElem?_toArray, Option.getD_some, and_true] at hO hD; go_simp; rfl)
  simp only [List.nil_append, List.cons_append]
  refine Free.Chain.exG ?_ [(30, 111)] [20] 30 true 111 (by kernel_rfl) (by kernel_rfl) rfl (by kernel_rfl) Free.Bel.refl ?_ ?_
  rotate_left
  · (intro ev W hb hR hO hD; have hS := hF W hR; obtain ⟨hb1, hb2, hb3⟩ := hb; simp only [Free.AllDeps, Free.AllOuts, Free.At, List.getElem?_cons_succ, List.getElem?_cons_zero, Array.getD_eq_getD_getElem?, List.getElem?_toArray, Option.getD_some, and_true] at hO hD; refine ⟨by simp [hD], ?_⟩; go_simp; rfl)
  simp only [List.nil_append, List.cons_append]
  refine Free.Chain.exG ?_ [(30, 111)] [22] 30 true 111 (by kernel_rfl) (by kernel_rfl) rfl (by kernel_rfl) Free.Bel.refl ?_ ?_
  rotate_left
  · (intro ev W hb hR hO hD; have hS := hF W hR; obtain ⟨hb1, hb2, hb3⟩ := hb; simp only [Free.AllDeps, Free.AllOuts, Free.At, List.getElem?_cons_succ, List.getElem?_cons_zero, Array.getD_eq_getD_getElem?, List.getElem?_toArray, Option.getD_some, and_true] at hO hD; refine ⟨by simp [hD], ?_⟩; go_simp; rfl)
  simp only [List.nil_append, List.cons_append]
  refine Free.Chain.exG ?_ [(31, 112), (32, 113), (30, 111)] [] 30 true 111 (by kernel_rfl) (by kernel_rfl) rfl (by kernel_rfl) Free.Bel.refl ?_ ?_
  rotate_left
  · (intro ev W hb hR hO hD; have hS := hF W hR; obtain ⟨hb1, hb2, hb3⟩ := hb; simp only [Free.AllDeps, Free.AllOuts, Free.At, List.getElem?_cons_succ, List.getElem?_cons_zero, Array.getD_eq_getD_getElem?, List.getElem?_toArray, Option.getD_some, and_true] at hO hD; refine ⟨by simp [hD], ?_⟩; go_simp; rfl)
  simp only [List.nil_append, List.cons_append]
  refine Free.Chain.ex ?_ [(30, 111), (33, 114)] [] (by kernel_rfl) (by kernel_rfl) rfl Free.Bel.refl ?_ ?_
  rotate_left
  · (intro ev W hb hR hO hD; have hS := hF W hR; obtain ⟨hb1, hb2, hb3⟩ := hb; simp only [Free.AllDeps, Free.AllOuts, Free.At, List.getElem?_cons_succ, List.getElem?_cons_zero, Array.getD_eq_getD_getElem?, List.getElem?_toArray, Option.getD_some, and_true] at hO hD; go_simp; rfl)
  simp only [List.nil_append, List.cons_append]
  refine Free.Chain.ex ?_ [(34, 115), (30, 111)] [] (by kernel_rfl) (by kernel_rfl) rfl Free.Bel.refl ?_ ?_
  rotate_left
  · (intro ev W hb hR hO hD; have hS := hF W hR; obtain ⟨hb1, hb2, hb3⟩ := hb; simp only [Free.AllDeps, Free.AllOuts, Free.At, List.getElem?_cons_succ, List.getElem?_cons_zero, Array.getD_eq_getD_getElem?, List.getElem?_toArray, Option.getD_some, and_true] at hO hD; go_simp; rfl)
  simp only [List.nil_append, List.cons_append]
  refine Free.Chain.exG ?_ [(35, 116)] [23] 35 true 116 (by kernel_rfl) (by kernel_rfl) rfl (by kernel_rfl) Free.Bel.refl ?_ ?_
  rotate_left
  · (intro ev W hb hR hO hD; have hS := hF W hR; obtain ⟨hb1, hb2, hb3⟩ := hb; simp only [Free.AllDeps, Free.AllOuts, Free.At, List.getElem?_cons_succ, List.getElem?_cons_zero, Array.getD_eq_getD_getElem?, List.getElem?_toArray, Option.getD_some, and_true] at hO hD; refine ⟨by simp [hD], ?_⟩; go_simp; rfl)
  simp only [List.nil_append, List.cons_append]
  refine Free.Chain.exG ?_ [(35, 116)] [25] 35 true 116 (by kernel_rfl) (by kernel_rfl) rfl (by kernel_rfl) Free.Bel.refl ?_ ?_
  rotate_left
  · (intro ev W hb hR hO hD; have hS := hF W hR; obtain ⟨hb1, hb2, hb3⟩ := hb; simp only [Free.AllDeps, Free.AllOuts, Free.At, List.getElem?_cons_succ, List.getElem?_cons_zero, Array.getD_eq_getD_getElem?, List.getElem?_toArray, Option.getD_some, and_true] at hO hD; refine ⟨by simp [hD], ?_⟩; go_simp; rfl)
  simp only [List.nil_append, List.cons_append]
  refine Free.Chain.exG ?_ [(36, 117), (37, 118), (35, 116)] [] 35 true 116 (by kernel_rfl) (by kernel_rfl) rfl (by kernel_rfl) Free.Bel.refl ?_ ?_
  rotate_left
  · (intro ev W hb hR hO hD; have hS := hF W hR; obtain ⟨hb1, hb2, hb3⟩ := hb; simp only [Free.AllDeps, Free.AllOuts, Free.At, List.getElem?_cons_succ, List.getElem?_cons_zero, Array.getD_eq_getD_getElem?, List.getElem?_toArray, Option.getD_some, and_true] at hO hD; refine ⟨by simp [hD], ?_⟩; go_simp; rfl)
  simp only [List.nil_append, List.cons_append]
  refine Free.Chain.ex ?_ [(35, 116), (38, 119)] [] (by kernel_rfl) (by kernel_rfl) rfl Free.Bel.refl ?_ ?_
  rotate_left
  · (intro ev W hb hR hO hD; have hS := hF W hR; obtain ⟨hb1, hb2, hb3⟩ := hb; simp only [Free.AllDeps, Free.AllOuts, Free.At, List.getElem?_cons_succ, List.getElem?_cons_zero, Array.getD_eq_getD_getElem?, List.getElem?_toArray, Option.getD_some, and_true] at hO hD; go_simp; rfl)
  simp only [List.nil_append, List.cons_append]
  refine Free.Chain.ex ?_ [(39, 120), (35, 116)] [] (by kernel_rfl) (by kernel_rfl) rfl Free.Bel.refl ?_ ?_
  rotate_left
  · (intro ev W hb hR hO hD; have hS := hF W hR; obtain ⟨hb1, hb2, hb3⟩ := hb; simp only [Free.AllDeps, Free.AllOuts, Free.At, List.getElem?_cons_succ, List.getElem?_cons_zero, Array.getD_eq_getD_getElem?, List.getElem?_toArray, Option.getD_some, and_true] at hO hD; go_simp; rfl)
  simp only [List.nil_append, List.cons_append]
  refine Free.Chain.exG ?_ [(40, 121)] [24] 40 true 121 (by kernel_rfl) (by kernel_rfl) rfl (by kernel_rfl) Free.Bel.refl ?_ ?_
  rotate_left
  · (intro ev W hb hR hO hD; have hS := hF W hR; obtain ⟨hb1, hb2, hb3⟩ := hb; simp only [Free.AllDeps, Free.AllOuts, Free.At, List.getElem?_cons_succ, List.getElem?_cons_zero, Array.getD_eq_getD_getElem?, List.getElem?_toArray, Option.getD_some, and_true] at hO hD; refine ⟨by simp [hD], ?_⟩; go_simp; rfl)
  simp only [List.nil_append, List.cons_append]
  refine Free.Chain.exG ?_ [(40, 121)] [26] 40 true 121 (by kernel_rfl) (by kernel_rfl) rfl (by kernel_rfl) Free.Bel.refl ?_ ?_
  rotate_left
  · (intro ev W hb hR hO hD; have hS := hF W hR; obtain ⟨hb1, hb2, hb3⟩ := hb; simp only [Free.AllDeps, Free.AllOuts, Free.At, List.getElem?_cons_succ, List.getElem?_cons_zero, Array.getD_eq_getD_getElem?, List.getElem?_toArray, Option.getD_some, and_true] at hO hD; refine ⟨by simp [hD], ?_⟩; go_simp; rfl)
  simp only [List.nil_append, List.cons_append]
  refine Free.Chain.exG ?_ [(41, 122), (42, 123), (40, 121)] [] 40 true 121 (by kernel_rfl) (by kernel_rfl) rfl (by kernel_rfl) Free.Bel.refl ?_ ?_
  rotate_left
  · (intro ev W hb hR hO hD; have hS := hF W hR; obtain ⟨hb1, hb2, hb3⟩ := hb; simp only [Free.AllDeps, Free.AllOuts, Free.At, List.getElem?_cons_succ, List.getElem?_cons_zero, Array.getD_eq_getD_getElem?, List.getElem?_toArray, Option.getD_some, and_true] at hO hD; refine ⟨by simp [hD], ?_⟩; go_simp; rfl)
  simp only [List.nil_append, List.cons_append]
  refine Free.Chain.ex ?_ [(40, 121), (43, 124)] [] (by kernel_rfl) (by kernel_rfl) rfl Free.Bel.refl ?_ ?_
  rotate_left
  · (intro ev W hb hR hO hD; have hS := hF W hR; obtain ⟨hb1, hb2, hb3⟩ := hb; simp only [Free.AllDeps, Free.AllOuts, Free.At, List.getElem?_cons_succ, List.getElem?_cons_zero, Array.getD_eq_getD_getElem?, List.getElem?_toArray, Option.getD_some, and_true] at hO hD; go_simp; rfl)
  simp only [List.nil_append, List.cons_append]
  refine Free.Chain.ex ?_ [(44, 125), (40, 121), (0, 81), (1, 82), (2, 83), (3, 84), (4, 85), (5, 86), (6, 87), (7, 88), (8, 89), (9, 90), (10, 91), (11, 92), (12, 93), (13, 94), (14, 95), (15, 96), (16, 97), (17, 98), (18, 99), (19, 100), (20, 101), (21, 102), (22, 103), (23, 104), (24, 105), (25, 106), (26, 107), (27, 108), (28, 109), (29, 110), (30, 111), (31, 112), (32, 113), (33, 114), (34, 115), (35, 116), (36, 117), (37, 118), (38, 119), (39, 120), (40, 121), (41, 122), (42, 123), (43, 124), (44, 125)] [] (by kernel_rfl) (by kernel_rfl) rfl Free.Bel.refl ?_ ?_
  rotate_left
  · (intro ev W hb hR hO hD; have hS := hF W hR; obtain ⟨hb1, hb2, hb3⟩ := hb; simp only [Free.AllDeps, Free.AllOuts, Free.At, List.getElem?_cons_succ, List.getElem?_cons_zero, Array.getD_eq_getD_getElem?, List.getElem?_toArray, Option.getD_some, and_true] at hO hD; go_simp; rfl)
  simp only [List.nil_append, List.cons_append]
  intro xs w' hR hV
  simp only [Free.AllV, Free.At, List.length_cons, List.length_nil, Nat.reduceAdd, List.getElem?_cons_succ, List.getElem?_cons_zero, true_and] at hV
  simp only [Free.putsFrom, Act.put, hV, List.setIfInBounds_toArray, List.set_cons_succ, List.set_cons_zero]
  go_wp2_with fail
  go_ret
  have hbb := HBB.out
  subst hbb
  exact ⟨rfl, Free.Bel.behind HB.out (Nat.le_of_lt hszF) hR⟩
end Go.Proofs.Ytfdbegohjlijoaa
