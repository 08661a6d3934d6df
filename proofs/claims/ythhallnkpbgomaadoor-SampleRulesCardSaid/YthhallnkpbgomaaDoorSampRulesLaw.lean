/- The law: rules and double rules are the specification's. -/
import Derived.Test.YthhallnkpbgomaaDoorSampCurveR
import Derived.Test.YthhallnkpbgomaaDoorSampTwiceR
import Derived.Test.YthhallnkpbgomaaDoorSampAccR
import Derived.Test.YthhallnkpbgomaaDoorSampGoodR
import Derived.Test.YthhallnkpbgomaaDoorSampLeastP
namespace Go.Proofs.YthhallnkpbgomaaDoor
set_option linter.unusedSimpArgs false
set_option linter.unusedVariables false
open Go.RowKit Go.Proofs.YthhallnkpbgomaaDoor.ML Go.Proofs.YthhallnkpbgomaaDoor.Samp

def curveQ (N lo hi o a : Int) : Int := if cargoB N lo hi = false then 10 else if drawB N o a = false then 13 else 0
def curveXs (N lo hi o a : Int) : List (Int × Int) := if cargoB N lo hi = false then [] else if drawB N o a = false then [] else curveL N lo o a (hi - lo + 1).toNat
theorem CurveIs.out {N lo hi o a : Int} {e : Ending} {w : World} (h : CurveIs N lo hi o a e w) : ∃ v, e = .returned (.tuple #[v, .int .i64 (curveQ N lo hi o a)]) ∧ PL (curveXs N lo hi o a) v w := by
  unfold CurveIs at h
  unfold curveQ curveXs
  split at h
  · exact ⟨_, by rw [h, if_pos ‹_›], by rw [if_pos ‹_›]; exact PL.nil w⟩
  · split at h
    · exact ⟨_, by rw [h, if_neg ‹_›, if_pos ‹_›], by rw [if_neg ‹_›, if_pos ‹_›]; exact PL.nil w⟩
    · obtain ⟨v, h1, h2⟩ := h
      exact ⟨v, by rw [h1, if_neg ‹_›, if_neg ‹_›], by rw [if_neg ‹_›, if_neg ‹_›]; exact h2⟩
theorem curve_out (N lo hi o a : Int) (w : World) :
    Calls Tryd.prog 17 #[.agg #[.int .i64 N, .int .i64 lo, .int .i64 hi], .agg #[.int .i64 o, .int .i64 a]] w fun e w' => (∃ v, e = .returned (.tuple #[v, .int .i64 (curveQ N lo hi o a)]) ∧ PL (curveXs N lo hi o a) v w') ∧ Below w.heap.size w w' :=
  (curve_any N lo hi o a w).mono fun e w' h => ⟨h.1.out, h.2⟩
theorem curveR_out (N lo hi o a : Int) (w : World) :
    Calls Tryd.prog 18 #[.agg #[.int .i64 N, .int .i64 lo, .int .i64 hi], .agg #[.int .i64 o, .int .i64 a]] w fun e w' => (∃ v, e = .returned (.tuple #[v, .int .i64 (curveQ N lo hi o a)]) ∧ PL (curveXs N lo hi o a) v w') ∧ Below w.heap.size w w' :=
  (curveR_any N lo hi o a w).mono fun e w' h => ⟨h.1.out, h.2⟩
/-- What the rule that opens the fewest bags is. -/
def LeastAll (N lo hi g b sn sd bn bd o a q : Int) : Prop :=
  if cargoB N lo hi = false then o = 0 ∧ a = 0 ∧ q = 10 else if riskedE lo hi g b sn sd bn bd ≠ 0 then o = 0 ∧ a = 0 ∧ q = riskedE lo hi g b sn sd bn bd else LeastIs (fun o a => fineB N g b o a sn sd bn bd) N o a q
theorem LeastAll.unique {N lo hi g b sn sd bn bd o a q o' a' q' : Int} (h : LeastAll N lo hi g b sn sd bn bd o a q) (k : LeastAll N lo hi g b sn sd bn bd o' a' q') : o = o' ∧ a = a' ∧ q = q' := by
  unfold LeastAll at h k
  split at h
  · rw [if_pos ‹_›] at k; omega
  · split at h
    · rw [if_neg ‹_›, if_pos ‹_›] at k; omega
    · rw [if_neg ‹_›, if_neg ‹_›] at k; exact h.unique k
theorem least_all (N lo hi g b sn sd bn bd : Int) (w : World) :
    Calls Tryd.prog 22 #[.agg #[.int .i64 N, .int .i64 lo, .int .i64 hi], .int .i64 g, .int .i64 b, .agg #[.int .i64 sn, .int .i64 sd], .agg #[.int .i64 bn, .int .i64 bd]] w fun e w' => (∃ o a q, e = .returned (.tuple #[.agg #[.int .i64 o, .int .i64 a], .int .i64 q]) ∧ LeastAll N lo hi g b sn sd bn bd o a q) ∧ Below w.heap.size w w' := by
  cases hc : cargoB N lo hi
  · exact (least_a N lo hi g b sn sd bn bd w hc).mono fun e w' ⟨h1, h2⟩ => ⟨⟨0, 0, 10, h1, by rw [LeastAll, if_pos hc]; exact ⟨rfl, rfl, rfl⟩⟩, h2⟩
  · by_cases hz : riskedE lo hi g b sn sd bn bd = 0
    · exact (least_c N lo hi g b sn sd bn bd w hc hz (fun o a => fineB N g b o a sn sd bn bd) (fun _ _ _ _ _ => rfl)).mono fun e w' ⟨⟨o, a, q, h1, h3⟩, h2⟩ => ⟨⟨o, a, q, h1, by rw [LeastAll, if_neg (by simp [hc]), if_neg (by simp [hz])]; exact h3⟩, h2⟩
    · exact (least_b N lo hi g b sn sd bn bd w hc _ rfl (by simpa using hz)).mono fun e w' ⟨h1, h2⟩ => ⟨⟨0, 0, _, h1, by rw [LeastAll, if_neg (by simp [hc]), if_pos hz]; exact ⟨rfl, rfl, rfl⟩⟩, h2⟩
theorem small_all (N lo hi g b sn sd bn bd : Int) (w : World) :
    Calls Tryd.prog 23 #[.agg #[.int .i64 N, .int .i64 lo, .int .i64 hi], .int .i64 g, .int .i64 b, .agg #[.int .i64 sn, .int .i64 sd], .agg #[.int .i64 bn, .int .i64 bd]] w fun e w' => (∃ o a q, e = .returned (.tuple #[.agg #[.int .i64 o, .int .i64 a], .int .i64 q]) ∧ LeastAll N lo hi g b sn sd bn bd o a q) ∧ Below w.heap.size w w' := by
  cases hc : cargoB N lo hi
  · exact (smallR_a N lo hi g b sn sd bn bd w hc).mono fun e w' ⟨h1, h2⟩ => ⟨⟨0, 0, 10, h1, by rw [LeastAll, if_pos hc]; exact ⟨rfl, rfl, rfl⟩⟩, h2⟩
  · by_cases hz : riskedE lo hi g b sn sd bn bd = 0
    · exact (smallR_c N lo hi g b sn sd bn bd w hc hz (fun o a => fineB N g b o a sn sd bn bd) (fun _ _ _ _ _ => rfl)).mono fun e w' ⟨⟨o, a, q, h1, h3⟩, h2⟩ => ⟨⟨o, a, q, h1, by rw [LeastAll, if_neg (by simp [hc]), if_neg (by simp [hz])]; exact h3⟩, h2⟩
    · exact (smallR_b N lo hi g b sn sd bn bd w hc _ rfl (by simpa using hz)).mono fun e w' ⟨h1, h2⟩ => ⟨⟨0, 0, _, h1, by rw [LeastAll, if_neg (by simp [hc]), if_pos hz]; exact ⟨rfl, rfl, rfl⟩⟩, h2⟩
theorem shape_acc (N lo hi D o f : Int) : ∃ p q e : Int, (if cargoB N lo hi = false then #[zeroPart, .int .i64 10] else if ruledE N lo hi D o f ≠ 0 then #[zeroPart, .int .i64 (ruledE N lo hi D o f)] else #[mostV N D o f, .int .i64 0]) = #[Value.agg #[.int .i64 p, .int .i64 q], .int .i64 e] := by
  split
  · exact ⟨_, _, _, rfl⟩
  · split
    · exact ⟨_, _, _, rfl⟩
    · exact ⟨_, _, _, rfl⟩
theorem shape_good (N lo hi g b o a sn sd bn bd : Int) : ∃ (q : Bool) (e : Int), (if cargoB N lo hi = false then #[.bool false, .int .i64 10] else if goodE N lo hi g b o a sn sd bn bd ≠ 0 then #[.bool false, .int .i64 (goodE N lo hi g b o a sn sd bn bd)] else #[.bool (fineB N g b o a sn sd bn bd), .int .i64 0]) = #[Value.bool q, .int .i64 e] := by
  split
  · exact ⟨_, _, rfl⟩
  · split
    · exact ⟨_, _, rfl⟩
    · exact ⟨_, _, rfl⟩
theorem shape_twice (N lo hi D F A R S T : Int) : ∃ p1 q1 p2 q2 e : Int, twiceAll N lo hi D F A R S T = .tuple #[.agg #[.int .i64 p1, .int .i64 q1], .agg #[.int .i64 p2, .int .i64 q2], .int .i64 e] := by
  unfold twiceAll twiceR
  split
  · exact ⟨_, _, _, _, _, rfl⟩
  · split
    · exact ⟨_, _, _, _, _, rfl⟩
    · split
      · exact ⟨_, _, _, _, _, rfl⟩
      · exact ⟨_, _, _, _, _, rfl⟩

set_option maxRecDepth 100000 in
set_option maxHeartbeats 8000000 in
theorem rules_walk (N lo hi o a F A R S T g b sn sd bn bd : Int) (w : World) (hT : TabD w) :
    Calls Tryd.prog 3 #[.agg #[.int .i64 N, .int .i64 lo, .int .i64 hi], .agg #[.int .i64 o, .int .i64 a], .agg #[.int .i64 F, .int .i64 A, .int .i64 R, .int .i64 S, .int .i64 T], .int .i64 g, .int .i64 b, .agg #[.int .i64 sn, .int .i64 sd], .agg #[.int .i64 bn, .int .i64 bd]] w fun e w' => e = .returned (.bool true) ∧ Below w.heap.size w w' := by
  obtain ⟨p1, q1, e1, hx1⟩ := shape_acc N lo hi g o a
  obtain ⟨q2, e2, hx2⟩ := shape_good N lo hi g b o a sn sd bn bd
  obtain ⟨p3, q3, p4, q4, e3, hx3⟩ := shape_twice N lo hi g F A R S T
  have k1 : Hid (∀ W, Calls Tryd.prog 15 #[.agg #[.int .i64 N, .int .i64 lo, .int .i64 hi], .agg #[.int .i64 o, .int .i64 a], .int .i64 g] W fun e w' => e = .returned (.tuple #[.agg #[.int .i64 p1, .int .i64 q1], .int .i64 e1]) ∧ Below W.heap.size W w') := fun W => by
    have := accept_any N lo hi g o a W
    rw [hx1] at this
    exact this
  have k2 : Hid (∀ W, Calls Tryd.prog 16 #[.agg #[.int .i64 N, .int .i64 lo, .int .i64 hi], .agg #[.int .i64 o, .int .i64 a], .int .i64 g] W fun e w' => e = .returned (.tuple #[.agg #[.int .i64 p1, .int .i64 q1], .int .i64 e1]) ∧ Below W.heap.size W w') := fun W => by
    have := acceptR_any N lo hi g o a W
    rw [hx1] at this
    exact this
  have k5 : Hid (∀ W, Calls Tryd.prog 20 #[.agg #[.int .i64 N, .int .i64 lo, .int .i64 hi], .agg #[.int .i64 o, .int .i64 a], .int .i64 g, .int .i64 b, .agg #[.int .i64 sn, .int .i64 sd], .agg #[.int .i64 bn, .int .i64 bd]] W fun e w' => e = .returned (.tuple #[.bool q2, .int .i64 e2]) ∧ Below W.heap.size W w') := fun W => by
    have := good_any N lo hi g b o a sn sd bn bd W
    rw [hx2] at this
    exact this
  have k6 : Hid (∀ W, Calls Tryd.prog 21 #[.agg #[.int .i64 N, .int .i64 lo, .int .i64 hi], .agg #[.int .i64 o, .int .i64 a], .int .i64 g, .int .i64 b, .agg #[.int .i64 sn, .int .i64 sd], .agg #[.int .i64 bn, .int .i64 bd]] W fun e w' => e = .returned (.tuple #[.bool q2, .int .i64 e2]) ∧ Below W.heap.size W w') := fun W => by
    have := goodR_any N lo hi g b o a sn sd bn bd W
    rw [hx2] at this
    exact this
  have k9 : Hid (∀ W, TabD W → Calls Tryd.prog 24 #[.agg #[.int .i64 N, .int .i64 lo, .int .i64 hi], .agg #[.int .i64 F, .int .i64 A, .int .i64 R, .int .i64 S, .int .i64 T], .int .i64 g] W fun e w' => e = .returned (.tuple #[.agg #[.int .i64 p3, .int .i64 q3], .agg #[.int .i64 p4, .int .i64 q4], .int .i64 e3]) ∧ Below W.heap.size W w') := fun W hT => by
    have := twice_any N lo hi F A R S T g W hT
    rw [hx3] at this
    exact this
  have k10 : Hid (∀ W, Calls Tryd.prog 25 #[.agg #[.int .i64 N, .int .i64 lo, .int .i64 hi], .agg #[.int .i64 F, .int .i64 A, .int .i64 R, .int .i64 S, .int .i64 T], .int .i64 g] W fun e w' => e = .returned (.tuple #[.agg #[.int .i64 p3, .int .i64 q3], .agg #[.int .i64 p4, .int .i64 q4], .int .i64 e3]) ∧ Below W.heap.size W w') := fun W => by
    have := twiceR_any N lo hi F A R S T g W
    rw [hx3] at this
    exact this
  clear hx1 hx2 hx3
  obtain ⟨qc, hqc⟩ : ∃ q, curveQ N lo hi o a = q := ⟨_, rfl⟩
  obtain ⟨xc, hxc⟩ : ∃ x, curveXs N lo hi o a = x := ⟨_, rfl⟩
  have k3 : Hid (∀ W, Calls Tryd.prog 17 #[.agg #[.int .i64 N, .int .i64 lo, .int .i64 hi], .agg #[.int .i64 o, .int .i64 a]] W fun e w' => (∃ v, e = .returned (.tuple #[v, .int .i64 qc]) ∧ PL xc v w') ∧ Below W.heap.size W w') := fun W => by
    have := curve_out N lo hi o a W
    rw [hqc, hxc] at this
    exact this
  have k4 : Hid (∀ W, Calls Tryd.prog 18 #[.agg #[.int .i64 N, .int .i64 lo, .int .i64 hi], .agg #[.int .i64 o, .int .i64 a]] W fun e w' => (∃ v, e = .returned (.tuple #[v, .int .i64 qc]) ∧ PL xc v w') ∧ Below W.heap.size W w') := fun W => by
    have := curveR_out N lo hi o a W
    rw [hqc, hxc] at this
    exact this
  clear hqc hxc
  have hB0 : Below w.heap.size w (((((w.alloc (.cells #[.int .i64 N, .int .i64 lo, .int .i64 hi] 25)).alloc (.cells #[.int .i64 o, .int .i64 a] 27)).alloc (.cells #[.int .i64 F, .int .i64 A, .int .i64 R, .int .i64 S, .int .i64 T] 29)).alloc (.cells #[.int .i64 sn, .int .i64 sd] 31)).alloc (.cells #[.int .i64 bn, .int .i64 bd] 31)) := (((((Below.refl _ w).alloc (Nat.le_refl _) _).alloc (by simp) _).alloc (by simp; omega) _).alloc (by simp; omega) _).alloc (by simp; omega) _
  have c0_0 : (((((w.alloc (.cells #[.int .i64 N, .int .i64 lo, .int .i64 hi] 25)).alloc (.cells #[.int .i64 o, .int .i64 a] 27)).alloc (.cells #[.int .i64 F, .int .i64 A, .int .i64 R, .int .i64 S, .int .i64 T] 29)).alloc (.cells #[.int .i64 sn, .int .i64 sd] 31)).alloc (.cells #[.int .i64 bn, .int .i64 bd] 31)).cell? ⟨w.heap.size, 0, none⟩ = some (.int .i64 N) := by simp [go_sem]
  have c0_1 : (((((w.alloc (.cells #[.int .i64 N, .int .i64 lo, .int .i64 hi] 25)).alloc (.cells #[.int .i64 o, .int .i64 a] 27)).alloc (.cells #[.int .i64 F, .int .i64 A, .int .i64 R, .int .i64 S, .int .i64 T] 29)).alloc (.cells #[.int .i64 sn, .int .i64 sd] 31)).alloc (.cells #[.int .i64 bn, .int .i64 bd] 31)).cell? ⟨w.heap.size, 1, none⟩ = some (.int .i64 lo) := by simp [go_sem]
  have c0_2 : (((((w.alloc (.cells #[.int .i64 N, .int .i64 lo, .int .i64 hi] 25)).alloc (.cells #[.int .i64 o, .int .i64 a] 27)).alloc (.cells #[.int .i64 F, .int .i64 A, .int .i64 R, .int .i64 S, .int .i64 T] 29)).alloc (.cells #[.int .i64 sn, .int .i64 sd] 31)).alloc (.cells #[.int .i64 bn, .int .i64 bd] 31)).cell? ⟨w.heap.size, 2, none⟩ = some (.int .i64 hi) := by simp [go_sem]
  have c1_0 : (((((w.alloc (.cells #[.int .i64 N, .int .i64 lo, .int .i64 hi] 25)).alloc (.cells #[.int .i64 o, .int .i64 a] 27)).alloc (.cells #[.int .i64 F, .int .i64 A, .int .i64 R, .int .i64 S, .int .i64 T] 29)).alloc (.cells #[.int .i64 sn, .int .i64 sd] 31)).alloc (.cells #[.int .i64 bn, .int .i64 bd] 31)).cell? ⟨w.heap.size + 1, 0, none⟩ = some (.int .i64 o) := by simp [go_sem]
  have c1_1 : (((((w.alloc (.cells #[.int .i64 N, .int .i64 lo, .int .i64 hi] 25)).alloc (.cells #[.int .i64 o, .int .i64 a] 27)).alloc (.cells #[.int .i64 F, .int .i64 A, .int .i64 R, .int .i64 S, .int .i64 T] 29)).alloc (.cells #[.int .i64 sn, .int .i64 sd] 31)).alloc (.cells #[.int .i64 bn, .int .i64 bd] 31)).cell? ⟨w.heap.size + 1, 1, none⟩ = some (.int .i64 a) := by simp [go_sem]
  have c2_0 : (((((w.alloc (.cells #[.int .i64 N, .int .i64 lo, .int .i64 hi] 25)).alloc (.cells #[.int .i64 o, .int .i64 a] 27)).alloc (.cells #[.int .i64 F, .int .i64 A, .int .i64 R, .int .i64 S, .int .i64 T] 29)).alloc (.cells #[.int .i64 sn, .int .i64 sd] 31)).alloc (.cells #[.int .i64 bn, .int .i64 bd] 31)).cell? ⟨w.heap.size + 1 + 1, 0, none⟩ = some (.int .i64 F) := by simp [go_sem]
  have c2_1 : (((((w.alloc (.cells #[.int .i64 N, .int .i64 lo, .int .i64 hi] 25)).alloc (.cells #[.int .i64 o, .int .i64 a] 27)).alloc (.cells #[.int .i64 F, .int .i64 A, .int .i64 R, .int .i64 S, .int .i64 T] 29)).alloc (.cells #[.int .i64 sn, .int .i64 sd] 31)).alloc (.cells #[.int .i64 bn, .int .i64 bd] 31)).cell? ⟨w.heap.size + 1 + 1, 1, none⟩ = some (.int .i64 A) := by simp [go_sem]
  have c2_2 : (((((w.alloc (.cells #[.int .i64 N, .int .i64 lo, .int .i64 hi] 25)).alloc (.cells #[.int .i64 o, .int .i64 a] 27)).alloc (.cells #[.int .i64 F, .int .i64 A, .int .i64 R, .int .i64 S, .int .i64 T] 29)).alloc (.cells #[.int .i64 sn, .int .i64 sd] 31)).alloc (.cells #[.int .i64 bn, .int .i64 bd] 31)).cell? ⟨w.heap.size + 1 + 1, 2, none⟩ = some (.int .i64 R) := by simp [go_sem]
  have c2_3 : (((((w.alloc (.cells #[.int .i64 N, .int .i64 lo, .int .i64 hi] 25)).alloc (.cells #[.int .i64 o, .int .i64 a] 27)).alloc (.cells #[.int .i64 F, .int .i64 A, .int .i64 R, .int .i64 S, .int .i64 T] 29)).alloc (.cells #[.int .i64 sn, .int .i64 sd] 31)).alloc (.cells #[.int .i64 bn, .int .i64 bd] 31)).cell? ⟨w.heap.size + 1 + 1, 3, none⟩ = some (.int .i64 S) := by simp [go_sem]
  have c2_4 : (((((w.alloc (.cells #[.int .i64 N, .int .i64 lo, .int .i64 hi] 25)).alloc (.cells #[.int .i64 o, .int .i64 a] 27)).alloc (.cells #[.int .i64 F, .int .i64 A, .int .i64 R, .int .i64 S, .int .i64 T] 29)).alloc (.cells #[.int .i64 sn, .int .i64 sd] 31)).alloc (.cells #[.int .i64 bn, .int .i64 bd] 31)).cell? ⟨w.heap.size + 1 + 1, 4, none⟩ = some (.int .i64 T) := by simp [go_sem]
  have c3_0 : (((((w.alloc (.cells #[.int .i64 N, .int .i64 lo, .int .i64 hi] 25)).alloc (.cells #[.int .i64 o, .int .i64 a] 27)).alloc (.cells #[.int .i64 F, .int .i64 A, .int .i64 R, .int .i64 S, .int .i64 T] 29)).alloc (.cells #[.int .i64 sn, .int .i64 sd] 31)).alloc (.cells #[.int .i64 bn, .int .i64 bd] 31)).cell? ⟨w.heap.size + 1 + 1 + 1, 0, none⟩ = some (.int .i64 sn) := by simp [go_sem]
  have c3_1 : (((((w.alloc (.cells #[.int .i64 N, .int .i64 lo, .int .i64 hi] 25)).alloc (.cells #[.int .i64 o, .int .i64 a] 27)).alloc (.cells #[.int .i64 F, .int .i64 A, .int .i64 R, .int .i64 S, .int .i64 T] 29)).alloc (.cells #[.int .i64 sn, .int .i64 sd] 31)).alloc (.cells #[.int .i64 bn, .int .i64 bd] 31)).cell? ⟨w.heap.size + 1 + 1 + 1, 1, none⟩ = some (.int .i64 sd) := by simp [go_sem]
  have c4_0 : (((((w.alloc (.cells #[.int .i64 N, .int .i64 lo, .int .i64 hi] 25)).alloc (.cells #[.int .i64 o, .int .i64 a] 27)).alloc (.cells #[.int .i64 F, .int .i64 A, .int .i64 R, .int .i64 S, .int .i64 T] 29)).alloc (.cells #[.int .i64 sn, .int .i64 sd] 31)).alloc (.cells #[.int .i64 bn, .int .i64 bd] 31)).cell? ⟨w.heap.size + 1 + 1 + 1 + 1, 0, none⟩ = some (.int .i64 bn) := by simp [go_sem]
  have c4_1 : (((((w.alloc (.cells #[.int .i64 N, .int .i64 lo, .int .i64 hi] 25)).alloc (.cells #[.int .i64 o, .int .i64 a] 27)).alloc (.cells #[.int .i64 F, .int .i64 A, .int .i64 R, .int .i64 S, .int .i64 T] 29)).alloc (.cells #[.int .i64 sn, .int .i64 sd] 31)).alloc (.cells #[.int .i64 bn, .int .i64 bd] 31)).cell? ⟨w.heap.size + 1 + 1 + 1 + 1, 1, none⟩ = some (.int .i64 bd) := by simp [go_sem]
  have t0 := keepsB hB0 hT.1
  have t1 := keepsB hB0 hT.2.1
  have t2 := keepsB hB0 hT.2.2
  clear hT
  go_enter Tryd.func3, Tryd.ntmps3
  go_wp2_with fail
  refine (k1.out _).mono ?_
  rintro e w1 ⟨rfl, hB⟩
  have K_w1 : Free.Bel (((((w.alloc (.cells #[.int .i64 N, .int .i64 lo, .int .i64 hi] 25)).alloc (.cells #[.int .i64 o, .int .i64 a] 27)).alloc (.cells #[.int .i64 F, .int .i64 A, .int .i64 R, .int .i64 S, .int .i64 T] 29)).alloc (.cells #[.int .i64 sn, .int .i64 sd] 31)).alloc (.cells #[.int .i64 bn, .int .i64 bd] 31)) w1 := by
    refine Free.Bel.trans _ _ _ ?_ hB
    repeat (first | exact Free.Bel.refl _ | refine Bel.allocT ?_ _ | refine Bel.drewT ?_)
  have hq : w.heap.size + 5 = (((((w.alloc (.cells #[.int .i64 N, .int .i64 lo, .int .i64 hi] 25)).alloc (.cells #[.int .i64 o, .int .i64 a] 27)).alloc (.cells #[.int .i64 F, .int .i64 A, .int .i64 R, .int .i64 S, .int .i64 T] 29)).alloc (.cells #[.int .i64 sn, .int .i64 sd] 31)).alloc (.cells #[.int .i64 bn, .int .i64 bd] 31)).heap.size := by simp
  generalize (((((w.alloc (.cells #[.int .i64 N, .int .i64 lo, .int .i64 hi] 25)).alloc (.cells #[.int .i64 o, .int .i64 a] 27)).alloc (.cells #[.int .i64 F, .int .i64 A, .int .i64 R, .int .i64 S, .int .i64 T] 29)).alloc (.cells #[.int .i64 sn, .int .i64 sd] 31)).alloc (.cells #[.int .i64 bn, .int .i64 bd] 31)) = W0 at *
  generalize hbb : w.heap.size = bb at *
  have HBB := Lib.hid hbb
  clear hbb
  have HB0 := Lib.hid hB0
  have hq0 : bb + 5 ≤ W0.heap.size := by omega
  clear hB0 hq
  have FA : ∀ W, Free.Bel W0 W → W.cell? ⟨bb, 0, none⟩ = some (.int .i64 N) ∧ W.cell? ⟨bb, 1, none⟩ = some (.int .i64 lo) ∧ W.cell? ⟨bb, 2, none⟩ = some (.int .i64 hi) ∧ W.cell? ⟨bb + 1, 0, none⟩ = some (.int .i64 o) ∧ W.cell? ⟨bb + 1, 1, none⟩ = some (.int .i64 a) ∧ W.cell? ⟨bb + 1 + 1, 0, none⟩ = some (.int .i64 F) ∧ W.cell? ⟨bb + 1 + 1, 1, none⟩ = some (.int .i64 A) ∧ W.cell? ⟨bb + 1 + 1, 2, none⟩ = some (.int .i64 R) ∧ W.cell? ⟨bb + 1 + 1, 3, none⟩ = some (.int .i64 S) ∧ W.cell? ⟨bb + 1 + 1, 4, none⟩ = some (.int .i64 T) ∧ W.cell? ⟨bb + 1 + 1 + 1, 0, none⟩ = some (.int .i64 sn) ∧ W.cell? ⟨bb + 1 + 1 + 1, 1, none⟩ = some (.int .i64 sd) ∧ W.cell? ⟨bb + 1 + 1 + 1 + 1, 0, none⟩ = some (.int .i64 bn) ∧ W.cell? ⟨bb + 1 + 1 + 1 + 1, 1, none⟩ = some (.int .i64 bd) ∧ W.cell? ⟨0, 0, none⟩ = some (dblF 146) ∧ W.cell? ⟨0, 1, none⟩ = some (dblF 147) ∧ W.cell? ⟨0, 2, none⟩ = some (dblF 148) ∧ bb + 5 ≤ W.heap.size := fun W hW => ⟨keepsB hW c0_0, keepsB hW c0_1, keepsB hW c0_2, keepsB hW c1_0, keepsB hW c1_1, keepsB hW c2_0, keepsB hW c2_1, keepsB hW c2_2, keepsB hW c2_3, keepsB hW c2_4, keepsB hW c3_0, keepsB hW c3_1, keepsB hW c4_0, keepsB hW c4_1, keepsB hW t0, keepsB hW t1, keepsB hW t2, Nat.le_trans hq0 hW.size⟩
  clear c0_0 c0_1 c0_2 c1_0 c1_1 c2_0 c2_1 c2_2 c2_3 c2_4 c3_0 c3_1 c4_0 c4_1 t0 t1 t2
  clear hB
  have KA_w1_0 : Free.Bel W0 (w1.alloc (.cells #[.int .i64 p1, .int .i64 q1] 31)) := Bel.allocT K_w1 _
  go_wp2_with fail
  refine (k2.out _).mono ?_
  rintro e w2 ⟨rfl, hB⟩
  have J_w2 : Free.Bel w1 w2 := by
    refine Free.Bel.trans _ _ _ ?_ hB
    repeat (first | exact Free.Bel.refl _ | refine Bel.allocT ?_ _ | refine Bel.drewT ?_)
  have r1_0_0 : w2.cell? ⟨w1.heap.size, 0, none⟩ = some (.int .i64 p1) := keepsB hB (by simp [go_sem])
  have r1_0_1 : w2.cell? ⟨w1.heap.size, 1, none⟩ = some (.int .i64 q1) := keepsB hB (by simp [go_sem])
  have K_w2 : Free.Bel W0 w2 := Free.Bel.trans _ _ _ K_w1 J_w2
  generalize w1.heap.size = g1 at *
  clear J_w2 K_w1 hB KA_w1_0
  have KA_w2_0 : Free.Bel W0 (w2.alloc (.cells #[.int .i64 p1, .int .i64 q1] 31)) := Bel.allocT K_w2 _
  go_wp2_with fail
  refine (k3.out _).mono ?_
  rintro e w3 ⟨⟨vl, rfl, hPL⟩, hB⟩
  have J_w3 : Free.Bel w2 w3 := by
    refine Free.Bel.trans _ _ _ ?_ hB
    repeat (first | exact Free.Bel.refl _ | refine Bel.allocT ?_ _ | refine Bel.drewT ?_)
  have r1_0_0 := keepsB J_w3 r1_0_0
  have r1_0_1 := keepsB J_w3 r1_0_1
  have r2_0_0 : w3.cell? ⟨w2.heap.size, 0, none⟩ = some (.int .i64 p1) := keepsB hB (by simp [go_sem])
  have r2_0_1 : w3.cell? ⟨w2.heap.size, 1, none⟩ = some (.int .i64 q1) := keepsB hB (by simp [go_sem])
  have K_w3 : Free.Bel W0 w3 := Free.Bel.trans _ _ _ K_w2 J_w3
  generalize w2.heap.size = g2 at *
  clear J_w3 K_w2 hB KA_w2_0
  have HPL := Lib.hid hPL
  clear hPL
  go_wp2_with fail
  refine (k4.out _).mono ?_
  rintro e w4 ⟨⟨vm, rfl, hPM⟩, hB⟩
  have J_w4 : Free.Bel w3 w4 := by
    refine Free.Bel.trans _ _ _ ?_ hB
    repeat (first | exact Free.Bel.refl _ | refine Bel.allocT ?_ _ | refine Bel.drewT ?_)
  have r1_0_0 := keepsB J_w4 r1_0_0
  have r1_0_1 := keepsB J_w4 r1_0_1
  have r2_0_0 := keepsB J_w4 r2_0_0
  have r2_0_1 := keepsB J_w4 r2_0_1
  have K_w4 : Free.Bel W0 w4 := Free.Bel.trans _ _ _ K_w3 J_w4
  have HPL := Lib.hid (HPL.out.keeps J_w4)
  generalize w3.heap.size = g3 at *
  clear J_w4 K_w3 hB
  have HPM := Lib.hid hPM
  clear hPM
  go_wp2_with fail
  refine (same_any xc vl vm _ HPL.out HPM.out).mono ?_
  rintro e w5 ⟨rfl, hB⟩
  have J_w5 : Free.Bel w4 w5 := by
    refine Free.Bel.trans _ _ _ ?_ hB
    repeat (first | exact Free.Bel.refl _ | refine Bel.allocT ?_ _ | refine Bel.drewT ?_)
  have r1_0_0 := keepsB J_w5 r1_0_0
  have r1_0_1 := keepsB J_w5 r1_0_1
  have r2_0_0 := keepsB J_w5 r2_0_0
  have r2_0_1 := keepsB J_w5 r2_0_1
  have K_w5 : Free.Bel W0 w5 := Free.Bel.trans _ _ _ K_w4 J_w5
  generalize w4.heap.size = g4 at *
  clear J_w5 K_w4 hB
  clear HPL HPM
  go_wp2_with fail
  refine (k5.out _).mono ?_
  rintro e w6 ⟨rfl, hB⟩
  have J_w6 : Free.Bel w5 w6 := by
    refine Free.Bel.trans _ _ _ ?_ hB
    repeat (first | exact Free.Bel.refl _ | refine Bel.allocT ?_ _ | refine Bel.drewT ?_)
  have r1_0_0 := keepsB J_w6 r1_0_0
  have r1_0_1 := keepsB J_w6 r1_0_1
  have r2_0_0 := keepsB J_w6 r2_0_0
  have r2_0_1 := keepsB J_w6 r2_0_1
  have K_w6 : Free.Bel W0 w6 := Free.Bel.trans _ _ _ K_w5 J_w6
  generalize w5.heap.size = g5 at *
  clear J_w6 K_w5 hB
  go_wp2_with fail
  refine (k6.out _).mono ?_
  rintro e w7 ⟨rfl, hB⟩
  have J_w7 : Free.Bel w6 w7 := by
    refine Free.Bel.trans _ _ _ ?_ hB
    repeat (first | exact Free.Bel.refl _ | refine Bel.allocT ?_ _ | refine Bel.drewT ?_)
  have r1_0_0 := keepsB J_w7 r1_0_0
  have r1_0_1 := keepsB J_w7 r1_0_1
  have r2_0_0 := keepsB J_w7 r2_0_0
  have r2_0_1 := keepsB J_w7 r2_0_1
  have K_w7 : Free.Bel W0 w7 := Free.Bel.trans _ _ _ K_w6 J_w7
  generalize w6.heap.size = g6 at *
  clear J_w7 K_w6 hB
  go_wp2_with fail
  refine (least_all N lo hi g b sn sd bn bd _).mono ?_
  rintro e w8 ⟨⟨lo1, la1, lq1, rfl, hL1⟩, hB⟩
  have J_w8 : Free.Bel w7 w8 := by
    refine Free.Bel.trans _ _ _ ?_ hB
    repeat (first | exact Free.Bel.refl _ | refine Bel.allocT ?_ _ | refine Bel.drewT ?_)
  have r1_0_0 := keepsB J_w8 r1_0_0
  have r1_0_1 := keepsB J_w8 r1_0_1
  have r2_0_0 := keepsB J_w8 r2_0_0
  have r2_0_1 := keepsB J_w8 r2_0_1
  have K_w8 : Free.Bel W0 w8 := Free.Bel.trans _ _ _ K_w7 J_w8
  generalize w7.heap.size = g7 at *
  clear J_w8 K_w7 hB
  have KA_w8_0 : Free.Bel W0 (w8.alloc (.cells #[.int .i64 lo1, .int .i64 la1] 27)) := Bel.allocT K_w8 _
  have HL1 := Lib.hid hL1
  clear hL1
  go_wp2_with fail
  refine (small_all N lo hi g b sn sd bn bd _).mono ?_
  rintro e w9 ⟨⟨lo2, la2, lq2, rfl, hL2⟩, hB⟩
  have J_w9 : Free.Bel w8 w9 := by
    refine Free.Bel.trans _ _ _ ?_ hB
    repeat (first | exact Free.Bel.refl _ | refine Bel.allocT ?_ _ | refine Bel.drewT ?_)
  have r1_0_0 := keepsB J_w9 r1_0_0
  have r1_0_1 := keepsB J_w9 r1_0_1
  have r2_0_0 := keepsB J_w9 r2_0_0
  have r2_0_1 := keepsB J_w9 r2_0_1
  have r8_0_0 : w9.cell? ⟨w8.heap.size, 0, none⟩ = some (.int .i64 lo1) := keepsB hB (by simp [go_sem])
  have r8_0_1 : w9.cell? ⟨w8.heap.size, 1, none⟩ = some (.int .i64 la1) := keepsB hB (by simp [go_sem])
  have K_w9 : Free.Bel W0 w9 := Free.Bel.trans _ _ _ K_w8 J_w9
  generalize w8.heap.size = g8 at *
  clear J_w9 K_w8 hB KA_w8_0
  have KA_w9_0 : Free.Bel W0 (w9.alloc (.cells #[.int .i64 lo1, .int .i64 la1] 27)) := Bel.allocT K_w9 _
  obtain ⟨hu1, hu2, hu3⟩ := HL1.out.unique hL2
  subst hu1
  subst hu2
  subst hu3
  clear hL2 HL1
  go_wp2_with fail
  refine (k9.out _ (show TabD (w9.alloc (.cells #[.int .i64 lo1, .int .i64 la1] 27)) by have h := FA _ KA_w9_0; exact ⟨by simp [h], by simp [h], by simp [h]⟩)).mono ?_
  rintro e w10 ⟨rfl, hB⟩
  have J_w10 : Free.Bel w9 w10 := by
    refine Free.Bel.trans _ _ _ ?_ hB
    repeat (first | exact Free.Bel.refl _ | refine Bel.allocT ?_ _ | refine Bel.drewT ?_)
  have r1_0_0 := keepsB J_w10 r1_0_0
  have r1_0_1 := keepsB J_w10 r1_0_1
  have r2_0_0 := keepsB J_w10 r2_0_0
  have r2_0_1 := keepsB J_w10 r2_0_1
  have r8_0_0 := keepsB J_w10 r8_0_0
  have r8_0_1 := keepsB J_w10 r8_0_1
  have r9_0_0 : w10.cell? ⟨w9.heap.size, 0, none⟩ = some (.int .i64 lo1) := keepsB hB (by simp [go_sem])
  have r9_0_1 : w10.cell? ⟨w9.heap.size, 1, none⟩ = some (.int .i64 la1) := keepsB hB (by simp [go_sem])
  have K_w10 : Free.Bel W0 w10 := Free.Bel.trans _ _ _ K_w9 J_w10
  generalize w9.heap.size = g9 at *
  clear J_w10 K_w9 hB KA_w9_0
  have KA_w10_0 : Free.Bel W0 (w10.alloc (.cells #[.int .i64 p3, .int .i64 q3] 31)) := Bel.allocT K_w10 _
  have KA_w10_1 : Free.Bel W0 ((w10.alloc (.cells #[.int .i64 p3, .int .i64 q3] 31)).alloc (.cells #[.int .i64 p4, .int .i64 q4] 31)) := Bel.allocT KA_w10_0 _
  go_wp2_with fail
  refine (k10.out _).mono ?_
  rintro e w11 ⟨rfl, hB⟩
  have J_w11 : Free.Bel w10 w11 := by
    refine Free.Bel.trans _ _ _ ?_ hB
    repeat (first | exact Free.Bel.refl _ | refine Bel.allocT ?_ _ | refine Bel.drewT ?_)
  have r1_0_0 := keepsB J_w11 r1_0_0
  have r1_0_1 := keepsB J_w11 r1_0_1
  have r2_0_0 := keepsB J_w11 r2_0_0
  have r2_0_1 := keepsB J_w11 r2_0_1
  have r8_0_0 := keepsB J_w11 r8_0_0
  have r8_0_1 := keepsB J_w11 r8_0_1
  have r9_0_0 := keepsB J_w11 r9_0_0
  have r9_0_1 := keepsB J_w11 r9_0_1
  have r10_0_0 : w11.cell? ⟨w10.heap.size, 0, none⟩ = some (.int .i64 p3) := keepsB hB (by simp [go_sem])
  have r10_0_1 : w11.cell? ⟨w10.heap.size, 1, none⟩ = some (.int .i64 q3) := keepsB hB (by simp [go_sem])
  have r10_1_0 : w11.cell? ⟨w10.heap.size + 1, 0, none⟩ = some (.int .i64 p4) := keepsB hB (by simp [go_sem])
  have r10_1_1 : w11.cell? ⟨w10.heap.size + 1, 1, none⟩ = some (.int .i64 q4) := keepsB hB (by simp [go_sem])
  have K_w11 : Free.Bel W0 w11 := Free.Bel.trans _ _ _ K_w10 J_w11
  generalize w10.heap.size = g10 at *
  clear J_w11 K_w10 hB KA_w10_0 KA_w10_1
  have KA_w11_0 : Free.Bel W0 (w11.alloc (.cells #[.int .i64 p3, .int .i64 q3] 31)) := Bel.allocT K_w11 _
  have r1_0_0 := keepsB (belAlloc w11 (.cells #[.int .i64 p3, .int .i64 q3] 31)) r1_0_0
  have r1_0_1 := keepsB (belAlloc w11 (.cells #[.int .i64 p3, .int .i64 q3] 31)) r1_0_1
  have r2_0_0 := keepsB (belAlloc w11 (.cells #[.int .i64 p3, .int .i64 q3] 31)) r2_0_0
  have r2_0_1 := keepsB (belAlloc w11 (.cells #[.int .i64 p3, .int .i64 q3] 31)) r2_0_1
  have r8_0_0 := keepsB (belAlloc w11 (.cells #[.int .i64 p3, .int .i64 q3] 31)) r8_0_0
  have r8_0_1 := keepsB (belAlloc w11 (.cells #[.int .i64 p3, .int .i64 q3] 31)) r8_0_1
  have r9_0_0 := keepsB (belAlloc w11 (.cells #[.int .i64 p3, .int .i64 q3] 31)) r9_0_0
  have r9_0_1 := keepsB (belAlloc w11 (.cells #[.int .i64 p3, .int .i64 q3] 31)) r9_0_1
  have r10_0_0 := keepsB (belAlloc w11 (.cells #[.int .i64 p3, .int .i64 q3] 31)) r10_0_0
  have r10_0_1 := keepsB (belAlloc w11 (.cells #[.int .i64 p3, .int .i64 q3] 31)) r10_0_1
  have r10_1_0 := keepsB (belAlloc w11 (.cells #[.int .i64 p3, .int .i64 q3] 31)) r10_1_0
  have r10_1_1 := keepsB (belAlloc w11 (.cells #[.int .i64 p3, .int .i64 q3] 31)) r10_1_1
  have KA_w11_1 : Free.Bel W0 ((w11.alloc (.cells #[.int .i64 p3, .int .i64 q3] 31)).alloc (.cells #[.int .i64 p4, .int .i64 q4] 31)) := Bel.allocT KA_w11_0 _
  have r1_0_0 := keepsB (belAlloc (w11.alloc (.cells #[.int .i64 p3, .int .i64 q3] 31)) (.cells #[.int .i64 p4, .int .i64 q4] 31)) r1_0_0
  have r1_0_1 := keepsB (belAlloc (w11.alloc (.cells #[.int .i64 p3, .int .i64 q3] 31)) (.cells #[.int .i64 p4, .int .i64 q4] 31)) r1_0_1
  have r2_0_0 := keepsB (belAlloc (w11.alloc (.cells #[.int .i64 p3, .int .i64 q3] 31)) (.cells #[.int .i64 p4, .int .i64 q4] 31)) r2_0_0
  have r2_0_1 := keepsB (belAlloc (w11.alloc (.cells #[.int .i64 p3, .int .i64 q3] 31)) (.cells #[.int .i64 p4, .int .i64 q4] 31)) r2_0_1
  have r8_0_0 := keepsB (belAlloc (w11.alloc (.cells #[.int .i64 p3, .int .i64 q3] 31)) (.cells #[.int .i64 p4, .int .i64 q4] 31)) r8_0_0
  have r8_0_1 := keepsB (belAlloc (w11.alloc (.cells #[.int .i64 p3, .int .i64 q3] 31)) (.cells #[.int .i64 p4, .int .i64 q4] 31)) r8_0_1
  have r9_0_0 := keepsB (belAlloc (w11.alloc (.cells #[.int .i64 p3, .int .i64 q3] 31)) (.cells #[.int .i64 p4, .int .i64 q4] 31)) r9_0_0
  have r9_0_1 := keepsB (belAlloc (w11.alloc (.cells #[.int .i64 p3, .int .i64 q3] 31)) (.cells #[.int .i64 p4, .int .i64 q4] 31)) r9_0_1
  have r10_0_0 := keepsB (belAlloc (w11.alloc (.cells #[.int .i64 p3, .int .i64 q3] 31)) (.cells #[.int .i64 p4, .int .i64 q4] 31)) r10_0_0
  have r10_0_1 := keepsB (belAlloc (w11.alloc (.cells #[.int .i64 p3, .int .i64 q3] 31)) (.cells #[.int .i64 p4, .int .i64 q4] 31)) r10_0_1
  have r10_1_0 := keepsB (belAlloc (w11.alloc (.cells #[.int .i64 p3, .int .i64 q3] 31)) (.cells #[.int .i64 p4, .int .i64 q4] 31)) r10_1_0
  have r10_1_1 := keepsB (belAlloc (w11.alloc (.cells #[.int .i64 p3, .int .i64 q3] 31)) (.cells #[.int .i64 p4, .int .i64 q4] 31)) r10_1_1
  go_wp2_with fail
  go_ret
  have hbb := HBB.out
  subst hbb
  refine ⟨rfl, HB0.out.trans (Below.mono (B := W0.heap.size) ?_ (by omega))⟩
  show Free.Bel W0 _
  repeat (first | exact K_w11 | refine Bel.allocT ?_ _ | refine Bel.drewT ?_)
end Go.Proofs.YthhallnkpbgomaaDoor
