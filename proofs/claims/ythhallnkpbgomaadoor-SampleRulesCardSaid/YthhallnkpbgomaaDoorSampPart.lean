/- A fraction in lowest terms. -/
import Derived.Test.YthhallnkpbgomaaDoorSampBegun
import Derived.RegionTactic
namespace Go.Proofs.YthhallnkpbgomaaDoor
set_option linter.unusedSimpArgs false
set_option linter.unusedVariables false
open Go.RowKit Go.Proofs.YthhallnkpbgomaaDoor.ML Go.Proofs.YthhallnkpbgomaaDoor.Samp

/-- A fraction as a value. -/
def partV (n d : Nat) : Value := .agg #[.int .i64 ((lowest n d).1 : Nat), .int .i64 ((lowest n d).2 : Nat)]
set_option maxRecDepth 100000 in
set_option maxHeartbeats 2000000 in
theorem part_any (n d : Nat) (hd : 0 < d) (hn : n ≤ 4611686018427387904) (hd2 : d ≤ 4611686018427387904) (w : World) :
    Calls Tryd.prog 65 #[.int .i64 n, .int .i64 d] w fun e w' => e = .returned (partV n d) ∧ Below w.heap.size w w' := by
  have hg : Hid (0 < Nat.gcd n d) := Nat.gcd_pos_of_pos_right n hd
  have hg1 : Nat.gcd n d ≤ d := Nat.gcd_le_right n hd
  go_enter Tryd.func65, Tryd.ntmps65
  go_wp2
  go_loopw [5, 6] (fun a b wr => ∃ x y : Nat, a = .int .i64 x ∧ b = .int .i64 y ∧ Nat.gcd x y = Nat.gcd n d ∧ x ≤ 4611686018427387904 ∧ y ≤ 4611686018427387904 ∧ wr.cell? ⟨w.heap.size, 0, none⟩ = some (.int .i64 0) ∧ wr.cell? ⟨w.heap.size, 1, none⟩ = some (.int .i64 0) ∧ wr.frozen? ⟨w.heap.size, 0, none⟩ = false ∧ wr.frozen? ⟨w.heap.size, 1, none⟩ = false ∧ Below w.heap.size w wr) (fun _ b _ => (intOf b).toNat)
  case atStart => exact ⟨n, d, rfl, rfl, rfl, hn, hd2, by simp [go_sem], by simp [go_sem], by simp [go_sem], by simp [go_sem], (Below.refl _ w).alloc (Nat.le_refl _) _⟩
  case round =>
    obtain ⟨x, y, rfl, rfl, hxy, hx, hy, c0, c1, f0, f1, hB⟩ := hrel
    have HXY := Lib.hid hxy
    clear hxy
    by_cases h0 : y = 0
    · subst h0
      have hxg : x = Nat.gcd n d := by have := HXY.out; simpa using this
      have hx0 : 1 ≤ x := by have := hg.out; omega
      have HX := Lib.hid hxg
      clear hxg
      go_wp2
      generalize hbb : w.heap.size = bb at *
      have HBB := Lib.hid hbb
      clear hbb
      obtain ⟨z0, hz0⟩ : ∃ z : Int, z = ((n / x : Nat) : Int) := ⟨_, rfl⟩
      obtain ⟨z1, hz1⟩ : ∃ z : Int, z = ((d / x : Nat) : Int) := ⟨_, rfl⟩
      have q1 : wrap64 ((n : Int) / (x : Int)) = z0 := by
        rw [hz0, ← Int.natCast_ediv]; have := Nat.div_le_self n x; generalize n / x = z at *; exact IntWalk.wrap64_in _ (by omega)
      have q2 : wrap64 ((d : Int) / (x : Int)) = z1 := by
        rw [hz1, ← Int.natCast_ediv]; have := Nat.div_le_self d x; generalize d / x = z at *; exact IntWalk.wrap64_in _ (by omega)
      have HZ := Lib.hid hz0
      have HY := Lib.hid hz1
      clear hz0 hz1
      go_region
      go_wp2
      obtain ⟨r0, r1⟩ := two_stores (w := wr) (b := bb) (.int .i64 z0) (.int .i64 z1) c0 c1
      have hB9 := Lib.hid (((hB.setCell (p := ⟨bb, 0, none⟩) (Nat.le_refl _) (.int .i64 z0)).setCell (p := ⟨bb, 1, none⟩) (Nat.le_refl _) (.int .i64 z1)).drew)
      generalize (wr.setCell ⟨bb, 0, none⟩ (.int .i64 z0)).setCell ⟨bb, 1, none⟩ (.int .i64 z1) = W1 at *
      refine bodyPost_ret (v := .agg #[.int .i64 z0, .int .i64 z1]) ?_ rfl ⟨?_, ?_⟩
      · simp [results, Tryd.results65, go_sem, r0, r1]
      · have hx' := HX.out
        subst hx'
        rw [HZ.out, HY.out]
        rfl
      · have hbb := HBB.out
        subst hbb
        exact hB9.out
    · have h0' : 1 ≤ y := by omega
      have hne : ((y : Int) != 0) = true := by simp; omega
      have hm : Hid (Nat.gcd y (x % y) = Nat.gcd n d) := by
        show _ = _
        rw [← HXY.out, Nat.gcd_comm x y, Nat.gcd_rec y x, Nat.gcd_comm]
      have hlt : x % y < y := Nat.mod_lt _ (by omega)
      have hcast : Hid (((x : Int) % (y : Int)) = ((x % y : Nat) : Int)) := by show _ = _; simp
      go_wp2
      go_quiet (fail)
      go_wp2
      go_roundw
      case rel =>
        refine ⟨y, x % y, rfl, ?_, hm.out, by omega, by omega, ?_, ?_, ?_, ?_, ?_⟩
        · rw [hcast.out]
        · simpa using c0
        · simpa using c1
        · simpa using f0
        · simpa using f1
        · exact ⟨hB.os, hB.tape, hB.output, hB.size, hB.block⟩
      case measure => simp [intOf]; omega

theorem part_int (n d : Int) (h0 : 0 ≤ n) (hd : 0 < d) (hn : n ≤ 4611686018427387904) (hd2 : d ≤ 4611686018427387904) (v : Value) (hv : partV n.toNat d.toNat = v) (w : World) :
    Calls Tryd.prog 65 #[.int .i64 n, .int .i64 d] w fun e w' => e = .returned v ∧ Below w.heap.size w w' := by
  subst hv
  obtain ⟨n, rfl⟩ := Int.eq_ofNat_of_zero_le h0
  obtain ⟨d, rfl⟩ := Int.eq_ofNat_of_zero_le (Int.le_of_lt hd)
  exact part_any n d (by omega) (by omega) (by omega) w
end Go.Proofs.YthhallnkpbgomaaDoor
