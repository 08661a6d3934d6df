/- For every input the law SampleSwap returns true, and its arguments read behind the call as they read before; what a double rule is asked lies in the table as the program's text lays it (tied). Condition: that table. -/
/- The law that what is drawn and what is dirty may be exchanged: its walk. -/
import Derived.Test.YtdiclofeggkjcaaDoorB7
namespace Go.Proofs.YtdiclofeggkjcaaDoor
set_option linter.unusedSimpArgs false
set_option linter.unusedVariables false
open Go.RowKit Go.Proofs.YtdiclofeggkjcaaDoor.ML Go.Proofs.YtdiclofeggkjcaaDoor.Samp

theorem minOf2 (x y : Int) : (if y < x then y else x) = min x y := by split <;> omega
theorem swap_c (N d o k : Int) (hN : 1 ≤ N ∧ N ≤ 36) (h0 : 0 ≤ d ∧ d ≤ N) (h1 : 0 ≤ o ∧ o ≤ N) (h2 : 0 ≤ k ∧ k ≤ d ∧ k ≤ o) : partV (waysI N d o k).toNat (chI N o).toNat = partV (waysI N o d k).toNat (chI N d).toNat := by
  have p1 := chI_pos N o (by omega) hN.2 h1.1 h1.2
  have p2 := chI_pos N d (by omega) hN.2 h0.1 h0.2
  exact partV_cross _ _ _ _ (waysI_nonneg N d o k h0.1 h0.2) (by omega) (waysI_nonneg N o d k h1.1 h1.2) (by omega) (ways_swapI N d o k h0.1 h0.2 h1.1 h1.2 h2.1 h2.2.1 h2.2.2)
theorem swap_m (N d o k : Int) (hN : 1 ≤ N ∧ N ≤ 36) (h0 : 0 ≤ d ∧ d ≤ N) (h1 : 0 ≤ o ∧ o ≤ N) (h2 : 0 ≤ k ∧ k ≤ d ∧ k ≤ o) : mostV N d o k = mostV N o d k := by
  have p1 := chI_pos N o (by omega) hN.2 h1.1 h1.2
  have p2 := chI_pos N d (by omega) hN.2 h0.1 h0.2
  exact partV_cross _ _ _ _ (mostI_le N d o k h0.1 h0.2 h2.1 h2.2.2).1 (by omega) (mostI_le N o d k h1.1 h1.2 h2.1 h2.2.1).1 (by omega) (most_swapI N d o k h0.1 h0.2 h1.1 h1.2 h2.1 h2.2.1 h2.2.2)

set_option maxRecDepth 100000 in
set_option maxHeartbeats 4000000 in
theorem swap_walk (n d o k : Int) (w : World) (hT : TabD w) (hn : 0 ≤ n ∧ n ≤ 255) (hd : 0 ≤ d ∧ d ≤ 255) (ho : 0 ≤ o ∧ o ≤ 255) (hk : 0 ≤ k ∧ k ≤ 255) :
    Calls Tryd.prog 3 #[.int .u8 n, .int .u8 d, .int .u8 o, .int .u8 k] w fun e w' => e = .returned (.bool true) ∧ Below w.heap.size w w' := by
  have hB0 : Below w.heap.size w w := Below.refl _ _
  have t0 := hT.1
  have t1 := hT.2.1
  have t2 := hT.2.2
  clear hT
  go_enter Tryd.func3, Tryd.ntmps3
  go_wp2_with fail
  refine (alive_any _ (tabD_mk t0 t1 t2)).mono ?_
  rintro e w1 ⟨rfl, hB1⟩
  have hBz : Below w.heap.size w w1 := hB0.trans (hB1.mono (by simp))
  have hzz : w.heap.size ≤ w1.heap.size := hBz.size
  have kt0 := keepsB hB1 t0
  have kt1 := keepsB hB1 t1
  have kt2 := keepsB hB1 t2
  clear hB0 hB1 t0 t1 t2
  generalize hbb : w.heap.size = bb at *
  have HBB := Lib.hid hbb
  clear hbb
  have HB_w1 := Lib.hid (show Below bb w w1 from hBz)
  have hz_w1 : bb ≤ w1.heap.size := hzz
  have FA : ∀ W, Free.Bel w1 W → W.cell? ⟨0, 0, none⟩ = some (dblF 130) ∧ W.cell? ⟨0, 1, none⟩ = some (dblF 131) ∧ W.cell? ⟨0, 2, none⟩ = some (dblF 132) ∧ bb ≤ W.heap.size := fun W hW => ⟨keepsB hW kt0, keepsB hW kt1, keepsB hW kt2, Nat.le_trans hz_w1 hW.size⟩
  have KR : Free.Bel w1 w1 := Free.Bel.refl _
  clear hBz hzz kt0 kt1 kt2
  have mn00 : 0 ≤ n % 36 := Int.emod_nonneg _ (by omega)
  have mn01 : n % 36 < 36 := Int.emod_lt_of_pos _ (by omega)
  have cn0 : IntKind.i64.wrap n = n := IntWalk.i64_in _ (by omega)
  have dn0 : n.tmod 36 = n % 36 := Int.tmod_eq_emod_of_nonneg (by omega)
  obtain ⟨n0, hn0⟩ : ∃ v9, n % 36 = v9 := ⟨_, rfl⟩
  rw [hn0] at mn00 mn01 dn0
  clear hn0
  have en0 : IntKind.i64.wrap n0 = n0 := IntWalk.i64_in _ (by omega)
  have w1 : IntKind.i64.wrap (1 + n0) = 1 + n0 := IntWalk.i64_in _ (by omega)
  obtain ⟨N, hN⟩ : ∃ x, 1 + n0 = x := ⟨_, rfl⟩
  have hNb : 1 ≤ N ∧ N ≤ 36 := by omega
  rw [hN] at w1
  have w1 : IntKind.i64.wrap (1 + n0) = N := by rw [hN]; exact w1
  have w2 : IntKind.i64.wrap (N + 1) = N + 1 := IntWalk.i64_in _ (by omega)
  have w3 : (N + 1 != 0) = true := by simp; omega
  have mx0 : 0 ≤ d % (N + 1) := Int.emod_nonneg _ (by omega)
  have mx1 : d % (N + 1) < (N + 1) := Int.emod_lt_of_pos _ (by omega)
  have cx : IntKind.i64.wrap d = d := IntWalk.i64_in _ (by omega)
  have dx : d.tmod (N + 1) = d % (N + 1) := Int.tmod_eq_emod_of_nonneg (by omega)
  obtain ⟨x, hx⟩ : ∃ v9, d % (N + 1) = v9 := ⟨_, rfl⟩
  rw [hx] at mx0 mx1 dx
  clear hx
  have ex : IntKind.i64.wrap x = x := IntWalk.i64_in _ (by omega)
  have my0 : 0 ≤ o % (N + 1) := Int.emod_nonneg _ (by omega)
  have my1 : o % (N + 1) < (N + 1) := Int.emod_lt_of_pos _ (by omega)
  have cy : IntKind.i64.wrap o = o := IntWalk.i64_in _ (by omega)
  have dy : o.tmod (N + 1) = o % (N + 1) := Int.tmod_eq_emod_of_nonneg (by omega)
  obtain ⟨y, hy⟩ : ∃ v9, o % (N + 1) = v9 := ⟨_, rfl⟩
  rw [hy] at my0 my1 dy
  clear hy
  have ey : IntKind.i64.wrap y = y := IntWalk.i64_in _ (by omega)
  have hmn := minOf2 x y
  have hmb : min x y ≤ x ∧ min x y ≤ y ∧ 0 ≤ min x y := by omega
  have w4 : IntKind.i64.wrap (min x y + 1) = min x y + 1 := IntWalk.i64_in _ (by omega)
  have w5 : (min x y + 1 != 0) = true := by simp; omega
  have mz0 : 0 ≤ k % (min x y + 1) := Int.emod_nonneg _ (by omega)
  have mz1 : k % (min x y + 1) < (min x y + 1) := Int.emod_lt_of_pos _ (by omega)
  have cz : IntKind.i64.wrap k = k := IntWalk.i64_in _ (by omega)
  have dz : k.tmod (min x y + 1) = k % (min x y + 1) := Int.tmod_eq_emod_of_nonneg (by omega)
  obtain ⟨z, hz⟩ : ∃ v9, k % (min x y + 1) = v9 := ⟨_, rfl⟩
  rw [hz] at mz0 mz1 dz
  clear hz
  have ez : IntKind.i64.wrap z = z := IntWalk.i64_in _ (by omega)
  have hS1 := swap_c N x y z hNb (by omega) (by omega) (by omega)
  have hS2 := swap_m N x y z hNb (by omega) (by omega) (by omega)
  obtain ⟨p, q, hp⟩ : ∃ p q, partV (waysI N x y z).toNat (chI N y).toNat = i2 p q := ⟨_, _, rfl⟩
  obtain ⟨r, s, hr⟩ : ∃ r s, mostV N x y z = i2 r s := ⟨_, _, rfl⟩
  rw [hp] at hS1
  rw [hr] at hS2
  have HP := Lib.hid hp
  have HR := Lib.hid hr
  have HP2 := Lib.hid hS1.symm
  have HR2 := Lib.hid hS2.symm
  clear hp hr hS1 hS2 hN
  go_wp2_with fail
  refine (bags_any N _).mono ?_
  rintro e w2 ⟨rfl, hB⟩
  have HB_w2 := Lib.hid (HB_w1.out.trans ((hB).mono hz_w1))
  have hz_w2 : bb ≤ w2.heap.size := Nat.le_trans hz_w1 (hB).size
  have FN : ∀ W, Free.Bel w2 W → W.cell? ⟨0, 0, none⟩ = some (dblF 130) ∧ W.cell? ⟨0, 1, none⟩ = some (dblF 131) ∧ W.cell? ⟨0, 2, none⟩ = some (dblF 132) ∧ bb ≤ W.heap.size := fun W hW => by
    obtain ⟨a0, a1, a2, a3⟩ := FA W (Free.Bel.trans _ _ _ (hB) hW)
    exact ⟨a0, a1, a2, a3⟩
  clear FA HB_w1 hz_w1 KR
  have FA := FN
  clear FN
  have KR : Free.Bel w2 w2 := Free.Bel.refl _
  clear hB
  go_wp2_with fail
  have hN : Free.Bel w2 (w2.alloc (.cells #[.int .i64 N, .int .i64 0, .int .i64 N] 26)) := (Bel.allocT (Free.Bel.refl w2) _)
  have n_g20_0 : (w2.alloc (.cells #[.int .i64 N, .int .i64 0, .int .i64 N] 26)).cell? ⟨w2.heap.size, 0, none⟩ = some (.int .i64 N) := by simp [go_sem]
  have n_g20_1 : (w2.alloc (.cells #[.int .i64 N, .int .i64 0, .int .i64 N] 26)).cell? ⟨w2.heap.size, 1, none⟩ = some (.int .i64 0) := by simp [go_sem]
  have n_g20_2 : (w2.alloc (.cells #[.int .i64 N, .int .i64 0, .int .i64 N] 26)).cell? ⟨w2.heap.size, 2, none⟩ = some (.int .i64 N) := by simp [go_sem]
  generalize (w2.alloc (.cells #[.int .i64 N, .int .i64 0, .int .i64 N] 26)) = w3 at *
  obtain ⟨g20, hgz⟩ : ∃ x, x = w2.heap.size := ⟨_, rfl⟩
  rw [← hgz] at n_g20_0 n_g20_1 n_g20_2 ⊢
  clear hgz
  have HB_w3 := Lib.hid (HB_w2.out.trans ((hN).mono hz_w2))
  have hz_w3 : bb ≤ w3.heap.size := Nat.le_trans hz_w2 (hN).size
  have FN : ∀ W, Free.Bel w3 W → W.cell? ⟨0, 0, none⟩ = some (dblF 130) ∧ W.cell? ⟨0, 1, none⟩ = some (dblF 131) ∧ W.cell? ⟨0, 2, none⟩ = some (dblF 132) ∧ bb ≤ W.heap.size ∧ W.cell? ⟨g20, 0, none⟩ = some (.int .i64 N) ∧ W.cell? ⟨g20, 1, none⟩ = some (.int .i64 0) ∧ W.cell? ⟨g20, 2, none⟩ = some (.int .i64 N) := fun W hW => by
    obtain ⟨a0, a1, a2, a3⟩ := FA W (Free.Bel.trans _ _ _ (hN) hW)
    exact ⟨a0, a1, a2, a3, keepsB hW n_g20_0, keepsB hW n_g20_1, keepsB hW n_g20_2⟩
  clear FA HB_w2 hz_w2 KR
  have FA := FN
  clear FN
  have KR : Free.Bel w3 w3 := Free.Bel.refl _
  clear hN n_g20_0 n_g20_1 n_g20_2
  obtain ⟨z0, z1, z2, z3, z4, z5, z6⟩ := FA w3 (Free.Bel.refl _)
  go_quiet (fail)
  clear z0 z1 z2 z3 z4 z5 z6
  generalize hqe : World.drewN w3 _ = w4 at *
  have hN : Free.Bel w3 w4 := by rw [← hqe]; exact belDrewN (Below.refl _ _) _
  clear hqe
  have HB_w4 := Lib.hid (HB_w3.out.trans ((hN).mono hz_w3))
  have hz_w4 : bb ≤ w4.heap.size := Nat.le_trans hz_w3 (hN).size
  have FN : ∀ W, Free.Bel w4 W → W.cell? ⟨0, 0, none⟩ = some (dblF 130) ∧ W.cell? ⟨0, 1, none⟩ = some (dblF 131) ∧ W.cell? ⟨0, 2, none⟩ = some (dblF 132) ∧ bb ≤ W.heap.size ∧ W.cell? ⟨g20, 0, none⟩ = some (.int .i64 N) ∧ W.cell? ⟨g20, 1, none⟩ = some (.int .i64 0) ∧ W.cell? ⟨g20, 2, none⟩ = some (.int .i64 N) := fun W hW => by
    obtain ⟨a0, a1, a2, a3, a4, a5, a6⟩ := FA W (Free.Bel.trans _ _ _ (hN) hW)
    exact ⟨a0, a1, a2, a3, a4, a5, a6⟩
  clear FA HB_w3 hz_w3 KR
  have FA := FN
  clear FN
  have KR : Free.Bel w4 w4 := Free.Bel.refl _
  clear hN
  go_wp2_with fail
  have hF : ∀ W, Below w4.heap.size w4.drew W → Free.Bel w4 W := fun W hW => (show Below w4.heap.size w4 W from ((Below.refl _ w4).drew).trans hW)
  refine Free2.wp_free (R := Below w4.heap.size) (J := LL w4.heap.size [⟨9, 10, (.cells #[.int .i64 0, .int .i64 0] 29), (.cells #[.int .i64 p, .int .i64 q] 29)⟩]) (by kernel_rfl) (by kernel_rfl) (Below.refl _) (fun _ _ _ => Below.trans) (LL.start (Nat.le_refl _)) ?_
  refine Free2.Chain.ex ?_ 0 rfl [] [10] (by kernel_rfl) (by kernel_rfl) rfl (Below.refl _) (fun X W v h => LL.skip h 0 v (by simp)) ?_ ?_
  rotate_left
  · (intro ev W hb hR hO hD; have hS := hF W hR; obtain ⟨hb1, hb2, hb3⟩ := hb; simp only [Free.AllDeps, Free.AllOuts, Free.At, List.getElem?_cons_succ, List.getElem?_cons_zero, Array.getD_eq_getD_getElem?, List.getElem?_toArray, Option.getD_some, and_true] at hO hD; go_simp; rfl)
  simp only [List.nil_append, List.cons_append]
  refine Free2.Chain.ex ?_ 1 rfl [] [11] (by kernel_rfl) (by kernel_rfl) rfl (Below.refl _) (fun X W v h => LL.skip h 1 v (by simp)) ?_ ?_
  rotate_left
  · (intro ev W hb hR hO hD; have hS := hF W hR; obtain ⟨hb1, hb2, hb3⟩ := hb; simp only [Free.AllDeps, Free.AllOuts, Free.At, List.getElem?_cons_succ, List.getElem?_cons_zero, Array.getD_eq_getD_getElem?, List.getElem?_toArray, Option.getD_some, and_true] at hO hD; go_simp; rfl)
  simp only [List.nil_append, List.cons_append]
  refine Free2.Chain.ex ?_ 2 rfl [] [12] (by kernel_rfl) (by kernel_rfl) rfl (Below.refl _) (fun X W v h => LL.skip h 2 v (by simp)) ?_ ?_
  rotate_left
  · (intro ev W hb hR hO hD; have hS := hF W hR; obtain ⟨hb1, hb2, hb3⟩ := hb; simp only [Free.AllDeps, Free.AllOuts, Free.At, List.getElem?_cons_succ, List.getElem?_cons_zero, Array.getD_eq_getD_getElem?, List.getElem?_toArray, Option.getD_some, and_true] at hO hD; go_simp; rfl)
  simp only [List.nil_append, List.cons_append]
  refine Free2.Chain.ex ?_ 3 rfl [] [13] (by kernel_rfl) (by kernel_rfl) rfl (Below.refl _) (fun X W v h => LL.skip h 3 v (by simp)) ?_ ?_
  rotate_left
  · (intro ev W hb hR hO hD; have hS := hF W hR; obtain ⟨hb1, hb2, hb3⟩ := hb; simp only [Free.AllDeps, Free.AllOuts, Free.At, List.getElem?_cons_succ, List.getElem?_cons_zero, Array.getD_eq_getD_getElem?, List.getElem?_toArray, Option.getD_some, and_true] at hO hD; go_simp; rfl)
  simp only [List.nil_append, List.cons_append]
  refine Free2.Chain.pr (fun v _ => v = i2 y z) 4 rfl [(2, 50), (3, 51)] [] (by kernel_rfl) (by kernel_rfl) rfl (fun _ _ _ _ h => h) ?_ ?_
  · (intro ev W X hb hR hO hD hj hx hax; have hS := hF W hR; obtain ⟨hb1, hb2, hb3⟩ := hb; simp only [Free.AllDeps, Free.AllOuts, Free.At, List.getElem?_cons_succ, List.getElem?_cons_zero, Array.getD_eq_getD_getElem?, List.getElem?_toArray, Option.getD_some, and_true] at hO hD; simp only [Free2.AllX, and_true] at hax; go_simp; refine yields_enter ?_; (with_reducible refine (drawn_any y z _).mono ?_); rintro e W2 ⟨rfl, hB2⟩; exact ⟨_, rfl, hB2.mono hj.size, rfl, (hj.bel hB2).skip 4 _ (by simp)⟩)
  simp only [List.nil_append, List.cons_append]
  refine Free2.Chain.pr (fun v _ => v = .tuple #[i2 p q, .int .i64 0]) 5 rfl [(0, 48), (1, 49), (4, 52), (4, 52)] [] (by kernel_rfl) (by kernel_rfl) rfl (fun _ _ _ _ h => h) ?_ ?_
  · (intro ev W X hb hR hO hD hj hx hax; have hS := hF W hR; obtain ⟨hb1, hb2, hb3⟩ := hb; simp only [Free.AllDeps, Free.AllOuts, Free.At, List.getElem?_cons_succ, List.getElem?_cons_zero, Array.getD_eq_getD_getElem?, List.getElem?_toArray, Option.getD_some, and_true] at hO hD; simp only [Free2.AllX, and_true] at hax; go_simp; refine yields_enter ?_; (with_reducible refine (chance_ok N 0 N x y z p q _ (by omega) (by omega) (by omega) HP).mono ?_); rintro e W2 ⟨rfl, hB2⟩; exact ⟨_, rfl, hB2.mono hj.size, rfl, (hj.bel hB2).skip 5 _ (by simp)⟩)
  simp only [List.nil_append, List.cons_append]
  refine Free2.Chain.ex ?_ 6 rfl [(5, 53)] [] (by kernel_rfl) (by kernel_rfl) rfl (Below.refl _) (fun X W v h => LL.skip h 6 v (by simp)) ?_ ?_
  rotate_left
  · (intro ev W hb hR hO hD; have hS := hF W hR; obtain ⟨hb1, hb2, hb3⟩ := hb; simp only [Free.AllDeps, Free.AllOuts, Free.At, List.getElem?_cons_succ, List.getElem?_cons_zero, Array.getD_eq_getD_getElem?, List.getElem?_toArray, Option.getD_some, and_true] at hO hD; go_simp; rfl)
  simp only [List.nil_append, List.cons_append]
  refine Free2.Chain.ex ?_ 7 rfl [(6, 47)] [] (by kernel_rfl) (by kernel_rfl) rfl (Below.refl _) (fun X W v h => LL.skip h 7 v (by simp)) ?_ ?_
  rotate_left
  · (intro ev W hb hR hO hD; have hS := hF W hR; obtain ⟨hb1, hb2, hb3⟩ := hb; simp only [Free.AllDeps, Free.AllOuts, Free.At, List.getElem?_cons_succ, List.getElem?_cons_zero, Array.getD_eq_getD_getElem?, List.getElem?_toArray, Option.getD_some, and_true] at hO hD; go_simp; rfl)
  simp only [List.nil_append, List.cons_append]
  refine Free2.Chain.ex ?_ 8 rfl [(6, 47)] [] (by kernel_rfl) (by kernel_rfl) rfl (Below.refl _) (fun X W v h => LL.skip h 8 v (by simp)) ?_ ?_
  rotate_left
  · (intro ev W hb hR hO hD; have hS := hF W hR; obtain ⟨hb1, hb2, hb3⟩ := hb; simp only [Free.AllDeps, Free.AllOuts, Free.At, List.getElem?_cons_succ, List.getElem?_cons_zero, Array.getD_eq_getD_getElem?, List.getElem?_toArray, Option.getD_some, and_true] at hO hD; go_simp; rfl)
  simp only [List.nil_append, List.cons_append]
  refine Free2.Chain.pr (fun v _ => ∃ b, v = ptr b) 9 rfl [] [] (by kernel_rfl) (by kernel_rfl) rfl (fun _ _ _ _ h => h) ?_ ?_
  · (intro ev W X hb hR hO hD hj hx hax; have hS := hF W hR; obtain ⟨hb1, hb2, hb3⟩ := hb; simp only [Free.AllDeps, Free.AllOuts, Free.At, List.getElem?_cons_succ, List.getElem?_cons_zero, Array.getD_eq_getD_getElem?, List.getElem?_toArray, Option.getD_some, and_true] at hO hD; simp only [Free2.AllX, and_true] at hax; go_simp; exact ⟨(Below.refl _ W).alloc hj.size _, ⟨_, rfl⟩, hj.new ⟨9, 10, (.cells #[.int .i64 0, .int .i64 0] 29), (.cells #[.int .i64 p, .int .i64 q] 29)⟩ (by simp) (by simp) hx⟩)
  simp only [List.nil_append, List.cons_append]
  refine Free2.Chain.pr (fun _ _ => True) 10 rfl [(9, 14), (7, 54), (5, 53), (0, 48), (1, 49), (2, 50), (3, 51), (4, 52), (5, 53), (6, 47), (7, 54), (9, 14)] [] (by kernel_rfl) (by kernel_rfl) rfl (fun _ _ _ _ h => h) ?_ ?_
  · (intro ev W X hb hR hO hD hj hx hax; have hS := hF W hR; obtain ⟨hb1, hb2, hb3⟩ := hb; simp only [Free.AllDeps, Free.AllOuts, Free.At, List.getElem?_cons_succ, List.getElem?_cons_zero, Array.getD_eq_getD_getElem?, List.getElem?_toArray, Option.getD_some, and_true] at hO hD; simp only [Free2.AllX, and_true] at hax; obtain ⟨b, hb9, hs0, hbl⟩ := hj.at_ ⟨9, 10, (.cells #[.int .i64 0, .int .i64 0] 29), (.cells #[.int .i64 p, .int .i64 q] 29)⟩ (by simp) hax.1 hx; have hX := hax.1; rw [hb9] at hX; have hp := hj.puts ⟨9, 10, (.cells #[.int .i64 0, .int .i64 0] 29), (.cells #[.int .i64 p, .int .i64 q] 29)⟩ (by simp) (by simp) hX hs0 hbl [(0, .int .i64 p), (1, .int .i64 q)] rfl; have q0 : W.cell? ⟨b, 0, none⟩ = some (.int .i64 0) := cell_of_heap (o := 0) hbl rfl; have q1 : W.cell? ⟨b, 1, none⟩ = some (.int .i64 0) := cell_of_heap (o := 1) hbl rfl; have p0 : ∀ o, W.frozen? ⟨b, o, none⟩ = false := fun o => frozen_of_heap (o := o) hbl; go_simp; exact ⟨(hp undef).1, (hp _).2⟩)
  simp only [List.nil_append, List.cons_append]
  refine Free2.Chain.ex ?_ 11 rfl [(8, 55), (0, 48), (1, 49), (2, 50), (3, 51), (4, 52), (5, 53), (6, 47), (7, 54), (8, 55), (9, 14)] [] (by kernel_rfl) (by kernel_rfl) rfl (Below.refl _) (fun X W v h => LL.skip h 11 v (by simp)) ?_ ?_
  rotate_left
  · (intro ev W hb hR hO hD; have hS := hF W hR; obtain ⟨hb1, hb2, hb3⟩ := hb; simp only [Free.AllDeps, Free.AllOuts, Free.At, List.getElem?_cons_succ, List.getElem?_cons_zero, Array.getD_eq_getD_getElem?, List.getElem?_toArray, Option.getD_some, and_true] at hO hD; go_simp; rfl)
  simp only [List.nil_append, List.cons_append]
  intro xs w5 hR hV hX
  obtain ⟨X, hj, hxx⟩ := hX
  obtain ⟨b5, hp_b5, hs_b5, hl_b5⟩ := hj.done ⟨9, 10, (.cells #[.int .i64 0, .int .i64 0] 29), (.cells #[.int .i64 p, .int .i64 q] 29)⟩ (by simp) (hxx 9 (show (9 : Nat) < 12 by decide)) (hxx 10 (show (10 : Nat) < 12 by decide))
  simp only [Free.AllV, Free.At, List.length_cons, List.length_nil, Nat.reduceAdd, List.getElem?_cons_succ, List.getElem?_cons_zero, true_and, and_true] at hV
  simp only [Free.putsFrom, Act.put, Nat.zero_add, Nat.reduceAdd, hV, hp_b5, List.setIfInBounds_toArray, List.set_cons_succ, List.set_cons_zero]
  have hN := hF w5 hR
  have HB_w5 := Lib.hid (HB_w4.out.trans ((hN).mono hz_w4))
  have hz_w5 : bb ≤ w5.heap.size := Nat.le_trans hz_w4 (hN).size
  have FN : ∀ W, Free.Bel w5 W → W.cell? ⟨0, 0, none⟩ = some (dblF 130) ∧ W.cell? ⟨0, 1, none⟩ = some (dblF 131) ∧ W.cell? ⟨0, 2, none⟩ = some (dblF 132) ∧ bb ≤ W.heap.size ∧ W.cell? ⟨g20, 0, none⟩ = some (.int .i64 N) ∧ W.cell? ⟨g20, 1, none⟩ = some (.int .i64 0) ∧ W.cell? ⟨g20, 2, none⟩ = some (.int .i64 N) ∧ W.cell? ⟨b5, 0, none⟩ = some (.int .i64 p) ∧ W.cell? ⟨b5, 1, none⟩ = some (.int .i64 q) := fun W hW => by
    obtain ⟨a0, a1, a2, a3, a4, a5, a6⟩ := FA W (Free.Bel.trans _ _ _ (hN) hW)
    exact ⟨a0, a1, a2, a3, a4, a5, a6, keepsB hW (cell_of_heap (o := 0) hl_b5 rfl), keepsB hW (cell_of_heap (o := 1) hl_b5 rfl)⟩
  clear FA HB_w4 hz_w4 KR
  have FA := FN
  clear FN
  have KR : Free.Bel w5 w5 := Free.Bel.refl _
  clear hR hF hj hxx hV hN hp_b5 hs_b5 hl_b5
  go_wp2_with fail
  have hF : ∀ W, Below w5.heap.size w5.drew W → Free.Bel w5 W := fun W hW => (show Below w5.heap.size w5 W from ((Below.refl _ w5).drew).trans hW)
  refine Free2.wp_free (R := Below w5.heap.size) (J := LL w5.heap.size [⟨9, 10, (.cells #[.int .i64 0, .int .i64 0] 29), (.cells #[.int .i64 p, .int .i64 q] 29)⟩]) (by kernel_rfl) (by kernel_rfl) (Below.refl _) (fun _ _ _ => Below.trans) (LL.start (Nat.le_refl _)) ?_
  refine Free2.Chain.ex ?_ 0 rfl [] [10] (by kernel_rfl) (by kernel_rfl) rfl (Below.refl _) (fun X W v h => LL.skip h 0 v (by simp)) ?_ ?_
  rotate_left
  · (intro ev W hb hR hO hD; have hS := hF W hR; obtain ⟨hb1, hb2, hb3⟩ := hb; simp only [Free.AllDeps, Free.AllOuts, Free.At, List.getElem?_cons_succ, List.getElem?_cons_zero, Array.getD_eq_getD_getElem?, List.getElem?_toArray, Option.getD_some, and_true] at hO hD; go_simp; rfl)
  simp only [List.nil_append, List.cons_append]
  refine Free2.Chain.ex ?_ 1 rfl [] [12] (by kernel_rfl) (by kernel_rfl) rfl (Below.refl _) (fun X W v h => LL.skip h 1 v (by simp)) ?_ ?_
  rotate_left
  · (intro ev W hb hR hO hD; have hS := hF W hR; obtain ⟨hb1, hb2, hb3⟩ := hb; simp only [Free.AllDeps, Free.AllOuts, Free.At, List.getElem?_cons_succ, List.getElem?_cons_zero, Array.getD_eq_getD_getElem?, List.getElem?_toArray, Option.getD_some, and_true] at hO hD; go_simp; rfl)
  simp only [List.nil_append, List.cons_append]
  refine Free2.Chain.ex ?_ 2 rfl [] [11] (by kernel_rfl) (by kernel_rfl) rfl (Below.refl _) (fun X W v h => LL.skip h 2 v (by simp)) ?_ ?_
  rotate_left
  · (intro ev W hb hR hO hD; have hS := hF W hR; obtain ⟨hb1, hb2, hb3⟩ := hb; simp only [Free.AllDeps, Free.AllOuts, Free.At, List.getElem?_cons_succ, List.getElem?_cons_zero, Array.getD_eq_getD_getElem?, List.getElem?_toArray, Option.getD_some, and_true] at hO hD; go_simp; rfl)
  simp only [List.nil_append, List.cons_append]
  refine Free2.Chain.ex ?_ 3 rfl [] [13] (by kernel_rfl) (by kernel_rfl) rfl (Below.refl _) (fun X W v h => LL.skip h 3 v (by simp)) ?_ ?_
  rotate_left
  · (intro ev W hb hR hO hD; have hS := hF W hR; obtain ⟨hb1, hb2, hb3⟩ := hb; simp only [Free.AllDeps, Free.AllOuts, Free.At, List.getElem?_cons_succ, List.getElem?_cons_zero, Array.getD_eq_getD_getElem?, List.getElem?_toArray, Option.getD_some, and_true] at hO hD; go_simp; rfl)
  simp only [List.nil_append, List.cons_append]
  refine Free2.Chain.pr (fun v _ => v = i2 x z) 4 rfl [(2, 59), (3, 60)] [] (by kernel_rfl) (by kernel_rfl) rfl (fun _ _ _ _ h => h) ?_ ?_
  · (intro ev W X hb hR hO hD hj hx hax; have hS := hF W hR; obtain ⟨hb1, hb2, hb3⟩ := hb; simp only [Free.AllDeps, Free.AllOuts, Free.At, List.getElem?_cons_succ, List.getElem?_cons_zero, Array.getD_eq_getD_getElem?, List.getElem?_toArray, Option.getD_some, and_true] at hO hD; simp only [Free2.AllX, and_true] at hax; go_simp; refine yields_enter ?_; (with_reducible refine (drawn_any x z _).mono ?_); rintro e W2 ⟨rfl, hB2⟩; exact ⟨_, rfl, hB2.mono hj.size, rfl, (hj.bel hB2).skip 4 _ (by simp)⟩)
  simp only [List.nil_append, List.cons_append]
  refine Free2.Chain.pr (fun v _ => v = .tuple #[i2 p q, .int .i64 0]) 5 rfl [(0, 57), (1, 58), (4, 61), (4, 61)] [] (by kernel_rfl) (by kernel_rfl) rfl (fun _ _ _ _ h => h) ?_ ?_
  · (intro ev W X hb hR hO hD hj hx hax; have hS := hF W hR; obtain ⟨hb1, hb2, hb3⟩ := hb; simp only [Free.AllDeps, Free.AllOuts, Free.At, List.getElem?_cons_succ, List.getElem?_cons_zero, Array.getD_eq_getD_getElem?, List.getElem?_toArray, Option.getD_some, and_true] at hO hD; simp only [Free2.AllX, and_true] at hax; go_simp; refine yields_enter ?_; (with_reducible refine (chance_ok N 0 N y x z p q _ (by omega) (by omega) (by omega) HP2).mono ?_); rintro e W2 ⟨rfl, hB2⟩; exact ⟨_, rfl, hB2.mono hj.size, rfl, (hj.bel hB2).skip 5 _ (by simp)⟩)
  simp only [List.nil_append, List.cons_append]
  refine Free2.Chain.ex ?_ 6 rfl [(5, 62)] [] (by kernel_rfl) (by kernel_rfl) rfl (Below.refl _) (fun X W v h => LL.skip h 6 v (by simp)) ?_ ?_
  rotate_left
  · (intro ev W hb hR hO hD; have hS := hF W hR; obtain ⟨hb1, hb2, hb3⟩ := hb; simp only [Free.AllDeps, Free.AllOuts, Free.At, List.getElem?_cons_succ, List.getElem?_cons_zero, Array.getD_eq_getD_getElem?, List.getElem?_toArray, Option.getD_some, and_true] at hO hD; go_simp; rfl)
  simp only [List.nil_append, List.cons_append]
  refine Free2.Chain.ex ?_ 7 rfl [(6, 56)] [] (by kernel_rfl) (by kernel_rfl) rfl (Below.refl _) (fun X W v h => LL.skip h 7 v (by simp)) ?_ ?_
  rotate_left
  · (intro ev W hb hR hO hD; have hS := hF W hR; obtain ⟨hb1, hb2, hb3⟩ := hb; simp only [Free.AllDeps, Free.AllOuts, Free.At, List.getElem?_cons_succ, List.getElem?_cons_zero, Array.getD_eq_getD_getElem?, List.getElem?_toArray, Option.getD_some, and_true] at hO hD; go_simp; rfl)
  simp only [List.nil_append, List.cons_append]
  refine Free2.Chain.ex ?_ 8 rfl [(6, 56)] [] (by kernel_rfl) (by kernel_rfl) rfl (Below.refl _) (fun X W v h => LL.skip h 8 v (by simp)) ?_ ?_
  rotate_left
  · (intro ev W hb hR hO hD; have hS := hF W hR; obtain ⟨hb1, hb2, hb3⟩ := hb; simp only [Free.AllDeps, Free.AllOuts, Free.At, List.getElem?_cons_succ, List.getElem?_cons_zero, Array.getD_eq_getD_getElem?, List.getElem?_toArray, Option.getD_some, and_true] at hO hD; go_simp; rfl)
  simp only [List.nil_append, List.cons_append]
  refine Free2.Chain.pr (fun v _ => ∃ b, v = ptr b) 9 rfl [] [] (by kernel_rfl) (by kernel_rfl) rfl (fun _ _ _ _ h => h) ?_ ?_
  · (intro ev W X hb hR hO hD hj hx hax; have hS := hF W hR; obtain ⟨hb1, hb2, hb3⟩ := hb; simp only [Free.AllDeps, Free.AllOuts, Free.At, List.getElem?_cons_succ, List.getElem?_cons_zero, Array.getD_eq_getD_getElem?, List.getElem?_toArray, Option.getD_some, and_true] at hO hD; simp only [Free2.AllX, and_true] at hax; go_simp; exact ⟨(Below.refl _ W).alloc hj.size _, ⟨_, rfl⟩, hj.new ⟨9, 10, (.cells #[.int .i64 0, .int .i64 0] 29), (.cells #[.int .i64 p, .int .i64 q] 29)⟩ (by simp) (by simp) hx⟩)
  simp only [List.nil_append, List.cons_append]
  refine Free2.Chain.pr (fun _ _ => True) 10 rfl [(9, 16), (7, 63), (5, 62), (0, 57), (1, 58), (2, 59), (3, 60), (4, 61), (5, 62), (6, 56), (7, 63), (9, 16)] [] (by kernel_rfl) (by kernel_rfl) rfl (fun _ _ _ _ h => h) ?_ ?_
  · (intro ev W X hb hR hO hD hj hx hax; have hS := hF W hR; obtain ⟨hb1, hb2, hb3⟩ := hb; simp only [Free.AllDeps, Free.AllOuts, Free.At, List.getElem?_cons_succ, List.getElem?_cons_zero, Array.getD_eq_getD_getElem?, List.getElem?_toArray, Option.getD_some, and_true] at hO hD; simp only [Free2.AllX, and_true] at hax; obtain ⟨b, hb9, hs0, hbl⟩ := hj.at_ ⟨9, 10, (.cells #[.int .i64 0, .int .i64 0] 29), (.cells #[.int .i64 p, .int .i64 q] 29)⟩ (by simp) hax.1 hx; have hX := hax.1; rw [hb9] at hX; have hp := hj.puts ⟨9, 10, (.cells #[.int .i64 0, .int .i64 0] 29), (.cells #[.int .i64 p, .int .i64 q] 29)⟩ (by simp) (by simp) hX hs0 hbl [(0, .int .i64 p), (1, .int .i64 q)] rfl; have q0 : W.cell? ⟨b, 0, none⟩ = some (.int .i64 0) := cell_of_heap (o := 0) hbl rfl; have q1 : W.cell? ⟨b, 1, none⟩ = some (.int .i64 0) := cell_of_heap (o := 1) hbl rfl; have p0 : ∀ o, W.frozen? ⟨b, o, none⟩ = false := fun o => frozen_of_heap (o := o) hbl; go_simp; exact ⟨(hp undef).1, (hp _).2⟩)
  simp only [List.nil_append, List.cons_append]
  refine Free2.Chain.ex ?_ 11 rfl [(8, 64), (0, 57), (1, 58), (2, 59), (3, 60), (4, 61), (5, 62), (6, 56), (7, 63), (8, 64), (9, 16)] [] (by kernel_rfl) (by kernel_rfl) rfl (Below.refl _) (fun X W v h => LL.skip h 11 v (by simp)) ?_ ?_
  rotate_left
  · (intro ev W hb hR hO hD; have hS := hF W hR; obtain ⟨hb1, hb2, hb3⟩ := hb; simp only [Free.AllDeps, Free.AllOuts, Free.At, List.getElem?_cons_succ, List.getElem?_cons_zero, Array.getD_eq_getD_getElem?, List.getElem?_toArray, Option.getD_some, and_true] at hO hD; go_simp; rfl)
  simp only [List.nil_append, List.cons_append]
  intro xs w6 hR hV hX
  obtain ⟨X, hj, hxx⟩ := hX
  obtain ⟨b6, hp_b6, hs_b6, hl_b6⟩ := hj.done ⟨9, 10, (.cells #[.int .i64 0, .int .i64 0] 29), (.cells #[.int .i64 p, .int .i64 q] 29)⟩ (by simp) (hxx 9 (show (9 : Nat) < 12 by decide)) (hxx 10 (show (10 : Nat) < 12 by decide))
  simp only [Free.AllV, Free.At, List.length_cons, List.length_nil, Nat.reduceAdd, List.getElem?_cons_succ, List.getElem?_cons_zero, true_and, and_true] at hV
  simp only [Free.putsFrom, Act.put, Nat.zero_add, Nat.reduceAdd, hV, hp_b6, List.setIfInBounds_toArray, List.set_cons_succ, List.set_cons_zero]
  have hN := hF w6 hR
  have HB_w6 := Lib.hid (HB_w5.out.trans ((hN).mono hz_w5))
  have hz_w6 : bb ≤ w6.heap.size := Nat.le_trans hz_w5 (hN).size
  have FN : ∀ W, Free.Bel w6 W → W.cell? ⟨0, 0, none⟩ = some (dblF 130) ∧ W.cell? ⟨0, 1, none⟩ = some (dblF 131) ∧ W.cell? ⟨0, 2, none⟩ = some (dblF 132) ∧ bb ≤ W.heap.size ∧ W.cell? ⟨g20, 0, none⟩ = some (.int .i64 N) ∧ W.cell? ⟨g20, 1, none⟩ = some (.int .i64 0) ∧ W.cell? ⟨g20, 2, none⟩ = some (.int .i64 N) ∧ W.cell? ⟨b5, 0, none⟩ = some (.int .i64 p) ∧ W.cell? ⟨b5, 1, none⟩ = some (.int .i64 q) ∧ W.cell? ⟨b6, 0, none⟩ = some (.int .i64 p) ∧ W.cell? ⟨b6, 1, none⟩ = some (.int .i64 q) := fun W hW => by
    obtain ⟨a0, a1, a2, a3, a4, a5, a6, a7, a8⟩ := FA W (Free.Bel.trans _ _ _ (hN) hW)
    exact ⟨a0, a1, a2, a3, a4, a5, a6, a7, a8, keepsB hW (cell_of_heap (o := 0) hl_b6 rfl), keepsB hW (cell_of_heap (o := 1) hl_b6 rfl)⟩
  clear FA HB_w5 hz_w5 KR
  have FA := FN
  clear FN
  have KR : Free.Bel w6 w6 := Free.Bel.refl _
  clear hR hF hj hxx hV hN hp_b6 hs_b6 hl_b6
  go_wp2_with fail
  have hF : ∀ W, Below w6.heap.size w6.drew W → Free.Bel w6 W := fun W hW => (show Below w6.heap.size w6 W from ((Below.refl _ w6).drew).trans hW)
  refine Free2.wp_free (R := Below w6.heap.size) (J := LL w6.heap.size [⟨9, 10, (.cells #[.int .i64 0, .int .i64 0] 29), (.cells #[.int .i64 r, .int .i64 s] 29)⟩]) (by kernel_rfl) (by kernel_rfl) (Below.refl _) (fun _ _ _ => Below.trans) (LL.start (Nat.le_refl _)) ?_
  refine Free2.Chain.ex ?_ 0 rfl [] [10] (by kernel_rfl) (by kernel_rfl) rfl (Below.refl _) (fun X W v h => LL.skip h 0 v (by simp)) ?_ ?_
  rotate_left
  · (intro ev W hb hR hO hD; have hS := hF W hR; obtain ⟨hb1, hb2, hb3⟩ := hb; simp only [Free.AllDeps, Free.AllOuts, Free.At, List.getElem?_cons_succ, List.getElem?_cons_zero, Array.getD_eq_getD_getElem?, List.getElem?_toArray, Option.getD_some, and_true] at hO hD; go_simp; rfl)
  simp only [List.nil_append, List.cons_append]
  refine Free2.Chain.ex ?_ 1 rfl [] [11] (by kernel_rfl) (by kernel_rfl) rfl (Below.refl _) (fun X W v h => LL.skip h 1 v (by simp)) ?_ ?_
  rotate_left
  · (intro ev W hb hR hO hD; have hS := hF W hR; obtain ⟨hb1, hb2, hb3⟩ := hb; simp only [Free.AllDeps, Free.AllOuts, Free.At, List.getElem?_cons_succ, List.getElem?_cons_zero, Array.getD_eq_getD_getElem?, List.getElem?_toArray, Option.getD_some, and_true] at hO hD; go_simp; rfl)
  simp only [List.nil_append, List.cons_append]
  refine Free2.Chain.ex ?_ 2 rfl [] [12] (by kernel_rfl) (by kernel_rfl) rfl (Below.refl _) (fun X W v h => LL.skip h 2 v (by simp)) ?_ ?_
  rotate_left
  · (intro ev W hb hR hO hD; have hS := hF W hR; obtain ⟨hb1, hb2, hb3⟩ := hb; simp only [Free.AllDeps, Free.AllOuts, Free.At, List.getElem?_cons_succ, List.getElem?_cons_zero, Array.getD_eq_getD_getElem?, List.getElem?_toArray, Option.getD_some, and_true] at hO hD; go_simp; rfl)
  simp only [List.nil_append, List.cons_append]
  refine Free2.Chain.ex ?_ 3 rfl [] [13] (by kernel_rfl) (by kernel_rfl) rfl (Below.refl _) (fun X W v h => LL.skip h 3 v (by simp)) ?_ ?_
  rotate_left
  · (intro ev W hb hR hO hD; have hS := hF W hR; obtain ⟨hb1, hb2, hb3⟩ := hb; simp only [Free.AllDeps, Free.AllOuts, Free.At, List.getElem?_cons_succ, List.getElem?_cons_zero, Array.getD_eq_getD_getElem?, List.getElem?_toArray, Option.getD_some, and_true] at hO hD; go_simp; rfl)
  simp only [List.nil_append, List.cons_append]
  refine Free2.Chain.pr (fun v _ => v = i2 y z) 4 rfl [(2, 68), (3, 69)] [] (by kernel_rfl) (by kernel_rfl) rfl (fun _ _ _ _ h => h) ?_ ?_
  · (intro ev W X hb hR hO hD hj hx hax; have hS := hF W hR; obtain ⟨hb1, hb2, hb3⟩ := hb; simp only [Free.AllDeps, Free.AllOuts, Free.At, List.getElem?_cons_succ, List.getElem?_cons_zero, Array.getD_eq_getD_getElem?, List.getElem?_toArray, Option.getD_some, and_true] at hO hD; simp only [Free2.AllX, and_true] at hax; go_simp; refine yields_enter ?_; (with_reducible refine (drawn_any y z _).mono ?_); rintro e W2 ⟨rfl, hB2⟩; exact ⟨_, rfl, hB2.mono hj.size, rfl, (hj.bel hB2).skip 4 _ (by simp)⟩)
  simp only [List.nil_append, List.cons_append]
  refine Free2.Chain.pr (fun v _ => v = .tuple #[i2 r s, .int .i64 0]) 5 rfl [(0, 66), (1, 67), (4, 70), (4, 70)] [] (by kernel_rfl) (by kernel_rfl) rfl (fun _ _ _ _ h => h) ?_ ?_
  · (intro ev W X hb hR hO hD hj hx hax; have hS := hF W hR; obtain ⟨hb1, hb2, hb3⟩ := hb; simp only [Free.AllDeps, Free.AllOuts, Free.At, List.getElem?_cons_succ, List.getElem?_cons_zero, Array.getD_eq_getD_getElem?, List.getElem?_toArray, Option.getD_some, and_true] at hO hD; simp only [Free2.AllX, and_true] at hax; go_simp; refine yields_enter ?_; (with_reducible refine (atmost_ok N 0 N x y z r s _ (by omega) (by omega) (by omega) HR).mono ?_); rintro e W2 ⟨rfl, hB2⟩; exact ⟨_, rfl, hB2.mono hj.size, rfl, (hj.bel hB2).skip 5 _ (by simp)⟩)
  simp only [List.nil_append, List.cons_append]
  refine Free2.Chain.ex ?_ 6 rfl [(5, 71)] [] (by kernel_rfl) (by kernel_rfl) rfl (Below.refl _) (fun X W v h => LL.skip h 6 v (by simp)) ?_ ?_
  rotate_left
  · (intro ev W hb hR hO hD; have hS := hF W hR; obtain ⟨hb1, hb2, hb3⟩ := hb; simp only [Free.AllDeps, Free.AllOuts, Free.At, List.getElem?_cons_succ, List.getElem?_cons_zero, Array.getD_eq_getD_getElem?, List.getElem?_toArray, Option.getD_some, and_true] at hO hD; go_simp; rfl)
  simp only [List.nil_append, List.cons_append]
  refine Free2.Chain.ex ?_ 7 rfl [(6, 65)] [] (by kernel_rfl) (by kernel_rfl) rfl (Below.refl _) (fun X W v h => LL.skip h 7 v (by simp)) ?_ ?_
  rotate_left
  · (intro ev W hb hR hO hD; have hS := hF W hR; obtain ⟨hb1, hb2, hb3⟩ := hb; simp only [Free.AllDeps, Free.AllOuts, Free.At, List.getElem?_cons_succ, List.getElem?_cons_zero, Array.getD_eq_getD_getElem?, List.getElem?_toArray, Option.getD_some, and_true] at hO hD; go_simp; rfl)
  simp only [List.nil_append, List.cons_append]
  refine Free2.Chain.ex ?_ 8 rfl [(6, 65)] [] (by kernel_rfl) (by kernel_rfl) rfl (Below.refl _) (fun X W v h => LL.skip h 8 v (by simp)) ?_ ?_
  rotate_left
  · (intro ev W hb hR hO hD; have hS := hF W hR; obtain ⟨hb1, hb2, hb3⟩ := hb; simp only [Free.AllDeps, Free.AllOuts, Free.At, List.getElem?_cons_succ, List.getElem?_cons_zero, Array.getD_eq_getD_getElem?, List.getElem?_toArray, Option.getD_some, and_true] at hO hD; go_simp; rfl)
  simp only [List.nil_append, List.cons_append]
  refine Free2.Chain.pr (fun v _ => ∃ b, v = ptr b) 9 rfl [] [] (by kernel_rfl) (by kernel_rfl) rfl (fun _ _ _ _ h => h) ?_ ?_
  · (intro ev W X hb hR hO hD hj hx hax; have hS := hF W hR; obtain ⟨hb1, hb2, hb3⟩ := hb; simp only [Free.AllDeps, Free.AllOuts, Free.At, List.getElem?_cons_succ, List.getElem?_cons_zero, Array.getD_eq_getD_getElem?, List.getElem?_toArray, Option.getD_some, and_true] at hO hD; simp only [Free2.AllX, and_true] at hax; go_simp; exact ⟨(Below.refl _ W).alloc hj.size _, ⟨_, rfl⟩, hj.new ⟨9, 10, (.cells #[.int .i64 0, .int .i64 0] 29), (.cells #[.int .i64 r, .int .i64 s] 29)⟩ (by simp) (by simp) hx⟩)
  simp only [List.nil_append, List.cons_append]
  refine Free2.Chain.pr (fun _ _ => True) 10 rfl [(9, 18), (7, 72), (5, 71), (0, 66), (1, 67), (2, 68), (3, 69), (4, 70), (5, 71), (6, 65), (7, 72), (9, 18)] [] (by kernel_rfl) (by kernel_rfl) rfl (fun _ _ _ _ h => h) ?_ ?_
  · (intro ev W X hb hR hO hD hj hx hax; have hS := hF W hR; obtain ⟨hb1, hb2, hb3⟩ := hb; simp only [Free.AllDeps, Free.AllOuts, Free.At, List.getElem?_cons_succ, List.getElem?_cons_zero, Array.getD_eq_getD_getElem?, List.getElem?_toArray, Option.getD_some, and_true] at hO hD; simp only [Free2.AllX, and_true] at hax; obtain ⟨b, hb9, hs0, hbl⟩ := hj.at_ ⟨9, 10, (.cells #[.int .i64 0, .int .i64 0] 29), (.cells #[.int .i64 r, .int .i64 s] 29)⟩ (by simp) hax.1 hx; have hX := hax.1; rw [hb9] at hX; have hp := hj.puts ⟨9, 10, (.cells #[.int .i64 0, .int .i64 0] 29), (.cells #[.int .i64 r, .int .i64 s] 29)⟩ (by simp) (by simp) hX hs0 hbl [(0, .int .i64 r), (1, .int .i64 s)] rfl; have q0 : W.cell? ⟨b, 0, none⟩ = some (.int .i64 0) := cell_of_heap (o := 0) hbl rfl; have q1 : W.cell? ⟨b, 1, none⟩ = some (.int .i64 0) := cell_of_heap (o := 1) hbl rfl; have p0 : ∀ o, W.frozen? ⟨b, o, none⟩ = false := fun o => frozen_of_heap (o := o) hbl; go_simp; exact ⟨(hp undef).1, (hp _).2⟩)
  simp only [List.nil_append, List.cons_append]
  refine Free2.Chain.ex ?_ 11 rfl [(8, 73), (0, 66), (1, 67), (2, 68), (3, 69), (4, 70), (5, 71), (6, 65), (7, 72), (8, 73), (9, 18)] [] (by kernel_rfl) (by kernel_rfl) rfl (Below.refl _) (fun X W v h => LL.skip h 11 v (by simp)) ?_ ?_
  rotate_left
  · (intro ev W hb hR hO hD; have hS := hF W hR; obtain ⟨hb1, hb2, hb3⟩ := hb; simp only [Free.AllDeps, Free.AllOuts, Free.At, List.getElem?_cons_succ, List.getElem?_cons_zero, Array.getD_eq_getD_getElem?, List.getElem?_toArray, Option.getD_some, and_true] at hO hD; go_simp; rfl)
  simp only [List.nil_append, List.cons_append]
  intro xs w7 hR hV hX
  obtain ⟨X, hj, hxx⟩ := hX
  obtain ⟨b7, hp_b7, hs_b7, hl_b7⟩ := hj.done ⟨9, 10, (.cells #[.int .i64 0, .int .i64 0] 29), (.cells #[.int .i64 r, .int .i64 s] 29)⟩ (by simp) (hxx 9 (show (9 : Nat) < 12 by decide)) (hxx 10 (show (10 : Nat) < 12 by decide))
  simp only [Free.AllV, Free.At, List.length_cons, List.length_nil, Nat.reduceAdd, List.getElem?_cons_succ, List.getElem?_cons_zero, true_and, and_true] at hV
  simp only [Free.putsFrom, Act.put, Nat.zero_add, Nat.reduceAdd, hV, hp_b7, List.setIfInBounds_toArray, List.set_cons_succ, List.set_cons_zero]
  have hN := hF w7 hR
  have HB_w7 := Lib.hid (HB_w6.out.trans ((hN).mono hz_w6))
  have hz_w7 : bb ≤ w7.heap.size := Nat.le_trans hz_w6 (hN).size
  have FN : ∀ W, Free.Bel w7 W → W.cell? ⟨0, 0, none⟩ = some (dblF 130) ∧ W.cell? ⟨0, 1, none⟩ = some (dblF 131) ∧ W.cell? ⟨0, 2, none⟩ = some (dblF 132) ∧ bb ≤ W.heap.size ∧ W.cell? ⟨g20, 0, none⟩ = some (.int .i64 N) ∧ W.cell? ⟨g20, 1, none⟩ = some (.int .i64 0) ∧ W.cell? ⟨g20, 2, none⟩ = some (.int .i64 N) ∧ W.cell? ⟨b5, 0, none⟩ = some (.int .i64 p) ∧ W.cell? ⟨b5, 1, none⟩ = some (.int .i64 q) ∧ W.cell? ⟨b6, 0, none⟩ = some (.int .i64 p) ∧ W.cell? ⟨b6, 1, none⟩ = some (.int .i64 q) ∧ W.cell? ⟨b7, 0, none⟩ = some (.int .i64 r) ∧ W.cell? ⟨b7, 1, none⟩ = some (.int .i64 s) := fun W hW => by
    obtain ⟨a0, a1, a2, a3, a4, a5, a6, a7, a8, a9, a10⟩ := FA W (Free.Bel.trans _ _ _ (hN) hW)
    exact ⟨a0, a1, a2, a3, a4, a5, a6, a7, a8, a9, a10, keepsB hW (cell_of_heap (o := 0) hl_b7 rfl), keepsB hW (cell_of_heap (o := 1) hl_b7 rfl)⟩
  clear FA HB_w6 hz_w6 KR
  have FA := FN
  clear FN
  have KR : Free.Bel w7 w7 := Free.Bel.refl _
  clear hR hF hj hxx hV hN hp_b7 hs_b7 hl_b7
  go_wp2_with fail
  have hF : ∀ W, Below w7.heap.size w7.drew W → Free.Bel w7 W := fun W hW => (show Below w7.heap.size w7 W from ((Below.refl _ w7).drew).trans hW)
  refine Free2.wp_free (R := Below w7.heap.size) (J := LL w7.heap.size [⟨9, 10, (.cells #[.int .i64 0, .int .i64 0] 29), (.cells #[.int .i64 r, .int .i64 s] 29)⟩]) (by kernel_rfl) (by kernel_rfl) (Below.refl _) (fun _ _ _ => Below.trans) (LL.start (Nat.le_refl _)) ?_
  refine Free2.Chain.ex ?_ 0 rfl [] [10] (by kernel_rfl) (by kernel_rfl) rfl (Below.refl _) (fun X W v h => LL.skip h 0 v (by simp)) ?_ ?_
  rotate_left
  · (intro ev W hb hR hO hD; have hS := hF W hR; obtain ⟨hb1, hb2, hb3⟩ := hb; simp only [Free.AllDeps, Free.AllOuts, Free.At, List.getElem?_cons_succ, List.getElem?_cons_zero, Array.getD_eq_getD_getElem?, List.getElem?_toArray, Option.getD_some, and_true] at hO hD; go_simp; rfl)
  simp only [List.nil_append, List.cons_append]
  refine Free2.Chain.ex ?_ 1 rfl [] [12] (by kernel_rfl) (by kernel_rfl) rfl (Below.refl _) (fun X W v h => LL.skip h 1 v (by simp)) ?_ ?_
  rotate_left
  · (intro ev W hb hR hO hD; have hS := hF W hR; obtain ⟨hb1, hb2, hb3⟩ := hb; simp only [Free.AllDeps, Free.AllOuts, Free.At, List.getElem?_cons_succ, List.getElem?_cons_zero, Array.getD_eq_getD_getElem?, List.getElem?_toArray, Option.getD_some, and_true] at hO hD; go_simp; rfl)
  simp only [List.nil_append, List.cons_append]
  refine Free2.Chain.ex ?_ 2 rfl [] [11] (by kernel_rfl) (by kernel_rfl) rfl (Below.refl _) (fun X W v h => LL.skip h 2 v (by simp)) ?_ ?_
  rotate_left
  · (intro ev W hb hR hO hD; have hS := hF W hR; obtain ⟨hb1, hb2, hb3⟩ := hb; simp only [Free.AllDeps, Free.AllOuts, Free.At, List.getElem?_cons_succ, List.getElem?_cons_zero, Array.getD_eq_getD_getElem?, List.getElem?_toArray, Option.getD_some, and_true] at hO hD; go_simp; rfl)
  simp only [List.nil_append, List.cons_append]
  refine Free2.Chain.ex ?_ 3 rfl [] [13] (by kernel_rfl) (by kernel_rfl) rfl (Below.refl _) (fun X W v h => LL.skip h 3 v (by simp)) ?_ ?_
  rotate_left
  · (intro ev W hb hR hO hD; have hS := hF W hR; obtain ⟨hb1, hb2, hb3⟩ := hb; simp only [Free.AllDeps, Free.AllOuts, Free.At, List.getElem?_cons_succ, List.getElem?_cons_zero, Array.getD_eq_getD_getElem?, List.getElem?_toArray, Option.getD_some, and_true] at hO hD; go_simp; rfl)
  simp only [List.nil_append, List.cons_append]
  refine Free2.Chain.pr (fun v _ => v = i2 x z) 4 rfl [(2, 77), (3, 78)] [] (by kernel_rfl) (by kernel_rfl) rfl (fun _ _ _ _ h => h) ?_ ?_
  · (intro ev W X hb hR hO hD hj hx hax; have hS := hF W hR; obtain ⟨hb1, hb2, hb3⟩ := hb; simp only [Free.AllDeps, Free.AllOuts, Free.At, List.getElem?_cons_succ, List.getElem?_cons_zero, Array.getD_eq_getD_getElem?, List.getElem?_toArray, Option.getD_some, and_true] at hO hD; simp only [Free2.AllX, and_true] at hax; go_simp; refine yields_enter ?_; (with_reducible refine (drawn_any x z _).mono ?_); rintro e W2 ⟨rfl, hB2⟩; exact ⟨_, rfl, hB2.mono hj.size, rfl, (hj.bel hB2).skip 4 _ (by simp)⟩)
  simp only [List.nil_append, List.cons_append]
  refine Free2.Chain.pr (fun v _ => v = .tuple #[i2 r s, .int .i64 0]) 5 rfl [(0, 75), (1, 76), (4, 79), (4, 79)] [] (by kernel_rfl) (by kernel_rfl) rfl (fun _ _ _ _ h => h) ?_ ?_
  · (intro ev W X hb hR hO hD hj hx hax; have hS := hF W hR; obtain ⟨hb1, hb2, hb3⟩ := hb; simp only [Free.AllDeps, Free.AllOuts, Free.At, List.getElem?_cons_succ, List.getElem?_cons_zero, Array.getD_eq_getD_getElem?, List.getElem?_toArray, Option.getD_some, and_true] at hO hD; simp only [Free2.AllX, and_true] at hax; go_simp; refine yields_enter ?_; (with_reducible refine (atmost_ok N 0 N y x z r s _ (by omega) (by omega) (by omega) HR2).mono ?_); rintro e W2 ⟨rfl, hB2⟩; exact ⟨_, rfl, hB2.mono hj.size, rfl, (hj.bel hB2).skip 5 _ (by simp)⟩)
  simp only [List.nil_append, List.cons_append]
  refine Free2.Chain.ex ?_ 6 rfl [(5, 80)] [] (by kernel_rfl) (by kernel_rfl) rfl (Below.refl _) (fun X W v h => LL.skip h 6 v (by simp)) ?_ ?_
  rotate_left
  · (intro ev W hb hR hO hD; have hS := hF W hR; obtain ⟨hb1, hb2, hb3⟩ := hb; simp only [Free.AllDeps, Free.AllOuts, Free.At, List.getElem?_cons_succ, List.getElem?_cons_zero, Array.getD_eq_getD_getElem?, List.getElem?_toArray, Option.getD_some, and_true] at hO hD; go_simp; rfl)
  simp only [List.nil_append, List.cons_append]
  refine Free2.Chain.ex ?_ 7 rfl [(6, 74)] [] (by kernel_rfl) (by kernel_rfl) rfl (Below.refl _) (fun X W v h => LL.skip h 7 v (by simp)) ?_ ?_
  rotate_left
  · (intro ev W hb hR hO hD; have hS := hF W hR; obtain ⟨hb1, hb2, hb3⟩ := hb; simp only [Free.AllDeps, Free.AllOuts, Free.At, List.getElem?_cons_succ, List.getElem?_cons_zero, Array.getD_eq_getD_getElem?, List.getElem?_toArray, Option.getD_some, and_true] at hO hD; go_simp; rfl)
  simp only [List.nil_append, List.cons_append]
  refine Free2.Chain.ex ?_ 8 rfl [(6, 74)] [] (by kernel_rfl) (by kernel_rfl) rfl (Below.refl _) (fun X W v h => LL.skip h 8 v (by simp)) ?_ ?_
  rotate_left
  · (intro ev W hb hR hO hD; have hS := hF W hR; obtain ⟨hb1, hb2, hb3⟩ := hb; simp only [Free.AllDeps, Free.AllOuts, Free.At, List.getElem?_cons_succ, List.getElem?_cons_zero, Array.getD_eq_getD_getElem?, List.getElem?_toArray, Option.getD_some, and_true] at hO hD; go_simp; rfl)
  simp only [List.nil_append, List.cons_append]
  refine Free2.Chain.pr (fun v _ => ∃ b, v = ptr b) 9 rfl [] [] (by kernel_rfl) (by kernel_rfl) rfl (fun _ _ _ _ h => h) ?_ ?_
  · (intro ev W X hb hR hO hD hj hx hax; have hS := hF W hR; obtain ⟨hb1, hb2, hb3⟩ := hb; simp only [Free.AllDeps, Free.AllOuts, Free.At, List.getElem?_cons_succ, List.getElem?_cons_zero, Array.getD_eq_getD_getElem?, List.getElem?_toArray, Option.getD_some, and_true] at hO hD; simp only [Free2.AllX, and_true] at hax; go_simp; exact ⟨(Below.refl _ W).alloc hj.size _, ⟨_, rfl⟩, hj.new ⟨9, 10, (.cells #[.int .i64 0, .int .i64 0] 29), (.cells #[.int .i64 r, .int .i64 s] 29)⟩ (by simp) (by simp) hx⟩)
  simp only [List.nil_append, List.cons_append]
  refine Free2.Chain.pr (fun _ _ => True) 10 rfl [(9, 20), (7, 81), (5, 80), (0, 75), (1, 76), (2, 77), (3, 78), (4, 79), (5, 80), (6, 74), (7, 81), (9, 20)] [] (by kernel_rfl) (by kernel_rfl) rfl (fun _ _ _ _ h => h) ?_ ?_
  · (intro ev W X hb hR hO hD hj hx hax; have hS := hF W hR; obtain ⟨hb1, hb2, hb3⟩ := hb; simp only [Free.AllDeps, Free.AllOuts, Free.At, List.getElem?_cons_succ, List.getElem?_cons_zero, Array.getD_eq_getD_getElem?, List.getElem?_toArray, Option.getD_some, and_true] at hO hD; simp only [Free2.AllX, and_true] at hax; obtain ⟨b, hb9, hs0, hbl⟩ := hj.at_ ⟨9, 10, (.cells #[.int .i64 0, .int .i64 0] 29), (.cells #[.int .i64 r, .int .i64 s] 29)⟩ (by simp) hax.1 hx; have hX := hax.1; rw [hb9] at hX; have hp := hj.puts ⟨9, 10, (.cells #[.int .i64 0, .int .i64 0] 29), (.cells #[.int .i64 r, .int .i64 s] 29)⟩ (by simp) (by simp) hX hs0 hbl [(0, .int .i64 r), (1, .int .i64 s)] rfl; have q0 : W.cell? ⟨b, 0, none⟩ = some (.int .i64 0) := cell_of_heap (o := 0) hbl rfl; have q1 : W.cell? ⟨b, 1, none⟩ = some (.int .i64 0) := cell_of_heap (o := 1) hbl rfl; have p0 : ∀ o, W.frozen? ⟨b, o, none⟩ = false := fun o => frozen_of_heap (o := o) hbl; go_simp; exact ⟨(hp undef).1, (hp _).2⟩)
  simp only [List.nil_append, List.cons_append]
  refine Free2.Chain.ex ?_ 11 rfl [(8, 82), (0, 75), (1, 76), (2, 77), (3, 78), (4, 79), (5, 80), (6, 74), (7, 81), (8, 82), (9, 20)] [] (by kernel_rfl) (by kernel_rfl) rfl (Below.refl _) (fun X W v h => LL.skip h 11 v (by simp)) ?_ ?_
  rotate_left
  · (intro ev W hb hR hO hD; have hS := hF W hR; obtain ⟨hb1, hb2, hb3⟩ := hb; simp only [Free.AllDeps, Free.AllOuts, Free.At, List.getElem?_cons_succ, List.getElem?_cons_zero, Array.getD_eq_getD_getElem?, List.getElem?_toArray, Option.getD_some, and_true] at hO hD; go_simp; rfl)
  simp only [List.nil_append, List.cons_append]
  intro xs w8 hR hV hX
  obtain ⟨X, hj, hxx⟩ := hX
  obtain ⟨b8, hp_b8, hs_b8, hl_b8⟩ := hj.done ⟨9, 10, (.cells #[.int .i64 0, .int .i64 0] 29), (.cells #[.int .i64 r, .int .i64 s] 29)⟩ (by simp) (hxx 9 (show (9 : Nat) < 12 by decide)) (hxx 10 (show (10 : Nat) < 12 by decide))
  simp only [Free.AllV, Free.At, List.length_cons, List.length_nil, Nat.reduceAdd, List.getElem?_cons_succ, List.getElem?_cons_zero, true_and, and_true] at hV
  simp only [Free.putsFrom, Act.put, Nat.zero_add, Nat.reduceAdd, hV, hp_b8, List.setIfInBounds_toArray, List.set_cons_succ, List.set_cons_zero]
  have hN := hF w8 hR
  have HB_w8 := Lib.hid (HB_w7.out.trans ((hN).mono hz_w7))
  have hz_w8 : bb ≤ w8.heap.size := Nat.le_trans hz_w7 (hN).size
  have FN : ∀ W, Free.Bel w8 W → W.cell? ⟨0, 0, none⟩ = some (dblF 130) ∧ W.cell? ⟨0, 1, none⟩ = some (dblF 131) ∧ W.cell? ⟨0, 2, none⟩ = some (dblF 132) ∧ bb ≤ W.heap.size ∧ W.cell? ⟨g20, 0, none⟩ = some (.int .i64 N) ∧ W.cell? ⟨g20, 1, none⟩ = some (.int .i64 0) ∧ W.cell? ⟨g20, 2, none⟩ = some (.int .i64 N) ∧ W.cell? ⟨b5, 0, none⟩ = some (.int .i64 p) ∧ W.cell? ⟨b5, 1, none⟩ = some (.int .i64 q) ∧ W.cell? ⟨b6, 0, none⟩ = some (.int .i64 p) ∧ W.cell? ⟨b6, 1, none⟩ = some (.int .i64 q) ∧ W.cell? ⟨b7, 0, none⟩ = some (.int .i64 r) ∧ W.cell? ⟨b7, 1, none⟩ = some (.int .i64 s) ∧ W.cell? ⟨b8, 0, none⟩ = some (.int .i64 r) ∧ W.cell? ⟨b8, 1, none⟩ = some (.int .i64 s) := fun W hW => by
    obtain ⟨a0, a1, a2, a3, a4, a5, a6, a7, a8, a9, a10, a11, a12⟩ := FA W (Free.Bel.trans _ _ _ (hN) hW)
    exact ⟨a0, a1, a2, a3, a4, a5, a6, a7, a8, a9, a10, a11, a12, keepsB hW (cell_of_heap (o := 0) hl_b8 rfl), keepsB hW (cell_of_heap (o := 1) hl_b8 rfl)⟩
  clear FA HB_w7 hz_w7 KR
  have FA := FN
  clear FN
  have KR : Free.Bel w8 w8 := Free.Bel.refl _
  clear hR hF hj hxx hV hN hp_b8 hs_b8 hl_b8
  go_wp2_with fail
  go_ret
  have hbb := HBB.out
  subst hbb
  exact ⟨rfl, HB_w8.out⟩
end Go.Proofs.YtdiclofeggkjcaaDoor

/- For every input the law SampleSwap returns true, and its arguments read behind the call as they read before; what a double rule is asked lies in the table as the program's text lays it (tied). Condition: that table. -/
namespace Go.Proofs.YtdiclofeggkjcaaDoor.lawSampleSwap
open Go Go.ChangeShapes Go.WideShapes Go.ChangeAt Go.RowKit
set_option linter.unusedVariables false
set_option linter.unusedSimpArgs false

set_option maxRecDepth 100000 in
theorem contract (H : Type) (enc : TypeId × Value → H) (W : World) (base : Nat) (args : Array Value) (ds gs : List (DataW H)) (before : List MemPlace)
    (hval : ∀ (j : Nat) t v, Tryd.f3.params[j]? = some t → args[j]? = some v → Value.okWide Tryd.prog W .any base t v)
    (hW : DataW.Whole enc Tryd.prog Tryd.f3.params.toList Rows.sampleSwapSpec.vars false W args.toList ds gs before) (hL : laidMetH Tryd.prog Rows.sampleSwapRow.laid W) :
    Calls Tryd.prog 3 args W fun e W' => ∃ v, e = .returned v ∧ Rows.sampleSwapSpec.post enc Tryd.prog Tryd.f3 false true false false W args v W' := by
  have hW' := hW
  obtain ⟨p, q, hA0, hV, rfl, hfz, hnd⟩ := hW
  have hA : DataW.TrodAll enc Tryd.prog W 0 (fun _ => true) true Tryd.f3.params.toList args.toList ds p := hA0
  have hAk := hA
  rw [Tryd.params3] at hA hval
  obtain ⟨v0, vs0, d0, ds0, p0, q0, hargs, rfl, rfl, h0, r0⟩ := trodAll_cons hA
  obtain ⟨v1, vs1, d1, ds1, p1, q1, rfl, rfl, rfl, h1, r1⟩ := trodAll_cons r0
  obtain ⟨v2, vs2, d2, ds2, p2, q2, rfl, rfl, rfl, h2, r2⟩ := trodAll_cons r1
  obtain ⟨v3, vs3, d3, ds3, p3, q3, rfl, rfl, rfl, h3, r3⟩ := trodAll_cons r2
  obtain ⟨rfl, rfl, rfl⟩ := trodAll_nil r3
  obtain rfl : args = #[v0, v1, v2, v3] := by cases args; simp_all
  obtain ⟨rfl, rfl⟩ := trodVars_none hV
  have hlt : ∀ x ∈ p0 ++ (p1 ++ (p2 ++ (p3 ++ ([])))), x.block < W.heap.size := fun x hx => by
    have := hW'.lt x (by simpa using hx)
    simpa using this
  obtain ⟨n, rfl, _, hwf0⟩ := open_int Tryd.underlying5 (hval 0 5 _ rfl rfl) h0
  obtain ⟨d, rfl, _, hwf1⟩ := open_int Tryd.underlying5 (hval 1 5 _ rfl rfl) h1
  obtain ⟨o, rfl, _, hwf2⟩ := open_int Tryd.underlying5 (hval 2 5 _ rfl rfl) h2
  obtain ⟨k, rfl, _, hwf3⟩ := open_int Tryd.underlying5 (hval 3 5 _ rfl rfl) h3
  refine (swap_walk n d o k W (Tab.of_laid hL) (u8_wf hwf0.2) (u8_wf hwf1.2) (u8_wf hwf2.2) (u8_wf hwf3.2)).mono fun e W' ⟨he, hg⟩ => ?_
  subst he
  refine ⟨_, rfl, _, _, _, [], p0 ++ (p1 ++ (p2 ++ (p3 ++ ([])))), [], hW', ?_, ?_, ?_, hg.frame _, fun h => by cases h⟩
  · exact trodAll_cons_mk (shut_bool Tryd.underlying4 true) trodAll_mk0
  · exact Law.args_below Tab.laidOut (by kernel_rfl) hg hAk hlt
  · rfl

set_option maxRecDepth 100000 in
theorem lifted (os : Os) (started : os.Started) (H : Type) (enc : TypeId × Value → H) :
    ReturnsInHanded {} Tryd.checked os 3 .any (fun w args => (Rows.sampleSwapSpec.pre enc Tryd.prog Tryd.f3 [] false w args ∧ laidMetH Tryd.prog Rows.sampleSwapRow.laid w) ∧ sizedMet enc Tryd.prog Tryd.f3 (OpenSpec.ofChange Rows.sampleSwapSpec) false w args) (Rows.sampleSwapSpec.post enc Tryd.prog Tryd.f3 false true false false) := by
  refine returnsInHanded_of_change_and (C := Tryd.checked) (X := fun w _ => laidMetH Tryd.prog Rows.sampleSwapRow.laid w) (fun _ _ _ hh h => h.of_heap hh) Tab.own started (by kernel_rfl) Tryd.func3
    (ChangeSpec.witness_shaped (enc := enc) (C := Tryd.checked) (os := os) (X := fun w _ => laidMetH Tryd.prog Rows.sampleSwapRow.laid w) false (World.doorLaid Tryd.prog 17 os) #[.int .u8 0, .int .u8 0, .int .u8 0, .int .u8 0] 8 rfl (World.shaped_of_RefB (by kernel_rfl) (by kernel_rfl)) (by kernel_rfl) (by kernel_rfl) (by kernel_rfl) (Tab.door_met os _)) ?_
  intro W base args ds gs before hval hW _ _ hL _
  exact contract H enc W base args ds gs before hval hW hL

theorem said : Rows.SampleSwapSaid :=
  OpenClaim.holds_of_wide 3 Tryd.f3 rfl rfl rfl rfl rfl rfl rfl ⟨rfl, rfl, rfl, rfl, rfl⟩ rfl rfl rfl rfl rfl (by kernel_rfl) Tryd.func3 (by kernel_rfl)
    (of_decide_eq_true (by kernel_rfl)) (by unfold Func.isWrapper; first | (rw [if_pos (by decide +kernel)]; kernel_rfl) | (rw [if_neg (by decide +kernel)]; exact ⟨rfl, rfl⟩))
    (fun os started H enc _ => lifted os started H enc)

theorem plain (f : FuncId) (fn : Func) (hf : Tryd.pinned.checked.prog.funcNamed "oilcake/oilcakelaw01.SampleSwap" = some f) (hfn : Tryd.pinned.checked.prog.funcs[f]? = some fn) :
    false = Tryd.pinned.checked.prog.looks [] ∧ ∀ (j : Nat) t, fn.params[j]? = some t → Tryd.pinned.checked.prog.wantsStandIn t = false := by
  obtain rfl : f = 3 := Option.some.inj ((show Tryd.prog.funcNamed "oilcake/oilcakelaw01.SampleSwap" = some 3 by kernel_rfl).symm.trans hf) |>.symm
  obtain rfl : fn = Tryd.f3 := (Option.some.inj (Tryd.func3.symm.trans hfn)).symm
  refine ⟨by kernel_rfl, fun j t ht => ?_⟩
  rw [Tryd.params3] at ht
  have hm := Array.mem_of_getElem? ht
  have hall : (Tryd.f3.params.toList.all fun u => !Tryd.prog.wantsStandIn u) = true := by kernel_rfl
  rw [Tryd.params3] at hall
  exact (show Tryd.prog.wantsStandIn t = false by simpa using List.all_eq_true.1 hall t (by simpa using hm))

theorem card : Rows.SampleSwapCardSaid :=
  Claim7.holds_tied_plain_at .later [] _ _ _ _ said (fun _ h => by cases h) (by kernel_rfl) (fun _ h => by cases h) sampleSwap_row_tie rfl ⟨rfl, rfl⟩ (by kernel_rfl) rfl plain (by kernel_rfl)
#print axioms card
end Go.Proofs.YtdiclofeggkjcaaDoor.lawSampleSwap

