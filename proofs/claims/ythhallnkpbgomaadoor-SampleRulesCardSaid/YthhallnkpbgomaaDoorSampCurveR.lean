/- The reference's Curve. -/
import Derived.Test.YthhallnkpbgomaaDoorSampCurve
import Derived.Test.YthhallnkpbgomaaDoorSampRRef
import Derived.Test.YthhallnkpbgomaaDoorLocB
namespace Go.Proofs.YthhallnkpbgomaaDoor
set_option linter.unusedSimpArgs false
set_option linter.unusedVariables false
open Go.RowKit Go.Proofs.YthhallnkpbgomaaDoor.ML Go.Proofs.YthhallnkpbgomaaDoor.Samp

theorem mostP_few (N D o f : Int) (hf : 0 ≤ f) (hfo : f ≤ o) {p q : Int} (h : partP N D o f = (p, q)) : partV (fewI N D o (f + 1).toNat).toNat (chI N o).toNat = .agg #[.int .i64 p, .int .i64 q] := by
  rw [← mostI_few N D o f hf hfo]; exact partP_val h
/-- What is returned. -/
def CurveIs (N lo hi o a : Int) (e : Ending) (w : World) : Prop :=
  if cargoB N lo hi = false then e = .returned (.tuple #[.slice none 0 0, .int .i64 10]) else
  if drawB N o a = false then e = .returned (.tuple #[.slice none 0 0, .int .i64 13]) else
  ∃ v, e = .returned (.tuple #[v, .int .i64 0]) ∧ PL (curveL N lo o a (hi - lo + 1).toNat) v w
theorem curve_any (N lo hi o a : Int) (w : World) :
    Calls Tryd.prog 17 #[.agg #[.int .i64 N, .int .i64 lo, .int .i64 hi], .agg #[.int .i64 o, .int .i64 a]] w fun e w' => CurveIs N lo hi o a e w' ∧ Below w.heap.size w w' := by
  cases hc : cargoB N lo hi
  · exact (curve_a N lo hi o a w hc).mono fun e w' ⟨h1, h2⟩ => ⟨by rw [CurveIs, if_pos hc]; exact h1, h2⟩
  · cases hd : drawB N o a
    · exact (curve_b N lo hi o a w hc hd).mono fun e w' ⟨h1, h2⟩ => ⟨by rw [CurveIs, if_neg (by simp [hc]), if_pos hd]; exact h1, h2⟩
    · exact (curve_c N lo hi o a w hc hd).mono fun e w' ⟨h1, h2⟩ => ⟨by rw [CurveIs, if_neg (by simp [hc]), if_neg (by simp [hd])]; exact h1, h2⟩

theorem below_grown {base n size : Nat} {e : TypeId} {v : Value} {xs : List Value} {w w' : World} (hown : w.ownsRow base e size v n xs) (h : w.grownBy w' v.ownBlock) (hb : base ≤ w.heap.size) : Below base w w' := by
  refine (Below.refl _ _).grown h hb fun k hk => ?_
  rcases hown.2 with ⟨rfl, _⟩ | ⟨g, cap, cur, rfl, hbg, _⟩
  · simp [Value.ownBlock] at hk
  · simp [Value.ownBlock] at hk; omega

set_option maxRecDepth 100000 in
set_option maxHeartbeats 2000000 in
theorem curveR_any (N lo hi o a : Int) (w : World) :
    Calls Tryd.prog 18 #[.agg #[.int .i64 N, .int .i64 lo, .int .i64 hi], .agg #[.int .i64 o, .int .i64 a]] w fun e w' => CurveIs N lo hi o a e w' ∧ Below w.heap.size w w' := by
  have hB0 : Below w.heap.size w ((w.alloc (.cells #[.int .i64 N, .int .i64 lo, .int .i64 hi] 25)).alloc (.cells #[.int .i64 o, .int .i64 a] 27)) := ((Below.refl _ w).alloc (Nat.le_refl _) _).alloc (by simp) _
  have c0_0 : ((w.alloc (.cells #[.int .i64 N, .int .i64 lo, .int .i64 hi] 25)).alloc (.cells #[.int .i64 o, .int .i64 a] 27)).cell? ⟨w.heap.size, 0, none⟩ = some (.int .i64 N) := by simp [go_sem]
  have c0_1 : ((w.alloc (.cells #[.int .i64 N, .int .i64 lo, .int .i64 hi] 25)).alloc (.cells #[.int .i64 o, .int .i64 a] 27)).cell? ⟨w.heap.size, 1, none⟩ = some (.int .i64 lo) := by simp [go_sem]
  have c0_2 : ((w.alloc (.cells #[.int .i64 N, .int .i64 lo, .int .i64 hi] 25)).alloc (.cells #[.int .i64 o, .int .i64 a] 27)).cell? ⟨w.heap.size, 2, none⟩ = some (.int .i64 hi) := by simp [go_sem]
  have c1_0 : ((w.alloc (.cells #[.int .i64 N, .int .i64 lo, .int .i64 hi] 25)).alloc (.cells #[.int .i64 o, .int .i64 a] 27)).cell? ⟨w.heap.size + 1, 0, none⟩ = some (.int .i64 o) := by simp [go_sem]
  have c1_1 : ((w.alloc (.cells #[.int .i64 N, .int .i64 lo, .int .i64 hi] 25)).alloc (.cells #[.int .i64 o, .int .i64 a] 27)).cell? ⟨w.heap.size + 1, 1, none⟩ = some (.int .i64 a) := by simp [go_sem]
  cases hc : cargoB N lo hi
  · have HC := Lib.hid hc
    clear hc
    go_enter Tryd.func18, Tryd.ntmps18
    go_wp2_with fail
    refine (cargoR_any N lo hi false _ HC.out).mono ?_
    rintro e w1 ⟨rfl, hB1⟩
    have K_w1 : Free.Bel ((w.alloc (.cells #[.int .i64 N, .int .i64 lo, .int .i64 hi] 25)).alloc (.cells #[.int .i64 o, .int .i64 a] 27)) w1 := by
      refine Free.Bel.trans _ _ _ ?_ hB1
      repeat (first | exact Free.Bel.refl _ | refine Bel.allocT ?_ _ | refine Bel.drewT ?_)
    clear hB1
    have hq : w.heap.size + 2 = ((w.alloc (.cells #[.int .i64 N, .int .i64 lo, .int .i64 hi] 25)).alloc (.cells #[.int .i64 o, .int .i64 a] 27)).heap.size := by simp
    generalize ((w.alloc (.cells #[.int .i64 N, .int .i64 lo, .int .i64 hi] 25)).alloc (.cells #[.int .i64 o, .int .i64 a] 27)) = W0 at *
    generalize hbb : w.heap.size = bb at *
    have HBB := Lib.hid hbb
    clear hbb
    have HB0 := Lib.hid hB0
    have hq0 : bb + 2 ≤ W0.heap.size := by omega
    clear hB0 hq
    have FA : ∀ W, Free.Bel W0 W → W.cell? ⟨bb, 0, none⟩ = some (.int .i64 N) ∧ W.cell? ⟨bb, 1, none⟩ = some (.int .i64 lo) ∧ W.cell? ⟨bb, 2, none⟩ = some (.int .i64 hi) ∧ W.cell? ⟨bb + 1, 0, none⟩ = some (.int .i64 o) ∧ W.cell? ⟨bb + 1, 1, none⟩ = some (.int .i64 a) ∧ bb + 2 ≤ W.heap.size := fun W hW => ⟨keepsB hW c0_0, keepsB hW c0_1, keepsB hW c0_2, keepsB hW c1_0, keepsB hW c1_1, Nat.le_trans hq0 hW.size⟩
    clear c0_0 c0_1 c0_2 c1_0 c1_1
    go_wp2_with fail
    have hbb := HBB.out
    subst hbb
    exact bodyPost_ret (v := .tuple #[.slice none 0 0, .int .i64 10]) (by simp [results, Tryd.results18, go_sem]) rfl ⟨by rw [CurveIs, if_pos HC.out], HB0.out.trans (K_w1.mono (by omega))⟩
  · have HC := Lib.hid hc
    have hN := (cargoB_iff N lo hi).1 hc
    clear hc
    cases hd : drawB N o a
    · have HD := Lib.hid hd
      clear hd
      go_enter Tryd.func18, Tryd.ntmps18
      go_wp2_with fail
      refine (cargoR_any N lo hi true _ HC.out).mono ?_
      rintro e w1 ⟨rfl, hB1⟩
      have K_w1 : Free.Bel ((w.alloc (.cells #[.int .i64 N, .int .i64 lo, .int .i64 hi] 25)).alloc (.cells #[.int .i64 o, .int .i64 a] 27)) w1 := by
        refine Free.Bel.trans _ _ _ ?_ hB1
        repeat (first | exact Free.Bel.refl _ | refine Bel.allocT ?_ _ | refine Bel.drewT ?_)
      clear hB1
      have hq : w.heap.size + 2 = ((w.alloc (.cells #[.int .i64 N, .int .i64 lo, .int .i64 hi] 25)).alloc (.cells #[.int .i64 o, .int .i64 a] 27)).heap.size := by simp
      generalize ((w.alloc (.cells #[.int .i64 N, .int .i64 lo, .int .i64 hi] 25)).alloc (.cells #[.int .i64 o, .int .i64 a] 27)) = W0 at *
      generalize hbb : w.heap.size = bb at *
      have HBB := Lib.hid hbb
      clear hbb
      have HB0 := Lib.hid hB0
      have hq0 : bb + 2 ≤ W0.heap.size := by omega
      clear hB0 hq
      have FA : ∀ W, Free.Bel W0 W → W.cell? ⟨bb, 0, none⟩ = some (.int .i64 N) ∧ W.cell? ⟨bb, 1, none⟩ = some (.int .i64 lo) ∧ W.cell? ⟨bb, 2, none⟩ = some (.int .i64 hi) ∧ W.cell? ⟨bb + 1, 0, none⟩ = some (.int .i64 o) ∧ W.cell? ⟨bb + 1, 1, none⟩ = some (.int .i64 a) ∧ bb + 2 ≤ W.heap.size := fun W hW => ⟨keepsB hW c0_0, keepsB hW c0_1, keepsB hW c0_2, keepsB hW c1_0, keepsB hW c1_1, Nat.le_trans hq0 hW.size⟩
      clear c0_0 c0_1 c0_2 c1_0 c1_1
      go_wp2_with fail
      refine (ruleR_any N lo hi o a false _ HD.out).mono ?_
      rintro e w2 ⟨rfl, hB2⟩
      have K_w2 : Free.Bel W0 w2 := by
        refine Free.Bel.trans _ _ _ ?_ hB2
        repeat (first | exact K_w1 | exact Free.Bel.refl _ | refine Bel.allocT ?_ _ | refine Bel.drewT ?_)
      go_wp2_with fail
      have hbb := HBB.out
      subst hbb
      exact bodyPost_ret (v := .tuple #[.slice none 0 0, .int .i64 13]) (by simp [results, Tryd.results18, go_sem]) rfl ⟨by rw [CurveIs, if_neg (by simp [HC.out]), if_pos HD.out], HB0.out.trans (K_w2.mono (by omega))⟩
    · have HD := Lib.hid hd
      have hD := (drawB_iff N o a).1 hd
      clear hd
      go_enter Tryd.func18, Tryd.ntmps18
      go_wp2_with fail
      refine (cargoR_any N lo hi true _ HC.out).mono ?_
      rintro e w1 ⟨rfl, hB1⟩
      have K_w1 : Free.Bel ((w.alloc (.cells #[.int .i64 N, .int .i64 lo, .int .i64 hi] 25)).alloc (.cells #[.int .i64 o, .int .i64 a] 27)) w1 := by
        refine Free.Bel.trans _ _ _ ?_ hB1
        repeat (first | exact Free.Bel.refl _ | refine Bel.allocT ?_ _ | refine Bel.drewT ?_)
      clear hB1
      have hq : w.heap.size + 2 = ((w.alloc (.cells #[.int .i64 N, .int .i64 lo, .int .i64 hi] 25)).alloc (.cells #[.int .i64 o, .int .i64 a] 27)).heap.size := by simp
      generalize ((w.alloc (.cells #[.int .i64 N, .int .i64 lo, .int .i64 hi] 25)).alloc (.cells #[.int .i64 o, .int .i64 a] 27)) = W0 at *
      generalize hbb : w.heap.size = bb at *
      have HBB := Lib.hid hbb
      clear hbb
      have HB0 := Lib.hid hB0
      have hq0 : bb + 2 ≤ W0.heap.size := by omega
      clear hB0 hq
      have FA : ∀ W, Free.Bel W0 W → W.cell? ⟨bb, 0, none⟩ = some (.int .i64 N) ∧ W.cell? ⟨bb, 1, none⟩ = some (.int .i64 lo) ∧ W.cell? ⟨bb, 2, none⟩ = some (.int .i64 hi) ∧ W.cell? ⟨bb + 1, 0, none⟩ = some (.int .i64 o) ∧ W.cell? ⟨bb + 1, 1, none⟩ = some (.int .i64 a) ∧ bb + 2 ≤ W.heap.size := fun W hW => ⟨keepsB hW c0_0, keepsB hW c0_1, keepsB hW c0_2, keepsB hW c1_0, keepsB hW c1_1, Nat.le_trans hq0 hW.size⟩
      clear c0_0 c0_1 c0_2 c1_0 c1_1
      go_wp2_with fail
      refine (ruleR_any N lo hi o a true _ HD.out).mono ?_
      rintro e W1 ⟨rfl, hB2⟩
      have K_W1 : Free.Bel W0 W1 := by
        refine Free.Bel.trans _ _ _ ?_ hB2
        repeat (first | exact K_w1 | exact Free.Bel.refl _ | refine Bel.allocT ?_ _ | refine Bel.drewT ?_)
      clear hB2 K_w1
      have HW0 := Lib.hid (show 0 < W1.heap.size by have := FA W1 K_W1; omega)
      have HL0 : ∀ W, Below W1.heap.size W1 W → Free.Bel W0 W := fun W hW => Free.Bel.trans _ _ _ K_W1 hW
      go_wp2_with fail
      go_loopw [6, 7] (fun l i wr => ∃ k : Nat, (k : Int) ≤ hi - lo + 1 ∧ i = .int .i64 (lo + k) ∧ Hid (wr.ownsRow W1.heap.size 31 2 l k (cellsP (curveL N lo o a k))) ∧ Below W1.heap.size W1 wr) (fun _ i _ => (hi + 1 - intOf i).toNat)
      case atStart => exact ⟨0, by omega, by simp, World.ownsRow_nil _ _ _ _, Below.refl _ _⟩
      case round =>
        obtain ⟨k, hk, rfl, hrow, hKB⟩ := hrel
        have K := HL0 wr hKB
        have hs1 := hKB.size
        by_cases hlt : lo + (k : Int) ≤ hi
        · obtain ⟨p, q, hpq⟩ : ∃ p q : Int, partP N (lo + k) o a = (p, q) := ⟨_, _, rfl⟩
          have HPQ := Lib.hid hpq
          have hfb := fewI_bound N (lo + k) o (by omega) (by omega) (by omega) (a + 1).toNat
          have hOb := chI_pos N o (by omega) (by omega) hD.1 hD.2.1
          have HL := Lib.hid (fun W => least_int (fewI N (lo + k) o (a + 1).toNat) (chI N o) hfb.1 (by omega) (by omega) (by omega) _ (mostP_few N (lo + k) o a hD.2.2.1 hD.2.2.2 hpq) W)
          clear hpq
          go_wp2_with fail
          have hF : ∀ W, Below W1.heap.size wr.drew W → Free.Bel W0 W ∧ W1.heap.size ≤ W.heap.size := fun W hW => ⟨HL0 W ((hKB.drew).trans hW), Nat.le_trans hs1 hW.size⟩
          refine Free2.wp_free (R := Below W1.heap.size) (J := J1 W1.heap.size 0 15 16 17 31 2 u6 k (cellsP (curveL N lo o a k)) [.int .i64 p, .int .i64 q]) (by kernel_rfl) (by kernel_rfl) (Below.refl _) (fun _ _ _ => Below.trans) (J1.start hrow.out) ?_
          refine Free2.Chain.ex ?_ 0 rfl [] [6] (by kernel_rfl) (by kernel_rfl) rfl (Below.refl _) (fun X W v h => J1.skip h 0 v (show (0 : Nat) ≠ 16 by decide) (show (0 : Nat) ≠ 15 by decide) (show (0 : Nat) ≠ 17 by decide)) ?_ ?_
          rotate_left
          · (intro ev W hb hR hO hD; have hS := hF W hR; obtain ⟨hb1, hb2, hb3⟩ := hb; simp only [Free.AllDeps, Free.AllOuts, Free.At, List.getElem?_cons_succ, List.getElem?_cons_zero, Array.getD_eq_getD_getElem?, List.getElem?_toArray, Option.getD_some, and_true] at hO hD; obtain ⟨hS, hS2⟩ := hS; go_simp; rfl)
          simp only [List.nil_append, List.cons_append]
          refine Free2.Chain.ex ?_ 1 rfl [] [2] (by kernel_rfl) (by kernel_rfl) rfl (Below.refl _) (fun X W v h => J1.skip h 1 v (show (1 : Nat) ≠ 16 by decide) (show (1 : Nat) ≠ 15 by decide) (show (1 : Nat) ≠ 17 by decide)) ?_ ?_
          rotate_left
          · (intro ev W hb hR hO hD; have hS := hF W hR; obtain ⟨hb1, hb2, hb3⟩ := hb; simp only [Free.AllDeps, Free.AllOuts, Free.At, List.getElem?_cons_succ, List.getElem?_cons_zero, Array.getD_eq_getD_getElem?, List.getElem?_toArray, Option.getD_some, and_true] at hO hD; obtain ⟨hS, hS2⟩ := hS; go_simp; rfl)
          simp only [List.nil_append, List.cons_append]
          refine Free2.Chain.ex ?_ 2 rfl [(1, 26)] [] (by kernel_rfl) (by kernel_rfl) rfl (Below.refl _) (fun X W v h => J1.skip h 2 v (show (2 : Nat) ≠ 16 by decide) (show (2 : Nat) ≠ 15 by decide) (show (2 : Nat) ≠ 17 by decide)) ?_ ?_
          rotate_left
          · (intro ev W hb hR hO hD; have hS := hF W hR; obtain ⟨hb1, hb2, hb3⟩ := hb; simp only [Free.AllDeps, Free.AllOuts, Free.At, List.getElem?_cons_succ, List.getElem?_cons_zero, Array.getD_eq_getD_getElem?, List.getElem?_toArray, Option.getD_some, and_true] at hO hD; obtain ⟨hS, hS2⟩ := hS; go_simp; rfl)
          simp only [List.nil_append, List.cons_append]
          refine Free2.Chain.ex ?_ 3 rfl [] [7] (by kernel_rfl) (by kernel_rfl) rfl (Below.refl _) (fun X W v h => J1.skip h 3 v (show (3 : Nat) ≠ 16 by decide) (show (3 : Nat) ≠ 15 by decide) (show (3 : Nat) ≠ 17 by decide)) ?_ ?_
          rotate_left
          · (intro ev W hb hR hO hD; have hS := hF W hR; obtain ⟨hb1, hb2, hb3⟩ := hb; simp only [Free.AllDeps, Free.AllOuts, Free.At, List.getElem?_cons_succ, List.getElem?_cons_zero, Array.getD_eq_getD_getElem?, List.getElem?_toArray, Option.getD_some, and_true] at hO hD; obtain ⟨hS, hS2⟩ := hS; go_simp; rfl)
          simp only [List.nil_append, List.cons_append]
          refine Free2.Chain.ex ?_ 4 rfl [] [3] (by kernel_rfl) (by kernel_rfl) rfl (Below.refl _) (fun X W v h => J1.skip h 4 v (show (4 : Nat) ≠ 16 by decide) (show (4 : Nat) ≠ 15 by decide) (show (4 : Nat) ≠ 17 by decide)) ?_ ?_
          rotate_left
          · (intro ev W hb hR hO hD; have hS := hF W hR; obtain ⟨hb1, hb2, hb3⟩ := hb; simp only [Free.AllDeps, Free.AllOuts, Free.At, List.getElem?_cons_succ, List.getElem?_cons_zero, Array.getD_eq_getD_getElem?, List.getElem?_toArray, Option.getD_some, and_true] at hO hD; obtain ⟨hS, hS2⟩ := hS; go_simp; rfl)
          simp only [List.nil_append, List.cons_append]
          refine Free2.Chain.ex ?_ 5 rfl [(4, 29)] [] (by kernel_rfl) (by kernel_rfl) rfl (Below.refl _) (fun X W v h => J1.skip h 5 v (show (5 : Nat) ≠ 16 by decide) (show (5 : Nat) ≠ 15 by decide) (show (5 : Nat) ≠ 17 by decide)) ?_ ?_
          rotate_left
          · (intro ev W hb hR hO hD; have hS := hF W hR; obtain ⟨hb1, hb2, hb3⟩ := hb; simp only [Free.AllDeps, Free.AllOuts, Free.At, List.getElem?_cons_succ, List.getElem?_cons_zero, Array.getD_eq_getD_getElem?, List.getElem?_toArray, Option.getD_some, and_true] at hO hD; obtain ⟨hS, hS2⟩ := hS; go_simp; rfl)
          simp only [List.nil_append, List.cons_append]
          refine Free2.Chain.ex ?_ 6 rfl [] [3] (by kernel_rfl) (by kernel_rfl) rfl (Below.refl _) (fun X W v h => J1.skip h 6 v (show (6 : Nat) ≠ 16 by decide) (show (6 : Nat) ≠ 15 by decide) (show (6 : Nat) ≠ 17 by decide)) ?_ ?_
          rotate_left
          · (intro ev W hb hR hO hD; have hS := hF W hR; obtain ⟨hb1, hb2, hb3⟩ := hb; simp only [Free.AllDeps, Free.AllOuts, Free.At, List.getElem?_cons_succ, List.getElem?_cons_zero, Array.getD_eq_getD_getElem?, List.getElem?_toArray, Option.getD_some, and_true] at hO hD; obtain ⟨hS, hS2⟩ := hS; go_simp; rfl)
          simp only [List.nil_append, List.cons_append]
          refine Free2.Chain.ex ?_ 7 rfl [(6, 31)] [] (by kernel_rfl) (by kernel_rfl) rfl (Below.refl _) (fun X W v h => J1.skip h 7 v (show (7 : Nat) ≠ 16 by decide) (show (7 : Nat) ≠ 15 by decide) (show (7 : Nat) ≠ 17 by decide)) ?_ ?_
          rotate_left
          · (intro ev W hb hR hO hD; have hS := hF W hR; obtain ⟨hb1, hb2, hb3⟩ := hb; simp only [Free.AllDeps, Free.AllOuts, Free.At, List.getElem?_cons_succ, List.getElem?_cons_zero, Array.getD_eq_getD_getElem?, List.getElem?_toArray, Option.getD_some, and_true] at hO hD; obtain ⟨hS, hS2⟩ := hS; go_simp; rfl)
          simp only [List.nil_append, List.cons_append]
          refine Free2.Chain.pr (fun v _ => v = .int .i64 (fewI N (lo + k) o (a + 1).toNat)) 8 rfl [(2, 27), (3, 28), (5, 30), (7, 32)] [] (by kernel_rfl) (by kernel_rfl) rfl (fun _ _ _ _ h => h) ?_ ?_
          · (intro ev W X hb hR hO hD hj hx hax; have hS := hF W hR; obtain ⟨hb1, hb2, hb3⟩ := hb; simp only [Free.AllDeps, Free.AllOuts, Free.At, List.getElem?_cons_succ, List.getElem?_cons_zero, Array.getD_eq_getD_getElem?, List.getElem?_toArray, Option.getD_some, and_true] at hO hD; simp only [Free2.AllX, and_true] at hax; obtain ⟨hS, hS2⟩ := hS; go_simp; refine yields_enter ?_; with_reducible refine (few_any N (lo + k) o a _ (by omega) (by omega) (by omega) (by omega) (by omega)).mono ?_; rintro e W2 ⟨rfl, rfl⟩; exact ⟨_, rfl, Below.refl _ _, rfl, hj.skip 8 _ (by decide) (by decide) (by decide)⟩)
          simp only [List.nil_append, List.cons_append]
          refine Free2.Chain.ex ?_ 9 rfl [] [2] (by kernel_rfl) (by kernel_rfl) rfl (Below.refl _) (fun X W v h => J1.skip h 9 v (show (9 : Nat) ≠ 16 by decide) (show (9 : Nat) ≠ 15 by decide) (show (9 : Nat) ≠ 17 by decide)) ?_ ?_
          rotate_left
          · (intro ev W hb hR hO hD; have hS := hF W hR; obtain ⟨hb1, hb2, hb3⟩ := hb; simp only [Free.AllDeps, Free.AllOuts, Free.At, List.getElem?_cons_succ, List.getElem?_cons_zero, Array.getD_eq_getD_getElem?, List.getElem?_toArray, Option.getD_some, and_true] at hO hD; obtain ⟨hS, hS2⟩ := hS; go_simp; rfl)
          simp only [List.nil_append, List.cons_append]
          refine Free2.Chain.ex ?_ 10 rfl [(9, 34)] [] (by kernel_rfl) (by kernel_rfl) rfl (Below.refl _) (fun X W v h => J1.skip h 10 v (show (10 : Nat) ≠ 16 by decide) (show (10 : Nat) ≠ 15 by decide) (show (10 : Nat) ≠ 17 by decide)) ?_ ?_
          rotate_left
          · (intro ev W hb hR hO hD; have hS := hF W hR; obtain ⟨hb1, hb2, hb3⟩ := hb; simp only [Free.AllDeps, Free.AllOuts, Free.At, List.getElem?_cons_succ, List.getElem?_cons_zero, Array.getD_eq_getD_getElem?, List.getElem?_toArray, Option.getD_some, and_true] at hO hD; obtain ⟨hS, hS2⟩ := hS; go_simp; rfl)
          simp only [List.nil_append, List.cons_append]
          refine Free2.Chain.ex ?_ 11 rfl [] [3] (by kernel_rfl) (by kernel_rfl) rfl (Below.refl _) (fun X W v h => J1.skip h 11 v (show (11 : Nat) ≠ 16 by decide) (show (11 : Nat) ≠ 15 by decide) (show (11 : Nat) ≠ 17 by decide)) ?_ ?_
          rotate_left
          · (intro ev W hb hR hO hD; have hS := hF W hR; obtain ⟨hb1, hb2, hb3⟩ := hb; simp only [Free.AllDeps, Free.AllOuts, Free.At, List.getElem?_cons_succ, List.getElem?_cons_zero, Array.getD_eq_getD_getElem?, List.getElem?_toArray, Option.getD_some, and_true] at hO hD; obtain ⟨hS, hS2⟩ := hS; go_simp; rfl)
          simp only [List.nil_append, List.cons_append]
          refine Free2.Chain.ex ?_ 12 rfl [(11, 36)] [] (by kernel_rfl) (by kernel_rfl) rfl (Below.refl _) (fun X W v h => J1.skip h 12 v (show (12 : Nat) ≠ 16 by decide) (show (12 : Nat) ≠ 15 by decide) (show (12 : Nat) ≠ 17 by decide)) ?_ ?_
          rotate_left
          · (intro ev W hb hR hO hD; have hS := hF W hR; obtain ⟨hb1, hb2, hb3⟩ := hb; simp only [Free.AllDeps, Free.AllOuts, Free.At, List.getElem?_cons_succ, List.getElem?_cons_zero, Array.getD_eq_getD_getElem?, List.getElem?_toArray, Option.getD_some, and_true] at hO hD; obtain ⟨hS, hS2⟩ := hS; go_simp; rfl)
          simp only [List.nil_append, List.cons_append]
          refine Free2.Chain.pr (fun v _ => v = .int .i64 (chI N o)) 13 rfl [(10, 35), (12, 37), (8, 33)] [] (by kernel_rfl) (by kernel_rfl) rfl (fun _ _ _ _ h => h) ?_ ?_
          · (intro ev W X hb hR hO hD hj hx hax; have hS := hF W hR; obtain ⟨hb1, hb2, hb3⟩ := hb; simp only [Free.AllDeps, Free.AllOuts, Free.At, List.getElem?_cons_succ, List.getElem?_cons_zero, Array.getD_eq_getD_getElem?, List.getElem?_toArray, Option.getD_some, and_true] at hO hD; simp only [Free2.AllX, and_true] at hax; obtain ⟨hS, hS2⟩ := hS; go_simp; refine yields_enter ?_; with_reducible refine (choose_any N o _ (by omega) (by omega) (by omega)).mono ?_; rintro e W2 ⟨rfl, rfl⟩; exact ⟨_, rfl, Below.refl _ _, rfl, hj.skip 13 _ (by decide) (by decide) (by decide)⟩)
          simp only [List.nil_append, List.cons_append]
          refine Free2.Chain.pr (fun v _ => v = .agg #[.int .i64 p, .int .i64 q]) 14 rfl [(8, 33), (13, 38), (13, 38)] [] (by kernel_rfl) (by kernel_rfl) rfl (fun _ _ _ _ h => h) ?_ ?_
          · (intro ev W X hb hR hO hD hj hx hax; have hS := hF W hR; obtain ⟨hb1, hb2, hb3⟩ := hb; simp only [Free.AllDeps, Free.AllOuts, Free.At, List.getElem?_cons_succ, List.getElem?_cons_zero, Array.getD_eq_getD_getElem?, List.getElem?_toArray, Option.getD_some, and_true] at hO hD; simp only [Free2.AllX, and_true] at hax; obtain ⟨hS, hS2⟩ := hS; go_simp; refine yields_enter ?_; with_reducible refine (HL.out _).mono ?_; rintro e W2 ⟨rfl, hB2⟩; exact ⟨_, rfl, hB2.mono hS2, rfl, (hj.kept (.of_below hB2) HW0.out).skip 14 _ (by decide) (by decide) (by decide)⟩)
          simp only [List.nil_append, List.cons_append]
          refine Free2.Chain.pr (fun _ _ => True) 15 rfl [(14, 39)] [] (by kernel_rfl) (by kernel_rfl) rfl (fun _ _ _ _ h => h) ?_ ?_
          · (intro ev W X hb hR hO hD hj hx hax; have hS := hF W hR; obtain ⟨hb1, hb2, hb3⟩ := hb; simp only [Free.AllDeps, Free.AllOuts, Free.At, List.getElem?_cons_succ, List.getElem?_cons_zero, Array.getD_eq_getD_getElem?, List.getElem?_toArray, Option.getD_some, and_true] at hO hD; simp only [Free2.AllX, and_true] at hax; obtain ⟨hS, hS2⟩ := hS; go_simp; exact ⟨(Below.refl _ _).alloc hS2 _, (hj.kept ((Kept.refl _ _).alloc _) HW0.out).made (by decide) (by decide) (by have := HW0.out; omega) (cells2_new _ _ _ _)⟩)
          simp only [List.nil_append, List.cons_append]
          refine Free2.Chain.pr (fun _ _ => True) 16 rfl [(0, 25), (15, 40), (14, 39)] [] (by kernel_rfl) (by kernel_rfl) rfl (fun _ _ _ _ h => h) ?_ ?_
          · (intro ev W X hb hR hO hD hj hx hax; have hS := hF W hR; obtain ⟨hb1, hb2, hb3⟩ := hb; simp only [Free.AllDeps, Free.AllOuts, Free.At, List.getElem?_cons_succ, List.getElem?_cons_zero, Array.getD_eq_getD_getElem?, List.getElem?_toArray, Option.getD_some, and_true] at hO hD; simp only [Free2.AllX, and_true] at hax; obtain ⟨hS, hS2⟩ := hS; obtain ⟨i0, hi0, hz0, hz1, hz2⟩ := info_parts T.infoPart; obtain ⟨sb, hsb, hsne, hsc⟩ := hj.src _ hax.2.1 hx; obtain ⟨v2, W2, hr2, ho2, hg2, _⟩ := run_append_own_wide (P := Tryd.prog) W W1.heap.size 37 37 31 i0 (.agg #[.int .i64 0, .int .i64 0]) 2 16 Tryd.underlying37 hi0 hz0 hz1 hz2 rfl (by decide) u6 k _ (hj.old hx) ⟨sb, 0, none⟩ 1 1 [.int .i64 p, .int .i64 q] rfl hsc (by simp [Value.oneCell']) (by unfold maxLen; omega) (by omega) hS2; simp only [execOp, resolve, invoke, builtin, Sem.run_bind, Sem.run_pure, Result.andThen_ok, List.map_toArray, List.map_cons, List.map_nil, hD.1, hsb, hr2]; exact ⟨below_grown (hj.old hx) hg2 hS2, trivial, hj.set (by decide) hx ho2⟩)
          simp only [List.nil_append, List.cons_append]
          refine Free2.Chain.pr (fun _ _ => True) 17 rfl [(16, 41), (16, 41), (0, 25), (1, 26), (2, 27), (3, 28), (4, 29), (5, 30), (6, 31), (7, 32), (8, 33), (9, 34), (10, 35), (11, 36), (12, 37), (13, 38), (14, 39), (15, 40), (16, 41)] [] (by kernel_rfl) (by kernel_rfl) rfl (fun _ _ _ _ h => h) ?_ ?_
          · (intro ev W X hb hR hO hD hj hx hax; have hS := hF W hR; obtain ⟨hb1, hb2, hb3⟩ := hb; simp only [Free.AllDeps, Free.AllOuts, Free.At, List.getElem?_cons_succ, List.getElem?_cons_zero, Array.getD_eq_getD_getElem?, List.getElem?_toArray, Option.getD_some, and_true] at hO hD; simp only [Free2.AllX, and_true] at hax; go_simp; exact ⟨Below.refl _ _, hj.keep (by decide) (by decide) hax.1⟩)
          simp only [List.nil_append, List.cons_append]
          intro xs w5 hR hV hX
          obtain ⟨X, hj, hxx⟩ := hX
          have hlast := hxx 17 (show (17 : Nat) < 18 by decide)
          have hrow5 := Lib.hid (hj.now _ (hj.same _ hlast))
          simp only [Free.AllV, Free.At, List.length_cons, List.length_nil, Nat.reduceAdd, List.getElem?_cons_succ, List.getElem?_cons_zero, true_and, and_true] at hV
          simp only [Free.putsFrom, Act.put, hV, List.setIfInBounds_toArray, List.set_cons_succ, List.set_cons_zero]
          have hKB5 := hKB.drew.trans hR
          generalize xs 17 = v17 at *
          clear hR hV hj hxx hlast hF K
          have K := HL0 w5 hKB5
          go_wp2_with fail
          go_roundw
          case rel => exact ⟨k + 1, by omega, by simp; omega, by have h := hrow5.out; rw [curveL_succ, cellsP_append, HPQ.out]; exact h, hKB5⟩
          case measure => simp [intOf]; omega
        · have HK2 := Lib.hid (show k = (hi - lo + 1).toNat by omega)
          go_wp2_with fail
          have hbb := HBB.out
          subst hbb
          refine bodyPost_ret (v := .tuple #[u6, .int .i64 0]) (by simp [results, Tryd.results18, go_sem]) rfl ⟨?_, HB0.out.trans (K.mono (by omega))⟩
          rw [CurveIs, if_neg (by simp [HC.out]), if_neg (by simp [HD.out])]
          exact ⟨u6, rfl, by rw [← HK2.out]; exact PL.of_row (by simp [curveL]) (by unfold maxLen; omega) hrow.out⟩
end Go.Proofs.YthhallnkpbgomaaDoor
