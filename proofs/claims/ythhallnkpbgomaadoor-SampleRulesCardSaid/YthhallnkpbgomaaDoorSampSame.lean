/- Rules: the reference's comparison of lists of fractions. -/
import Derived.Test.YthhallnkpbgomaaDoorSampGiven
namespace Go.Proofs.YthhallnkpbgomaaDoor
set_option linter.unusedSimpArgs false
set_option linter.unusedVariables false
open Go.RowKit Go.Proofs.YthhallnkpbgomaaDoor.ML Go.Proofs.YthhallnkpbgomaaDoor.Samp

/-- A slice that holds this list of fractions. -/
def PL (xs : List (Int × Int)) (v : Value) (w : World) : Prop := ∃ p cap, v = .slice p xs.length cap ∧ xs.length ≤ maxLen ∧ (xs ≠ [] → ∃ b off, p = some ⟨b, off, none⟩ ∧ ∀ k, (h : k < xs.length) → w.cell? ⟨b, off + k * 2, none⟩ = some (.int .i64 xs[k].1) ∧ w.cell? ⟨b, off + k * 2 + 1, none⟩ = some (.int .i64 xs[k].2))
theorem PL.nil (w : World) : PL [] (.slice none 0 0) w := ⟨none, 0, rfl, by simp, fun h => absurd rfl h⟩
theorem PL.keeps {xs : List (Int × Int)} {v : Value} {w w' : World} (h : PL xs v w) (hB : Below w.heap.size w w') : PL xs v w' :=
  let ⟨p, cap, h1, h2, h3⟩ := h
  ⟨p, cap, h1, h2, fun hx => let ⟨b, off, h4, h5⟩ := h3 hx; ⟨b, off, h4, fun k hk => ⟨keepsB hB (h5 k hk).1, keepsB hB (h5 k hk).2⟩⟩⟩

set_option maxRecDepth 100000 in
set_option maxHeartbeats 2000000 in
theorem same_any (xs : List (Int × Int)) (u v : Value) (w : World) (hu : PL xs u w) (hv : PL xs v w) :
    Calls Tryd.prog 19 #[u, v] w fun e w' => e = .returned (.bool true) ∧ Below w.heap.size w w' := by
  obtain ⟨p, cp, rfl, hm, hp⟩ := hu
  obtain ⟨q, cq, rfl, _, hq⟩ := hv
  unfold maxLen at hm
  have HP := Lib.hid hp
  have HQ := Lib.hid hq
  clear hp hq
  go_enter Tryd.func19, Tryd.ntmps19
  go_wp2_with fail
  go_loopw [5] (fun i wr => ∃ k : Nat, k ≤ xs.length ∧ i = .int .i64 k ∧ Below w.heap.size w wr) (fun i _ => xs.length - (intOf i).toNat)
  case atStart => exact ⟨0, Nat.zero_le _, rfl, Below.refl _ _⟩
  case round =>
    obtain ⟨k, hk, rfl, hB⟩ := hrel
    by_cases hlt : k < xs.length
    · have hx : xs ≠ [] := by intro e; simp [e] at hlt
      obtain ⟨b, off, rfl, hcp⟩ := HP.out hx
      obtain ⟨b2, off2, rfl, hcq⟩ := HQ.out hx
      have e1 := keepsB hB (hcp k hlt).1
      have e2 := keepsB hB (hcp k hlt).2
      have e3 := keepsB hB (hcq k hlt).1
      have e4 := keepsB hB (hcq k hlt).2
      have HC := Lib.hid (And.intro e1 (And.intro e2 (And.intro e3 e4)))
      have hklt : (k : Int) < xs.length := by omega
      generalize xs[k] = x at *
      obtain ⟨x1, x2⟩ := x
      clear hcp hcq
      go_wp2_with fail
      have hF : ∀ W, Free.Bel wr.drew W → W.cell? ⟨b, off + k * 2, none⟩ = some (.int .i64 x1) ∧ W.cell? ⟨b, off + k * 2 + 1, none⟩ = some (.int .i64 x2) ∧ W.cell? ⟨b2, off2 + k * 2, none⟩ = some (.int .i64 x1) ∧ W.cell? ⟨b2, off2 + k * 2 + 1, none⟩ = some (.int .i64 x2) :=
        fun W hW => ⟨keepsB (Free.Bel.first hW) HC.out.1, keepsB (Free.Bel.first hW) HC.out.2.1, keepsB (Free.Bel.first hW) HC.out.2.2.1, keepsB (Free.Bel.first hW) HC.out.2.2.2⟩
      refine Free.wp_free (R := Free.Bel) (by kernel_rfl) (by kernel_rfl) Free.Bel.refl Free.Bel.trans ?_
      refine Free.Chain.ex ?_ [] [0] (by kernel_rfl) (by kernel_rfl) rfl Free.Bel.refl ?_ ?_
      rotate_left
      · (intro ev W hb hR hO hD; have hS := hF W hR; obtain ⟨hb1, hb2, hb3⟩ := hb; simp only [Free.AllDeps, Free.AllOuts, Free.At, List.getElem?_cons_succ, List.getElem?_cons_zero, Array.getD_eq_getD_getElem?, List.getElem?_toArray, Option.getD_some, and_true] at hO hD; go_simp; rfl)
      simp only [List.nil_append, List.cons_append]
      refine Free.Chain.ex ?_ [] [5] (by kernel_rfl) (by kernel_rfl) rfl Free.Bel.refl ?_ ?_
      rotate_left
      · (intro ev W hb hR hO hD; have hS := hF W hR; obtain ⟨hb1, hb2, hb3⟩ := hb; simp only [Free.AllDeps, Free.AllOuts, Free.At, List.getElem?_cons_succ, List.getElem?_cons_zero, Array.getD_eq_getD_getElem?, List.getElem?_toArray, Option.getD_some, and_true] at hO hD; go_simp; rfl)
      simp only [List.nil_append, List.cons_append]
      refine Free.Chain.ex ?_ [(0, 17), (1, 18)] [] (by kernel_rfl) (by kernel_rfl) rfl Free.Bel.refl ?_ ?_
      rotate_left
      · (intro ev W hb hR hO hD; have hS := hF W hR; obtain ⟨hb1, hb2, hb3⟩ := hb; simp only [Free.AllDeps, Free.AllOuts, Free.At, List.getElem?_cons_succ, List.getElem?_cons_zero, Array.getD_eq_getD_getElem?, List.getElem?_toArray, Option.getD_some, and_true] at hO hD; go_simp; rfl)
      simp only [List.nil_append, List.cons_append]
      refine Free.Chain.ex ?_ [(2, 19)] [] (by kernel_rfl) (by kernel_rfl) rfl Free.Bel.refl ?_ ?_
      rotate_left
      · (intro ev W hb hR hO hD; have hS := hF W hR; obtain ⟨hb1, hb2, hb3⟩ := hb; simp only [Free.AllDeps, Free.AllOuts, Free.At, List.getElem?_cons_succ, List.getElem?_cons_zero, Array.getD_eq_getD_getElem?, List.getElem?_toArray, Option.getD_some, and_true] at hO hD; go_simp; rfl)
      simp only [List.nil_append, List.cons_append]
      refine Free.Chain.ex ?_ [] [1] (by kernel_rfl) (by kernel_rfl) rfl Free.Bel.refl ?_ ?_
      rotate_left
      · (intro ev W hb hR hO hD; have hS := hF W hR; obtain ⟨hb1, hb2, hb3⟩ := hb; simp only [Free.AllDeps, Free.AllOuts, Free.At, List.getElem?_cons_succ, List.getElem?_cons_zero, Array.getD_eq_getD_getElem?, List.getElem?_toArray, Option.getD_some, and_true] at hO hD; go_simp; rfl)
      simp only [List.nil_append, List.cons_append]
      refine Free.Chain.ex ?_ [] [5] (by kernel_rfl) (by kernel_rfl) rfl Free.Bel.refl ?_ ?_
      rotate_left
      · (intro ev W hb hR hO hD; have hS := hF W hR; obtain ⟨hb1, hb2, hb3⟩ := hb; simp only [Free.AllDeps, Free.AllOuts, Free.At, List.getElem?_cons_succ, List.getElem?_cons_zero, Array.getD_eq_getD_getElem?, List.getElem?_toArray, Option.getD_some, and_true] at hO hD; go_simp; rfl)
      simp only [List.nil_append, List.cons_append]
      refine Free.Chain.ex ?_ [(4, 21), (5, 22)] [] (by kernel_rfl) (by kernel_rfl) rfl Free.Bel.refl ?_ ?_
      rotate_left
      · (intro ev W hb hR hO hD; have hS := hF W hR; obtain ⟨hb1, hb2, hb3⟩ := hb; simp only [Free.AllDeps, Free.AllOuts, Free.At, List.getElem?_cons_succ, List.getElem?_cons_zero, Array.getD_eq_getD_getElem?, List.getElem?_toArray, Option.getD_some, and_true] at hO hD; go_simp; rfl)
      simp only [List.nil_append, List.cons_append]
      refine Free.Chain.ex ?_ [(6, 23)] [] (by kernel_rfl) (by kernel_rfl) rfl Free.Bel.refl ?_ ?_
      rotate_left
      · (intro ev W hb hR hO hD; have hS := hF W hR; obtain ⟨hb1, hb2, hb3⟩ := hb; simp only [Free.AllDeps, Free.AllOuts, Free.At, List.getElem?_cons_succ, List.getElem?_cons_zero, Array.getD_eq_getD_getElem?, List.getElem?_toArray, Option.getD_some, and_true] at hO hD; go_simp; rfl)
      simp only [List.nil_append, List.cons_append]
      refine Free.Chain.ex ?_ [(3, 20), (7, 24)] [] (by kernel_rfl) (by kernel_rfl) rfl Free.Bel.refl ?_ ?_
      rotate_left
      · (intro ev W hb hR hO hD; have hS := hF W hR; obtain ⟨hb1, hb2, hb3⟩ := hb; simp only [Free.AllDeps, Free.AllOuts, Free.At, List.getElem?_cons_succ, List.getElem?_cons_zero, Array.getD_eq_getD_getElem?, List.getElem?_toArray, Option.getD_some, and_true] at hO hD; go_simp; rfl)
      simp only [List.nil_append, List.cons_append]
      intro xs w' hR hV
      simp only [Free.AllV, Free.At, List.length_cons, List.length_nil, Nat.reduceAdd, List.getElem?_cons_succ, List.getElem?_cons_zero, true_and] at hV
      simp only [Free.putsFrom, Act.put, hV, List.setIfInBounds_toArray, List.set_cons_succ, List.set_cons_zero]
      have HB2 := Lib.hid (hB.trans ((Free.Bel.first hR).mono hB.size))
      clear hR hV hF
      go_wp2_with fail
      go_roundw
      case rel => exact ⟨k + 1, by omega, by go_num, HB2.out⟩
      case measure => simp [intOf]; omega
    · obtain rfl : k = xs.length := by omega
      go_wp2_with fail
      go_ret
      exact ⟨rfl, hB⟩
end Go.Proofs.YthhallnkpbgomaaDoor
