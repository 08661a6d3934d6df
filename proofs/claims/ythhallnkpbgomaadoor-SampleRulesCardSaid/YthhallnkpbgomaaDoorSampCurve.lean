/- Rules: Curve. -/
import Derived.Test.YthhallnkpbgomaaDoorSampFine
import Derived.Test.YthhallnkpbgomaaDoorSampSame
import Derived.Test.YthhallnkpbgomaaDoorSampGood
import Derived.Test.YthhallnkpbgomaaDoorRowLoc
import Derived.IntWalk
namespace Go.Proofs.YthhallnkpbgomaaDoor
set_option linter.unusedSimpArgs false
set_option linter.unusedVariables false
open Go.RowKit Go.Proofs.YthhallnkpbgomaaDoor.ML Go.Proofs.YthhallnkpbgomaaDoor.Samp

/-- The chance that a rule accepts, as two numbers. -/
def partP (N D o f : Int) : Int × Int := (((lowest (mostI N D o f).toNat (chI N o).toNat).1 : Nat), ((lowest (mostI N D o f).toNat (chI N o).toNat).2 : Nat))
theorem partP_eq (N D o f : Int) : mostV N D o f = encP (partP N D o f) := rfl
theorem partP_val {N D o f p q : Int} (h : partP N D o f = (p, q)) : mostV N D o f = .agg #[.int .i64 p, .int .i64 q] := by rw [partP_eq, h]; rfl
/-- The chances of the first k numbers of dirty bags from lo on. -/
def curveL (N lo o f : Int) (k : Nat) : List (Int × Int) := (List.range k).map fun (i : Nat) => partP N (lo + i) o f
def cellsP (xs : List (Int × Int)) : List Value := xs.flatMap fun x => [.int .i64 x.1, .int .i64 x.2]
theorem T.infoPart : (Tryd.prog.info? 31).map (fun i => (i.zero, i.size, i.bytes)) = some (some (.agg #[.int .i64 0, .int .i64 0]), 2, 16) := by kernel_rfl
theorem curveL_succ (N lo o f : Int) (k : Nat) : curveL N lo o f (k + 1) = curveL N lo o f k ++ [partP N (lo + k) o f] := by simp [curveL, List.range_succ]
theorem cellsP_append (xs ys : List (Int × Int)) : cellsP (xs ++ ys) = cellsP xs ++ cellsP ys := by simp [cellsP]
theorem cellsP_length (xs : List (Int × Int)) : (cellsP xs).length = xs.length * 2 := by
  induction xs with
  | nil => rfl
  | cons x r ih => simp only [cellsP, List.flatMap_cons, List.length_append, List.length_cons, List.length_nil] at ih ⊢; rw [ih]; omega
theorem cellsP_get (xs : List (Int × Int)) (k : Nat) (h : k < xs.length) : (cellsP xs)[k * 2]? = some (.int .i64 xs[k].1) ∧ (cellsP xs)[k * 2 + 1]? = some (.int .i64 xs[k].2) := by
  induction xs generalizing k with
  | nil => simp at h
  | cons x r ih =>
    cases k with
    | zero => simp [cellsP]
    | succ k =>
      have := ih k (by simpa using h)
      have e : cellsP (x :: r) = .int .i64 x.1 :: .int .i64 x.2 :: cellsP r := by simp [cellsP]
      rw [e, show (k + 1) * 2 = k * 2 + 1 + 1 by omega]
      simpa using this
/-- An owned row is a slice of fractions. -/
theorem PL.of_row {base : Nat} {e : TypeId} {v : Value} {n : Nat} {xs : List (Int × Int)} {w : World} (hn : xs.length = n) (hm : n ≤ maxLen) (h : w.ownsRow base e 2 v n (cellsP xs)) : PL xs v w := by
  subst hn
  rcases h.2 with ⟨rfl, h0⟩ | ⟨g, cap, cur, rfl, _, hg, _, _, _, ht⟩
  · have : xs = [] := List.eq_nil_of_length_eq_zero h0
    subst this
    exact PL.nil w
  · refine ⟨_, cap, rfl, hm, fun _ => ⟨g, 0, rfl, fun k hk => ?_⟩⟩
    have hc := h.cells (g := g) rfl
    obtain ⟨c1, c2⟩ := cellsP_get xs k hk
    have a1 := hc _ _ c1
    have a2 := hc _ _ c2
    simp only [Addr.add] at a1 a2
    refine ⟨?_, by simpa using a2⟩
    by_cases h0 : k = 0
    · subst h0; simpa using a1
    · rw [if_neg (by omega)] at a1; simpa using a1

set_option maxRecDepth 100000 in
set_option maxHeartbeats 2000000 in
theorem curve_a (N lo hi o a : Int) (w : World) (hc : cargoB N lo hi = false) :
    Calls Tryd.prog 17 #[.agg #[.int .i64 N, .int .i64 lo, .int .i64 hi], .agg #[.int .i64 o, .int .i64 a]] w fun e w' => e = .returned (.tuple #[.slice none 0 0, .int .i64 10]) ∧ Below w.heap.size w w' := by
  have hB0 : Below w.heap.size w ((w.alloc (.cells #[.int .i64 N, .int .i64 lo, .int .i64 hi] 25)).alloc (.cells #[.int .i64 o, .int .i64 a] 27)) := ((Below.refl _ w).alloc (Nat.le_refl _) _).alloc (by simp) _
  have c0 : ((w.alloc (.cells #[.int .i64 N, .int .i64 lo, .int .i64 hi] 25)).alloc (.cells #[.int .i64 o, .int .i64 a] 27)).cell? ⟨w.heap.size, 0, none⟩ = some (.int .i64 N) := by simp [go_sem]
  have c1 : ((w.alloc (.cells #[.int .i64 N, .int .i64 lo, .int .i64 hi] 25)).alloc (.cells #[.int .i64 o, .int .i64 a] 27)).cell? ⟨w.heap.size, 1, none⟩ = some (.int .i64 lo) := by simp [go_sem]
  have c2 : ((w.alloc (.cells #[.int .i64 N, .int .i64 lo, .int .i64 hi] 25)).alloc (.cells #[.int .i64 o, .int .i64 a] 27)).cell? ⟨w.heap.size, 2, none⟩ = some (.int .i64 hi) := by simp [go_sem]
  have c3 : ((w.alloc (.cells #[.int .i64 N, .int .i64 lo, .int .i64 hi] 25)).alloc (.cells #[.int .i64 o, .int .i64 a] 27)).cell? ⟨w.heap.size + 1, 0, none⟩ = some (.int .i64 o) := by simp [go_sem]
  have c4 : ((w.alloc (.cells #[.int .i64 N, .int .i64 lo, .int .i64 hi] 25)).alloc (.cells #[.int .i64 o, .int .i64 a] 27)).cell? ⟨w.heap.size + 1, 1, none⟩ = some (.int .i64 a) := by simp [go_sem]
  have s1 := Lib.hid (fun (W : World) (h : Below ((w.alloc (.cells #[.int .i64 N, .int .i64 lo, .int .i64 hi] 25)).alloc (.cells #[.int .i64 o, .int .i64 a] 27)).heap.size ((w.alloc (.cells #[.int .i64 N, .int .i64 lo, .int .i64 hi] 25)).alloc (.cells #[.int .i64 o, .int .i64 a] 27)) W) => And.intro (keepsB h c0) ( And.intro (keepsB h c1) ( And.intro (keepsB h c2) ( And.intro (keepsB h c3) (keepsB h c4)))))
  have HB0 := Lib.hid hB0
  clear hB0 c0 c1 c2 c3 c4
  go_enter Tryd.func17, Tryd.ntmps17
  go_wp2_with fail
  generalize ((w.alloc (.cells #[.int .i64 N, .int .i64 lo, .int .i64 hi] 25)).alloc (.cells #[.int .i64 o, .int .i64 a] 27)) = W0 at *
  generalize hbb : w.heap.size = bb at *
  have HBB := Lib.hid hbb
  clear hbb
  have hs0 : bb ≤ W0.heap.size := by have h1 := HB0.out.size; have h2 := HBB.out; omega
  refine (begun_bad N lo hi _ hc).mono ?_
  rintro e w1 ⟨rfl, hB1⟩
  have HB1 := Lib.hid hB1
  clear hB1
  go_wp2_with fail
  have hbb := HBB.out
  subst hbb
  exact bodyPost_ret (v := .tuple #[.slice none 0 0, .int .i64 10]) (by simp [results, Tryd.results17, go_sem]) rfl ⟨rfl, HB0.out.trans (HB1.out.mono hs0)⟩

set_option maxRecDepth 100000 in
set_option maxHeartbeats 2000000 in
theorem curve_b (N lo hi o a : Int) (w : World) (hc : cargoB N lo hi = true) (hd : drawB N o a = false) :
    Calls Tryd.prog 17 #[.agg #[.int .i64 N, .int .i64 lo, .int .i64 hi], .agg #[.int .i64 o, .int .i64 a]] w fun e w' => e = .returned (.tuple #[.slice none 0 0, .int .i64 13]) ∧ Below w.heap.size w w' := by
  have hx : Hid (unlessV (drawB N o a) 13 = 13) := by simp [Hid, unlessV, hd]
  have hB0 : Below w.heap.size w ((w.alloc (.cells #[.int .i64 N, .int .i64 lo, .int .i64 hi] 25)).alloc (.cells #[.int .i64 o, .int .i64 a] 27)) := ((Below.refl _ w).alloc (Nat.le_refl _) _).alloc (by simp) _
  have c0 : ((w.alloc (.cells #[.int .i64 N, .int .i64 lo, .int .i64 hi] 25)).alloc (.cells #[.int .i64 o, .int .i64 a] 27)).cell? ⟨w.heap.size, 0, none⟩ = some (.int .i64 N) := by simp [go_sem]
  have c1 : ((w.alloc (.cells #[.int .i64 N, .int .i64 lo, .int .i64 hi] 25)).alloc (.cells #[.int .i64 o, .int .i64 a] 27)).cell? ⟨w.heap.size, 1, none⟩ = some (.int .i64 lo) := by simp [go_sem]
  have c2 : ((w.alloc (.cells #[.int .i64 N, .int .i64 lo, .int .i64 hi] 25)).alloc (.cells #[.int .i64 o, .int .i64 a] 27)).cell? ⟨w.heap.size, 2, none⟩ = some (.int .i64 hi) := by simp [go_sem]
  have c3 : ((w.alloc (.cells #[.int .i64 N, .int .i64 lo, .int .i64 hi] 25)).alloc (.cells #[.int .i64 o, .int .i64 a] 27)).cell? ⟨w.heap.size + 1, 0, none⟩ = some (.int .i64 o) := by simp [go_sem]
  have c4 : ((w.alloc (.cells #[.int .i64 N, .int .i64 lo, .int .i64 hi] 25)).alloc (.cells #[.int .i64 o, .int .i64 a] 27)).cell? ⟨w.heap.size + 1, 1, none⟩ = some (.int .i64 a) := by simp [go_sem]
  have s1 := Lib.hid (fun (W : World) (h : Below ((w.alloc (.cells #[.int .i64 N, .int .i64 lo, .int .i64 hi] 25)).alloc (.cells #[.int .i64 o, .int .i64 a] 27)).heap.size ((w.alloc (.cells #[.int .i64 N, .int .i64 lo, .int .i64 hi] 25)).alloc (.cells #[.int .i64 o, .int .i64 a] 27)) W) => And.intro (keepsB h c0) ( And.intro (keepsB h c1) ( And.intro (keepsB h c2) ( And.intro (keepsB h c3) (keepsB h c4)))))
  have HB0 := Lib.hid hB0
  clear hB0 c0 c1 c2 c3 c4
  go_enter Tryd.func17, Tryd.ntmps17
  go_wp2_with fail
  generalize ((w.alloc (.cells #[.int .i64 N, .int .i64 lo, .int .i64 hi] 25)).alloc (.cells #[.int .i64 o, .int .i64 a] 27)) = W0 at *
  generalize hbb : w.heap.size = bb at *
  have HBB := Lib.hid hbb
  clear hbb
  have hs0 : bb ≤ W0.heap.size := by have h1 := HB0.out.size; have h2 := HBB.out; omega
  refine (begun_ok N lo hi _ hc).mono ?_
  rintro e w1 ⟨hb, mb, kb, cb, rfl, hH, hmb, hhb, hB1⟩
  have HB1 := Lib.hid hB1
  have HH := Lib.hid (And.intro hH (And.intro hmb hhb))
  have hbags := hH.bags
  clear hB1 hH hmb hhb
  obtain ⟨dw1_0, dw1_1, dw1_2, dw1_3, dw1_4⟩ := s1.out w1 HB1.out
  have hs1 := HB1.out.size
  go_wp2_with fail
  refine (rule_any hb N o a 13 _ hbags hx.out).mono ?_
  rintro e w2 ⟨rfl, hB2⟩
  have HB2 := Lib.hid (HB1.out.trans (hB2.mono hs1))
  have HH2 := Lib.hid (HH.out.1.kept (.of_below hB2))
  have hs2 := hB2.size
  clear hB2
  obtain ⟨dw2_0, dw2_1, dw2_2, dw2_3, dw2_4⟩ := s1.out w2 HB2.out
  go_wp2_with fail
  have hbb := HBB.out
  subst hbb
  exact bodyPost_ret (v := .tuple #[.slice none 0 0, .int .i64 13]) (by simp [results, Tryd.results17, go_sem]) rfl ⟨rfl, HB0.out.trans (HB2.out.mono hs0)⟩

set_option maxRecDepth 100000 in
set_option maxHeartbeats 2000000 in
theorem curve_c (N lo hi o a : Int) (w : World) (hc : cargoB N lo hi = true) (hd : drawB N o a = true) :
    Calls Tryd.prog 17 #[.agg #[.int .i64 N, .int .i64 lo, .int .i64 hi], .agg #[.int .i64 o, .int .i64 a]] w fun e w' => (∃ v, e = .returned (.tuple #[v, .int .i64 0]) ∧ PL (curveL N lo o a (hi - lo + 1).toNat) v w') ∧ Below w.heap.size w w' := by
  have hN := (cargoB_iff N lo hi).1 hc
  have hD := (drawB_iff N o a).1 hd
  have hx : Hid (unlessV (drawB N o a) 13 = 0) := by simp [Hid, unlessV, hd]
  clear hd
  have hB0 : Below w.heap.size w ((w.alloc (.cells #[.int .i64 N, .int .i64 lo, .int .i64 hi] 25)).alloc (.cells #[.int .i64 o, .int .i64 a] 27)) := ((Below.refl _ w).alloc (Nat.le_refl _) _).alloc (by simp) _
  have c0 : ((w.alloc (.cells #[.int .i64 N, .int .i64 lo, .int .i64 hi] 25)).alloc (.cells #[.int .i64 o, .int .i64 a] 27)).cell? ⟨w.heap.size, 0, none⟩ = some (.int .i64 N) := by simp [go_sem]
  have c1 : ((w.alloc (.cells #[.int .i64 N, .int .i64 lo, .int .i64 hi] 25)).alloc (.cells #[.int .i64 o, .int .i64 a] 27)).cell? ⟨w.heap.size, 1, none⟩ = some (.int .i64 lo) := by simp [go_sem]
  have c2 : ((w.alloc (.cells #[.int .i64 N, .int .i64 lo, .int .i64 hi] 25)).alloc (.cells #[.int .i64 o, .int .i64 a] 27)).cell? ⟨w.heap.size, 2, none⟩ = some (.int .i64 hi) := by simp [go_sem]
  have c3 : ((w.alloc (.cells #[.int .i64 N, .int .i64 lo, .int .i64 hi] 25)).alloc (.cells #[.int .i64 o, .int .i64 a] 27)).cell? ⟨w.heap.size + 1, 0, none⟩ = some (.int .i64 o) := by simp [go_sem]
  have c4 : ((w.alloc (.cells #[.int .i64 N, .int .i64 lo, .int .i64 hi] 25)).alloc (.cells #[.int .i64 o, .int .i64 a] 27)).cell? ⟨w.heap.size + 1, 1, none⟩ = some (.int .i64 a) := by simp [go_sem]
  have s1 := Lib.hid (fun (W : World) (h : Below ((w.alloc (.cells #[.int .i64 N, .int .i64 lo, .int .i64 hi] 25)).alloc (.cells #[.int .i64 o, .int .i64 a] 27)).heap.size ((w.alloc (.cells #[.int .i64 N, .int .i64 lo, .int .i64 hi] 25)).alloc (.cells #[.int .i64 o, .int .i64 a] 27)) W) => And.intro (keepsB h c0) ( And.intro (keepsB h c1) ( And.intro (keepsB h c2) ( And.intro (keepsB h c3) (keepsB h c4)))))
  have HB0 := Lib.hid hB0
  clear hB0 c0 c1 c2 c3 c4
  go_enter Tryd.func17, Tryd.ntmps17
  go_wp2_with fail
  generalize ((w.alloc (.cells #[.int .i64 N, .int .i64 lo, .int .i64 hi] 25)).alloc (.cells #[.int .i64 o, .int .i64 a] 27)) = W0 at *
  generalize hbb : w.heap.size = bb at *
  have HBB := Lib.hid hbb
  clear hbb
  have hs0 : bb ≤ W0.heap.size := by have h1 := HB0.out.size; have h2 := HBB.out; omega
  refine (begun_ok N lo hi _ hc).mono ?_
  rintro e w1 ⟨hb, mb, kb, cb, rfl, hH, hmb, hhb, hB1⟩
  have HB1 := Lib.hid hB1
  have HH := Lib.hid (And.intro hH (And.intro hmb hhb))
  have hbags := hH.bags
  clear hB1 hH hmb hhb
  obtain ⟨dw1_0, dw1_1, dw1_2, dw1_3, dw1_4⟩ := s1.out w1 HB1.out
  have hs1 := HB1.out.size
  go_wp2_with fail
  refine (rule_any hb N o a 0 _ hbags hx.out).mono ?_
  rintro e w2 ⟨rfl, hB2⟩
  have HB2 := Lib.hid (HB1.out.trans (hB2.mono hs1))
  have HH2 := Lib.hid (HH.out.1.kept (.of_below hB2))
  have hs2 := hB2.size
  clear hB2
  obtain ⟨dw2_0, dw2_1, dw2_2, dw2_3, dw2_4⟩ := s1.out w2 HB2.out
  have hlo2 := HH2.out.lo
  have hhi2 := HH2.out.hi
  have hF : ∀ W, Free.Bel w2.drew W → W.cell? ⟨hb, 1, none⟩ = some (.int .i64 lo) ∧ W.cell? ⟨hb, 2, none⟩ = some (.int .i64 hi) := fun W hW => ⟨keepsB (Free.Bel.first hW) hlo2, keepsB (Free.Bel.first hW) hhi2⟩
  go_wp2_with fail
  refine Free.wp_free (R := Free.Bel) (by kernel_rfl) (by kernel_rfl) Free.Bel.refl Free.Bel.trans ?_
  refine Free.Chain.ex ?_ [] [6] (by kernel_rfl) (by kernel_rfl) rfl Free.Bel.refl ?_ ?_
  rotate_left
  · (intro ev W hb hR hO hD; have hS := hF W hR; obtain ⟨hb1, hb2, hb3⟩ := hb; simp only [Free.AllDeps, Free.AllOuts, Free.At, List.getElem?_cons_succ, List.getElem?_cons_zero, Array.getD_eq_getD_getElem?, List.getElem?_toArray, Option.getD_some, and_true] at hO hD; go_simp; rfl)
  simp only [List.nil_append, List.cons_append]
  refine Free.Chain.ex ?_ [(0, 25)] [] (by kernel_rfl) (by kernel_rfl) rfl Free.Bel.refl ?_ ?_
  rotate_left
  · (intro ev W hb hR hO hD; have hS := hF W hR; obtain ⟨hb1, hb2, hb3⟩ := hb; simp only [Free.AllDeps, Free.AllOuts, Free.At, List.getElem?_cons_succ, List.getElem?_cons_zero, Array.getD_eq_getD_getElem?, List.getElem?_toArray, Option.getD_some, and_true] at hO hD; go_simp; rfl)
  simp only [List.nil_append, List.cons_append]
  refine Free.Chain.ex ?_ [(1, 26)] [] (by kernel_rfl) (by kernel_rfl) rfl Free.Bel.refl ?_ ?_
  rotate_left
  · (intro ev W hb hR hO hD; have hS := hF W hR; obtain ⟨hb1, hb2, hb3⟩ := hb; simp only [Free.AllDeps, Free.AllOuts, Free.At, List.getElem?_cons_succ, List.getElem?_cons_zero, Array.getD_eq_getD_getElem?, List.getElem?_toArray, Option.getD_some, and_true] at hO hD; go_simp; rfl)
  simp only [List.nil_append, List.cons_append]
  refine Free.Chain.ex ?_ [(2, 27)] [] (by kernel_rfl) (by kernel_rfl) rfl Free.Bel.refl ?_ ?_
  rotate_left
  · (intro ev W hb hR hO hD; have hS := hF W hR; obtain ⟨hb1, hb2, hb3⟩ := hb; simp only [Free.AllDeps, Free.AllOuts, Free.At, List.getElem?_cons_succ, List.getElem?_cons_zero, Array.getD_eq_getD_getElem?, List.getElem?_toArray, Option.getD_some, and_true] at hO hD; go_simp; rfl)
  simp only [List.nil_append, List.cons_append]
  refine Free.Chain.ex ?_ [(3, 28)] [] (by kernel_rfl) (by kernel_rfl) rfl Free.Bel.refl ?_ ?_
  rotate_left
  · (intro ev W hb hR hO hD; have hS := hF W hR; obtain ⟨hb1, hb2, hb3⟩ := hb; simp only [Free.AllDeps, Free.AllOuts, Free.At, List.getElem?_cons_succ, List.getElem?_cons_zero, Array.getD_eq_getD_getElem?, List.getElem?_toArray, Option.getD_some, and_true] at hO hD; go_simp; rfl)
  simp only [List.nil_append, List.cons_append]
  refine Free.Chain.ex ?_ [(4, 29)] [] (by kernel_rfl) (by kernel_rfl) rfl Free.Bel.refl ?_ ?_
  rotate_left
  · (intro ev W hb hR hO hD; have hS := hF W hR; obtain ⟨hb1, hb2, hb3⟩ := hb; simp only [Free.AllDeps, Free.AllOuts, Free.At, List.getElem?_cons_succ, List.getElem?_cons_zero, Array.getD_eq_getD_getElem?, List.getElem?_toArray, Option.getD_some, and_true] at hO hD; go_simp; rfl)
  simp only [List.nil_append, List.cons_append]
  refine Free.Chain.ex ?_ [] [6] (by kernel_rfl) (by kernel_rfl) rfl Free.Bel.refl ?_ ?_
  rotate_left
  · (intro ev W hb hR hO hD; have hS := hF W hR; obtain ⟨hb1, hb2, hb3⟩ := hb; simp only [Free.AllDeps, Free.AllOuts, Free.At, List.getElem?_cons_succ, List.getElem?_cons_zero, Array.getD_eq_getD_getElem?, List.getElem?_toArray, Option.getD_some, and_true] at hO hD; go_simp; rfl)
  simp only [List.nil_append, List.cons_append]
  refine Free.Chain.ex ?_ [(6, 31)] [] (by kernel_rfl) (by kernel_rfl) rfl Free.Bel.refl ?_ ?_
  rotate_left
  · (intro ev W hb hR hO hD; have hS := hF W hR; obtain ⟨hb1, hb2, hb3⟩ := hb; simp only [Free.AllDeps, Free.AllOuts, Free.At, List.getElem?_cons_succ, List.getElem?_cons_zero, Array.getD_eq_getD_getElem?, List.getElem?_toArray, Option.getD_some, and_true] at hO hD; go_simp; rfl)
  simp only [List.nil_append, List.cons_append]
  refine Free.Chain.ex ?_ [(7, 32)] [] (by kernel_rfl) (by kernel_rfl) rfl Free.Bel.refl ?_ ?_
  rotate_left
  · (intro ev W hb hR hO hD; have hS := hF W hR; obtain ⟨hb1, hb2, hb3⟩ := hb; simp only [Free.AllDeps, Free.AllOuts, Free.At, List.getElem?_cons_succ, List.getElem?_cons_zero, Array.getD_eq_getD_getElem?, List.getElem?_toArray, Option.getD_some, and_true] at hO hD; go_simp; rfl)
  simp only [List.nil_append, List.cons_append]
  refine Free.Chain.ex ?_ [(8, 33)] [] (by kernel_rfl) (by kernel_rfl) rfl Free.Bel.refl ?_ ?_
  rotate_left
  · (intro ev W hb hR hO hD; have hS := hF W hR; obtain ⟨hb1, hb2, hb3⟩ := hb; simp only [Free.AllDeps, Free.AllOuts, Free.At, List.getElem?_cons_succ, List.getElem?_cons_zero, Array.getD_eq_getD_getElem?, List.getElem?_toArray, Option.getD_some, and_true] at hO hD; go_simp; rfl)
  simp only [List.nil_append, List.cons_append]
  refine Free.Chain.ex ?_ [(9, 34)] [] (by kernel_rfl) (by kernel_rfl) rfl Free.Bel.refl ?_ ?_
  rotate_left
  · (intro ev W hb hR hO hD; have hS := hF W hR; obtain ⟨hb1, hb2, hb3⟩ := hb; simp only [Free.AllDeps, Free.AllOuts, Free.At, List.getElem?_cons_succ, List.getElem?_cons_zero, Array.getD_eq_getD_getElem?, List.getElem?_toArray, Option.getD_some, and_true] at hO hD; go_simp; rfl)
  simp only [List.nil_append, List.cons_append]
  refine Free.Chain.ex ?_ [(10, 35)] [] (by kernel_rfl) (by kernel_rfl) rfl Free.Bel.refl ?_ ?_
  rotate_left
  · (intro ev W hb hR hO hD; have hS := hF W hR; obtain ⟨hb1, hb2, hb3⟩ := hb; simp only [Free.AllDeps, Free.AllOuts, Free.At, List.getElem?_cons_succ, List.getElem?_cons_zero, Array.getD_eq_getD_getElem?, List.getElem?_toArray, Option.getD_some, and_true] at hO hD; go_simp; rfl)
  simp only [List.nil_append, List.cons_append]
  refine Free.Chain.ex ?_ [(5, 30), (11, 36)] [] (by kernel_rfl) (by kernel_rfl) rfl Free.Bel.refl ?_ ?_
  rotate_left
  · (intro ev W hb hR hO hD; have hS := hF W hR; obtain ⟨hb1, hb2, hb3⟩ := hb; simp only [Free.AllDeps, Free.AllOuts, Free.At, List.getElem?_cons_succ, List.getElem?_cons_zero, Array.getD_eq_getD_getElem?, List.getElem?_toArray, Option.getD_some, and_true] at hO hD; go_simp; rfl)
  simp only [List.nil_append, List.cons_append]
  refine Free.Chain.ex ?_ [(12, 37)] [] (by kernel_rfl) (by kernel_rfl) rfl Free.Bel.refl ?_ ?_
  rotate_left
  · (intro ev W hb hR hO hD; have hS := hF W hR; obtain ⟨hb1, hb2, hb3⟩ := hb; simp only [Free.AllDeps, Free.AllOuts, Free.At, List.getElem?_cons_succ, List.getElem?_cons_zero, Array.getD_eq_getD_getElem?, List.getElem?_toArray, Option.getD_some, and_true] at hO hD; go_simp; rfl)
  simp only [List.nil_append, List.cons_append]
  refine Free.Chain.ex ?_ [] [] (by kernel_rfl) (by kernel_rfl) rfl Free.Bel.refl ?_ ?_
  rotate_left
  · (intro ev W hb hR hO hD; have hS := hF W hR; obtain ⟨hb1, hb2, hb3⟩ := hb; simp only [Free.AllDeps, Free.AllOuts, Free.At, List.getElem?_cons_succ, List.getElem?_cons_zero, Array.getD_eq_getD_getElem?, List.getElem?_toArray, Option.getD_some, and_true] at hO hD; go_simp; rfl)
  simp only [List.nil_append, List.cons_append]
  intro xs w' hR hV
  simp only [Free.AllV, Free.At, List.length_cons, List.length_nil, Nat.reduceAdd, List.getElem?_cons_succ, List.getElem?_cons_zero, true_and] at hV
  simp only [Free.putsFrom, Act.put, hV, List.setIfInBounds_toArray, List.set_cons_succ, List.set_cons_zero]
  have HB3 := Lib.hid (HB2.out.trans ((Free.Bel.first hR).mono (Nat.le_trans hs1 hs2)))
  have HH3 := Lib.hid (HH2.out.kept (.of_below (Free.Bel.first hR)))
  have hs3 := (Free.Bel.first hR).size
  obtain ⟨dw3_0, dw3_1, dw3_2, dw3_3, dw3_4⟩ := s1.out w' HB3.out
  have HMB := Lib.hid (show bb ≤ mb ∧ bb ≤ w'.heap.size ∧ mb < w'.heap.size from ⟨Nat.le_trans hs0 HH.out.2.1, by omega, by obtain ⟨l, hl, _⟩ := HH3.out.ctr.memo; exact hl.lt⟩)
  have HN3 := Lib.hid (HH3.out.ctr.memo.ne dw3_3)
  have HC := Lib.hid (And.intro dw3_3 dw3_4)
  clear hR hV hF
  go_wp2_with fail
  go_loopw [9, 39] (fun l i wr => ∃ k : Nat, (k : Int) ≤ hi - lo + 1 ∧ i = .int .i64 k ∧ Hid (wr.ownsRow w'.heap.size 31 2 l k (cellsP (curveL N lo o a k))) ∧ Hid (KeptB w'.heap.size mb w' wr)) (fun _ i _ => (hi - lo + 1 - intOf i).toNat)
  case atStart => exact ⟨0, by omega, rfl, World.ownsRow_nil _ _ _ _, KeptB.refl _ _ _⟩
  case round =>
    obtain ⟨k, hk, rfl, hrow, hKB⟩ := hrel
    by_cases hlt : (k : Int) < hi - lo + 1
    · have hKk : Kept mb w' wr := hKB.out.kept (Nat.le_refl _)
      have HHr := Lib.hid (HH3.out.kept hKk)
      have hss := hKB.out.size
      have HHW := Lib.hid (fun (W : World) (hW : KeptB w'.heap.size mb wr.drew W) => (hKB.out.trans ⟨hW.os, hW.tape, hW.output, hW.size, hW.block, hW.memo⟩).kept (Nat.le_refl _))
      clear hKk
      obtain ⟨p, q, hpq⟩ : ∃ p q : Int, partP N (lo + k) o a = (p, q) := ⟨_, _, rfl⟩
      have HPQ := Lib.hid hpq
      clear hpq
      have HM3 := Lib.hid HMB.out.2.2
      have HNN := Lib.hid (And.intro hN hD)
      have hwr : IntKind.i64.wrap (lo + k) = lo + k := IntWalk.i64_in _ (by omega)
      go_wp2_with fail
      have hF : ∀ W, KeptB w'.heap.size mb wr.drew W → Hold hb N lo hi mb kb cb W ∧ W.cell? ⟨bb + 1, 0, none⟩ = some (.int .i64 o) ∧ W.cell? ⟨bb + 1, 1, none⟩ = some (.int .i64 a) ∧ w'.heap.size ≤ W.heap.size ∧ W.cell? ⟨hb, 1, none⟩ = some (.int .i64 lo) := fun W hW => by
        have hK := HHW.out W hW
        have hH := HH3.out.kept hK
        exact ⟨hH, hK.cell HC.out.1 HN3.out, hK.cell HC.out.2 HN3.out, hK.size, hH.lo⟩
      refine Free2.wp_free (R := KeptB w'.heap.size mb) (J := J1 w'.heap.size mb 12 13 14 31 2 u9 k (cellsP (curveL N lo o a k)) [.int .i64 p, .int .i64 q]) (by kernel_rfl) (by kernel_rfl) (KeptB.refl _ _) (fun _ _ _ => KeptB.trans) (J1.start hrow.out) ?_
      refine Free2.Chain.ex ?_ 0 rfl [] [9] (by kernel_rfl) (by kernel_rfl) rfl (KeptB.refl _ _) (fun X W v h => J1.skip h 0 v (show (0 : Nat) ≠ 13 by decide) (show (0 : Nat) ≠ 12 by decide) (show (0 : Nat) ≠ 14 by decide)) ?_ ?_
      rotate_left
      · (intro ev W hb hR hO hD; have hS := hF W hR; obtain ⟨hb1, hb2, hb3⟩ := hb; simp only [Free.AllDeps, Free.AllOuts, Free.At, List.getElem?_cons_succ, List.getElem?_cons_zero, Array.getD_eq_getD_getElem?, List.getElem?_toArray, Option.getD_some, and_true] at hO hD; go_simp; rfl)
      simp only [List.nil_append, List.cons_append]
      refine Free2.Chain.ex ?_ 1 rfl [] [6] (by kernel_rfl) (by kernel_rfl) rfl (KeptB.refl _ _) (fun X W v h => J1.skip h 1 v (show (1 : Nat) ≠ 13 by decide) (show (1 : Nat) ≠ 12 by decide) (show (1 : Nat) ≠ 14 by decide)) ?_ ?_
      rotate_left
      · (intro ev W hb hR hO hD; have hS := hF W hR; obtain ⟨hb1, hb2, hb3⟩ := hb; simp only [Free.AllDeps, Free.AllOuts, Free.At, List.getElem?_cons_succ, List.getElem?_cons_zero, Array.getD_eq_getD_getElem?, List.getElem?_toArray, Option.getD_some, and_true] at hO hD; go_simp; rfl)
      simp only [List.nil_append, List.cons_append]
      refine Free2.Chain.ex ?_ 2 rfl [] [3] (by kernel_rfl) (by kernel_rfl) rfl (KeptB.refl _ _) (fun X W v h => J1.skip h 2 v (show (2 : Nat) ≠ 13 by decide) (show (2 : Nat) ≠ 12 by decide) (show (2 : Nat) ≠ 14 by decide)) ?_ ?_
      rotate_left
      · (intro ev W hb hR hO hD; have hS := hF W hR; obtain ⟨hb1, hb2, hb3⟩ := hb; simp only [Free.AllDeps, Free.AllOuts, Free.At, List.getElem?_cons_succ, List.getElem?_cons_zero, Array.getD_eq_getD_getElem?, List.getElem?_toArray, Option.getD_some, and_true] at hO hD; go_simp; rfl)
      simp only [List.nil_append, List.cons_append]
      refine Free2.Chain.ex ?_ 3 rfl [] [6] (by kernel_rfl) (by kernel_rfl) rfl (KeptB.refl _ _) (fun X W v h => J1.skip h 3 v (show (3 : Nat) ≠ 13 by decide) (show (3 : Nat) ≠ 12 by decide) (show (3 : Nat) ≠ 14 by decide)) ?_ ?_
      rotate_left
      · (intro ev W hb hR hO hD; have hS := hF W hR; obtain ⟨hb1, hb2, hb3⟩ := hb; simp only [Free.AllDeps, Free.AllOuts, Free.At, List.getElem?_cons_succ, List.getElem?_cons_zero, Array.getD_eq_getD_getElem?, List.getElem?_toArray, Option.getD_some, and_true] at hO hD; go_simp; rfl)
      simp only [List.nil_append, List.cons_append]
      refine Free2.Chain.ex ?_ 4 rfl [(3, 45)] [] (by kernel_rfl) (by kernel_rfl) rfl (KeptB.refl _ _) (fun X W v h => J1.skip h 4 v (show (4 : Nat) ≠ 13 by decide) (show (4 : Nat) ≠ 12 by decide) (show (4 : Nat) ≠ 14 by decide)) ?_ ?_
      rotate_left
      · (intro ev W hb hR hO hD; have hS := hF W hR; obtain ⟨hb1, hb2, hb3⟩ := hb; simp only [Free.AllDeps, Free.AllOuts, Free.At, List.getElem?_cons_succ, List.getElem?_cons_zero, Array.getD_eq_getD_getElem?, List.getElem?_toArray, Option.getD_some, and_true] at hO hD; go_simp; rfl)
      simp only [List.nil_append, List.cons_append]
      refine Free2.Chain.ex ?_ 5 rfl [(4, 46)] [] (by kernel_rfl) (by kernel_rfl) rfl (KeptB.refl _ _) (fun X W v h => J1.skip h 5 v (show (5 : Nat) ≠ 13 by decide) (show (5 : Nat) ≠ 12 by decide) (show (5 : Nat) ≠ 14 by decide)) ?_ ?_
      rotate_left
      · (intro ev W hb hR hO hD; have hS := hF W hR; obtain ⟨hb1, hb2, hb3⟩ := hb; simp only [Free.AllDeps, Free.AllOuts, Free.At, List.getElem?_cons_succ, List.getElem?_cons_zero, Array.getD_eq_getD_getElem?, List.getElem?_toArray, Option.getD_some, and_true] at hO hD; go_simp; rfl)
      simp only [List.nil_append, List.cons_append]
      refine Free2.Chain.ex ?_ 6 rfl [(5, 47)] [] (by kernel_rfl) (by kernel_rfl) rfl (KeptB.refl _ _) (fun X W v h => J1.skip h 6 v (show (6 : Nat) ≠ 13 by decide) (show (6 : Nat) ≠ 12 by decide) (show (6 : Nat) ≠ 14 by decide)) ?_ ?_
      rotate_left
      · (intro ev W hb hR hO hD; have hS := hF W hR; obtain ⟨hb1, hb2, hb3⟩ := hb; simp only [Free.AllDeps, Free.AllOuts, Free.At, List.getElem?_cons_succ, List.getElem?_cons_zero, Array.getD_eq_getD_getElem?, List.getElem?_toArray, Option.getD_some, and_true] at hO hD; go_simp; rfl)
      simp only [List.nil_append, List.cons_append]
      refine Free2.Chain.ex ?_ 7 rfl [(6, 48)] [] (by kernel_rfl) (by kernel_rfl) rfl (KeptB.refl _ _) (fun X W v h => J1.skip h 7 v (show (7 : Nat) ≠ 13 by decide) (show (7 : Nat) ≠ 12 by decide) (show (7 : Nat) ≠ 14 by decide)) ?_ ?_
      rotate_left
      · (intro ev W hb hR hO hD; have hS := hF W hR; obtain ⟨hb1, hb2, hb3⟩ := hb; simp only [Free.AllDeps, Free.AllOuts, Free.At, List.getElem?_cons_succ, List.getElem?_cons_zero, Array.getD_eq_getD_getElem?, List.getElem?_toArray, Option.getD_some, and_true] at hO hD; go_simp; rfl)
      simp only [List.nil_append, List.cons_append]
      refine Free2.Chain.ex ?_ 8 rfl [(7, 49)] [] (by kernel_rfl) (by kernel_rfl) rfl (KeptB.refl _ _) (fun X W v h => J1.skip h 8 v (show (8 : Nat) ≠ 13 by decide) (show (8 : Nat) ≠ 12 by decide) (show (8 : Nat) ≠ 14 by decide)) ?_ ?_
      rotate_left
      · (intro ev W hb hR hO hD; have hS := hF W hR; obtain ⟨hb1, hb2, hb3⟩ := hb; simp only [Free.AllDeps, Free.AllOuts, Free.At, List.getElem?_cons_succ, List.getElem?_cons_zero, Array.getD_eq_getD_getElem?, List.getElem?_toArray, Option.getD_some, and_true] at hO hD; go_simp; rfl)
      simp only [List.nil_append, List.cons_append]
      refine Free2.Chain.ex ?_ 9 rfl [] [10] (by kernel_rfl) (by kernel_rfl) rfl (KeptB.refl _ _) (fun X W v h => J1.skip h 9 v (show (9 : Nat) ≠ 13 by decide) (show (9 : Nat) ≠ 12 by decide) (show (9 : Nat) ≠ 14 by decide)) ?_ ?_
      rotate_left
      · (intro ev W hb hR hO hD; have hS := hF W hR; obtain ⟨hb1, hb2, hb3⟩ := hb; simp only [Free.AllDeps, Free.AllOuts, Free.At, List.getElem?_cons_succ, List.getElem?_cons_zero, Array.getD_eq_getD_getElem?, List.getElem?_toArray, Option.getD_some, and_true] at hO hD; go_simp; rfl)
      simp only [List.nil_append, List.cons_append]
      refine Free2.Chain.ex ?_ 10 rfl [(8, 50), (9, 51)] [] (by kernel_rfl) (by kernel_rfl) rfl (KeptB.refl _ _) (fun X W v h => J1.skip h 10 v (show (10 : Nat) ≠ 13 by decide) (show (10 : Nat) ≠ 12 by decide) (show (10 : Nat) ≠ 14 by decide)) ?_ ?_
      rotate_left
      · (intro ev W hb hR hO hD; have hS := hF W hR; obtain ⟨hb1, hb2, hb3⟩ := hb; simp only [Free.AllDeps, Free.AllOuts, Free.At, List.getElem?_cons_succ, List.getElem?_cons_zero, Array.getD_eq_getD_getElem?, List.getElem?_toArray, Option.getD_some, and_true] at hO hD; go_simp; rfl)
      simp only [List.nil_append, List.cons_append]
      refine Free2.Chain.pr (fun v _ => v = .agg #[.int .i64 p, .int .i64 q]) 11 rfl [(1, 43), (2, 44), (10, 52)] [] (by kernel_rfl) (by kernel_rfl) rfl (fun _ _ _ _ h => h) ?_ ?_
      · (intro ev W X hb hR hO hD hj hx hax; have hS := hF W hR; obtain ⟨hb1, hb2, hb3⟩ := hb; simp only [Free.AllDeps, Free.AllOuts, Free.At, List.getElem?_cons_succ, List.getElem?_cons_zero, Array.getD_eq_getD_getElem?, List.getElem?_toArray, Option.getD_some, and_true] at hO hD; simp only [Free2.AllX, and_true] at hax; go_simp; refine (accepts_any hb N lo hi (lo + k) o a mb kb cb _ (.agg #[.int .i64 p, .int .i64 q]) (partP_val HPQ.out) hS.1 HNN.out.1.2.1 (by have := HNN.out.1; omega) (by have := HNN.out.1; omega) (by have := HNN.out.2; omega)).mono ?_; rintro e W1 ⟨rfl, hK1⟩; exact ⟨_, rfl, KeptB.of_kept hK1 hS.2.2.2.1, rfl, (hj.kept hK1 HM3.out).skip 11 _ (by decide) (by decide) (by decide)⟩)
      simp only [List.nil_append, List.cons_append]
      refine Free2.Chain.pr (fun _ _ => True) 12 rfl [(11, 53)] [] (by kernel_rfl) (by kernel_rfl) rfl (fun _ _ _ _ h => h) ?_ ?_
      · (intro ev W X hb hR hO hD hj hx hax; have hS := hF W hR; obtain ⟨hb1, hb2, hb3⟩ := hb; simp only [Free.AllDeps, Free.AllOuts, Free.At, List.getElem?_cons_succ, List.getElem?_cons_zero, Array.getD_eq_getD_getElem?, List.getElem?_toArray, Option.getD_some, and_true] at hO hD; simp only [Free2.AllX, and_true] at hax; obtain ⟨ml, hml, _⟩ := hS.1.ctr.memo; have hmlt := hml.lt; clear hml; go_simp; exact ⟨KeptB.of_kept ((Kept.refl _ _).alloc _) hS.2.2.2.1, (hj.kept ((Kept.refl _ _).alloc _) HM3.out).made (by decide) (by decide) (by omega) (cells2_new _ _ _ _)⟩)
      simp only [List.nil_append, List.cons_append]
      refine Free2.Chain.pr (fun _ _ => True) 13 rfl [(0, 42), (12, 54), (11, 53)] [] (by kernel_rfl) (by kernel_rfl) rfl (fun _ _ _ _ h => h) ?_ ?_
      · (intro ev W X hb hR hO hD hj hx hax; have hS := hF W hR; obtain ⟨hb1, hb2, hb3⟩ := hb; simp only [Free.AllDeps, Free.AllOuts, Free.At, List.getElem?_cons_succ, List.getElem?_cons_zero, Array.getD_eq_getD_getElem?, List.getElem?_toArray, Option.getD_some, and_true] at hO hD; simp only [Free2.AllX, and_true] at hax; obtain ⟨i0, hi0, hz0, hz1, hz2⟩ := info_parts T.infoPart; obtain ⟨sb, hsb, hsne, hsc⟩ := hj.src _ hax.2.1 hx; obtain ⟨v2, W2, hr2, ho2, hg2, _⟩ := run_append_own_wide (P := Tryd.prog) W w'.heap.size 37 37 31 i0 (.agg #[.int .i64 0, .int .i64 0]) 2 16 Tryd.underlying37 hi0 hz0 hz1 hz2 rfl (by decide) u9 k _ (hj.old hx) ⟨sb, 0, none⟩ 1 1 [.int .i64 p, .int .i64 q] rfl hsc (by simp [Value.oneCell']) (by have := HNN.out.1; unfold maxLen; omega) (by have := HNN.out.1; omega) hS.2.2.2.1; simp only [execOp, resolve, invoke, builtin, Sem.run_bind, Sem.run_pure, Result.andThen_ok, List.map_toArray, List.map_cons, List.map_nil, hD.1, hsb, hr2]; exact ⟨KeptB.of_grown (hj.old hx) hg2 HM3.out hS.2.2.2.1, trivial, hj.set (by decide) hx ho2⟩)
      simp only [List.nil_append, List.cons_append]
      refine Free2.Chain.pr (fun _ _ => True) 14 rfl [(13, 55), (13, 55), (0, 42), (1, 43), (2, 44), (3, 45), (4, 46), (5, 47), (6, 48), (7, 49), (8, 50), (9, 51), (10, 52), (11, 53), (12, 54), (13, 55)] [] (by kernel_rfl) (by kernel_rfl) rfl (fun _ _ _ _ h => h) ?_ ?_
      · (intro ev W X hb hR hO hD hj hx hax; have hS := hF W hR; obtain ⟨hb1, hb2, hb3⟩ := hb; simp only [Free.AllDeps, Free.AllOuts, Free.At, List.getElem?_cons_succ, List.getElem?_cons_zero, Array.getD_eq_getD_getElem?, List.getElem?_toArray, Option.getD_some, and_true] at hO hD; simp only [Free2.AllX, and_true] at hax; go_simp; exact ⟨KeptB.refl _ _ _, hj.keep (by decide) (by decide) hax.1⟩)
      simp only [List.nil_append, List.cons_append]
      intro xs w5 hR hV hX
      obtain ⟨X, hj, hxx⟩ := hX
      have hlast := hxx 14 (show (14 : Nat) < 15 by decide)
      have hrow5 := Lib.hid (hj.now _ (hj.same _ hlast))
      simp only [Free.AllV, Free.At, List.length_cons, List.length_nil, Nat.reduceAdd, List.getElem?_cons_succ, List.getElem?_cons_zero, true_and, and_true] at hV
      simp only [Free.putsFrom, Act.put, hV, List.setIfInBounds_toArray, List.set_cons_succ, List.set_cons_zero]
      have hKB5 := Lib.hid (hKB.out.trans (KeptB.trans (show KeptB w'.heap.size mb wr wr.drew from ⟨rfl, rfl, rfl, Nat.le_refl _, fun _ _ _ => rfl, id⟩) hR))
      generalize xs 14 = v14 at *
      clear hR hV hj hxx hlast hF
      go_wp2_with fail
      go_roundw
      case rel => exact ⟨k + 1, by omega, by go_num, by have h := hrow5.out; rw [curveL_succ, cellsP_append, HPQ.out]; exact h, hKB5.out⟩
      case measure => simp [intOf]; omega
    · have hk2 : k = (hi - lo + 1).toNat := by omega
      have HBE := Lib.hid (hKB.out.kept (Nat.le_refl _))
      have HK2 := Lib.hid hk2
      clear hk2
      go_wp2_with fail
      have hbb := HBB.out
      subst hbb
      refine bodyPost_ret (v := .tuple #[u9, .int .i64 0]) (by simp [results, Tryd.results17, go_sem]) rfl ⟨⟨u9, rfl, ?_⟩, ?_⟩
      · rw [← HK2.out]
        exact PL.of_row (by simp [curveL]) (by unfold maxLen; omega) hrow.out
      · exact HB0.out.trans ((HBE.out.below (HB3.out) (by have := HMB.out; have := HH.out.2.1; omega)).mono hs0)
end Go.Proofs.YthhallnkpbgomaaDoor
