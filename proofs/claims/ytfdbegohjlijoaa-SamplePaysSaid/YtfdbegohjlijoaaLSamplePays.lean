/- For every input the law SamplePays returns true, and its arguments read behind the call as they read before. No condition. -/
/- The reference's allowances and awards. -/
import Derived.Test.YtfdbegohjlijoaaB4
import Derived.OwnWalk
import Derived.Laws.OwnMore
import Derived.Laws.AppendOwnNone
namespace Go.Proofs.Ytfdbegohjlijoaa
set_option linter.unusedSimpArgs false
set_option linter.unusedVariables false
open Go.RowKit Go.Proofs.Ytfdbegohjlijoaa.ML Go.Proofs.Ytfdbegohjlijoaa.Samp

theorem one_div (x : Int) (h : 0 ≤ x) : x.tdiv 2 = x / 2 := Int.tdiv_eq_ediv_of_nonneg h

set_option maxRecDepth 100000 in
set_option maxHeartbeats 2000000 in
theorem sameT_any (xs : List (Int × Int)) (u v : Value) (w : World) (hu : PL xs u w) (hv : PL xs v w) :
    Calls Try.prog 33 #[u, v] w fun e w' => e = .returned (.bool true) ∧ Below w.heap.size w w' := by
  obtain ⟨p, cp, rfl, hm, hp⟩ := hu
  obtain ⟨q, cq, rfl, _, hq⟩ := hv
  unfold maxLen at hm
  have HP := Lib.hid hp
  have HQ := Lib.hid hq
  clear hp hq
  go_enter Try.func33, Try.ntmps33
  go_wp2_with fail
  go_loopw [5] (fun i wr => ∃ k : Nat, k ≤ xs.length ∧ i = .int .i64 k ∧ Below w.heap.size w wr) (fun i _ => xs.length - (intOf i).toNat)
  case atStart => exact ⟨0, Nat.zero_le _, rfl, Below.refl _ _⟩
  case round =>
    obtain ⟨k, hk, rfl, hB⟩ := hrel
    by_cases hlt : k < xs.length
    · have hx : xs ≠ [] := by intro e; simp [e] at hlt
      obtain ⟨b, off, rfl, hcp⟩ := HP.out hx
      obtain ⟨b2, off2, rfl, hcq⟩ := HQ.out hx
      have e1 := keepsB hB (hcp k hlt).1
      have e2 := keepsB hB (hcp k hlt).2
      have e3 := keepsB hB (hcq k hlt).1
      have e4 := keepsB hB (hcq k hlt).2
      have HC := Lib.hid (And.intro e1 (And.intro e2 (And.intro e3 e4)))
      have hklt : (k : Int) < xs.length := by omega
      generalize xs[k] = x at *
      obtain ⟨x1, x2⟩ := x
      clear hcp hcq
      go_wp2_with fail
      have hF : ∀ W, Free.Bel wr.drew W → W.cell? ⟨b, off + k * 2, none⟩ = some (.int .i64 x1) ∧ W.cell? ⟨b, off + k * 2 + 1, none⟩ = some (.int .i64 x2) ∧ W.cell? ⟨b2, off2 + k * 2, none⟩ = some (.int .i64 x1) ∧ W.cell? ⟨b2, off2 + k * 2 + 1, none⟩ = some (.int .i64 x2) :=
        fun W hW => ⟨keepsB (Free.Bel.first hW) HC.out.1, keepsB (Free.Bel.first hW) HC.out.2.1, keepsB (Free.Bel.first hW) HC.out.2.2.1, keepsB (Free.Bel.first hW) HC.out.2.2.2⟩
      refine Free.wp_free (R := Free.Bel) (by kernel_rfl) (by kernel_rfl) Free.Bel.refl Free.Bel.trans ?_
      refine Free.Chain.ex ?_ [] [0] (by kernel_rfl) (by kernel_rfl) rfl Free.Bel.refl ?_ ?_
      rotate_left 2
      simp only [an1, an2]
      refine Free.Chain.ex ?_ [] [5] (by kernel_rfl) (by kernel_rfl) rfl Free.Bel.refl ?_ ?_
      rotate_left 2
      simp only [an1, an2]
      refine Free.Chain.ex ?_ [(0, 17), (1, 18)] [] (by kernel_rfl) (by kernel_rfl) rfl Free.Bel.refl ?_ ?_
      rotate_left 2
      simp only [an1, an2]
      refine Free.Chain.ex ?_ [(2, 19)] [] (by kernel_rfl) (by kernel_rfl) rfl Free.Bel.refl ?_ ?_
      rotate_left 2
      simp only [an1, an2]
      refine Free.Chain.ex ?_ [] [1] (by kernel_rfl) (by kernel_rfl) rfl Free.Bel.refl ?_ ?_
      rotate_left 2
      simp only [an1, an2]
      refine Free.Chain.ex ?_ [] [5] (by kernel_rfl) (by kernel_rfl) rfl Free.Bel.refl ?_ ?_
      rotate_left 2
      simp only [an1, an2]
      refine Free.Chain.ex ?_ [(4, 21), (5, 22)] [] (by kernel_rfl) (by kernel_rfl) rfl Free.Bel.refl ?_ ?_
      rotate_left 2
      simp only [an1, an2]
      refine Free.Chain.ex ?_ [(6, 23)] [] (by kernel_rfl) (by kernel_rfl) rfl Free.Bel.refl ?_ ?_
      rotate_left 2
      simp only [an1, an2]
      refine Free.Chain.ex ?_ [(3, 20), (7, 24)] [] (by kernel_rfl) (by kernel_rfl) rfl Free.Bel.refl ?_ ?_
      rotate_left 2
      simp only [an1, an2]
      rotate_left
      iterate 9 (rotate_left; intro ev W hb hR hO hD; have hS := hF W hR; obtain ⟨hb1, hb2, hb3⟩ := hb; simp only [Free.AllDeps, Free.AllOuts, Free.At, al1, al2, al3, al4, al5, and_true] at hO hD; go_simp; rfl)
      intro xs w' hR hV
      simp only [Free.AllV, Free.At, List.length_cons, List.length_nil, Nat.reduceAdd, List.getElem?_cons_succ, List.getElem?_cons_zero, true_and] at hV
      simp only [Free.putsFrom, Act.put, hV, List.setIfInBounds_toArray, List.set_cons_succ, List.set_cons_zero]
      have HB2 := Lib.hid (hB.trans ((Free.Bel.first hR).mono hB.size))
      clear hR hV hF
      go_wp2_with fail
      go_roundw
      case rel => exact ⟨k + 1, by omega, by go_num, HB2.out⟩
      case measure => simp [intOf]; omega
    · obtain rfl : k = xs.length := by omega
      go_wp2_with fail
      go_ret
      exact ⟨rfl, hB⟩

/-- The last hit of a list, from the front. -/
def foldF (o f : Int) (l : List (Int × Int)) (a : Int) : Int := l.foldl (fun a x => if offB o f x = true then x.2 else a) a
theorem foldF_any (o f : Int) : ∀ (l : List (Int × Int)) (a : Int), foldF o f l a = if l.any (offB o f) = true then foldF o f l 0 else a
  | [], a => by simp [foldF]
  | x :: l, a => by
    have h1 := foldF_any o f l (if offB o f x = true then x.2 else a)
    have h2 := foldF_any o f l (if offB o f x = true then x.2 else 0)
    show foldF o f l (if offB o f x = true then x.2 else a) = if (x :: l).any (offB o f) = true then foldF o f l (if offB o f x = true then x.2 else 0) else a
    rw [h1, h2, List.any_cons]
    cases hx : offB o f x <;> cases hl : l.any (offB o f) <;> simp
theorem offR_append (o f : Int) (l : List (Int × Int × Int)) (x : Int × Int × Int) : offR o f (l ++ [x]) = if l.any (fun y => offB o f y.2) = true then offR o f l else if offB o f x.2 = true then x.2.2 else 0 := by
  induction l with
  | nil => simp [offR_cons]; rfl
  | cons y l ih =>
    rw [List.cons_append, offR_cons, offR_cons, ih, List.any_cons]
    cases hy : offB o f y.2 with
    | true => simp
    | false =>
      simp only [Bool.false_or, Bool.false_eq_true, if_false]
theorem fold_rev (o f : Int) (xs : List (Int × Int)) : ∀ k, k ≤ xs.length → offR o f (revT xs k) = foldF o f (xs.drop (xs.length - k)) 0 ∧ (revT xs k).any (fun y => offB o f y.2) = (xs.drop (xs.length - k)).any (offB o f)
  | 0, _ => by simp [revT, offR, foldF]
  | k + 1, hk => by
    obtain ⟨h1, h2⟩ := fold_rev o f xs k (by omega)
    have hl : xs.length - (k + 1) < xs.length := by omega
    have hd : xs.drop (xs.length - (k + 1)) = xs[xs.length - (k + 1)] :: xs.drop (xs.length - k) := by
      rw [List.drop_eq_getElem_cons hl]; congr 2; omega
    have hg : xs.getD (xs.length - (k + 1)) (0, 0) = xs[xs.length - (k + 1)] := by
      simp only [List.getD_eq_getElem?_getD, List.getElem?_eq_getElem hl, Option.getD_some]
    rw [revT, hg, hd, offR_append, h1, h2]
    constructor
    · show _ = foldF o f (xs.drop (xs.length - k)) (if offB o f xs[xs.length - (k + 1)] = true then xs[xs.length - (k + 1)].2 else 0)
      rw [foldF_any o f _ (if offB o f xs[xs.length - (k + 1)] = true then xs[xs.length - (k + 1)].2 else 0)]
    · rw [List.any_append, h2, List.any_cons, List.any_cons, List.any_nil, Bool.or_false, Bool.or_comm]
theorem fold_offV (xs : List (Int × Int)) (o f : Int) : foldF o f xs 0 = offV xs o f := by
  have := (fold_rev o f xs xs.length (Nat.le_refl _)).1
  rw [Nat.sub_self, List.drop_zero] at this
  exact this.symm
theorem fold_step (xs : List (Int × Int)) (o f : Int) (k : Nat) (h : k < xs.length) : foldF o f (xs.take (k + 1)) 0 = if offB o f xs[k] = true then xs[k].2 else foldF o f (xs.take k) 0 := by
  rw [List.take_succ_eq_append_getElem h, foldF, List.foldl_append]
  rfl

set_option maxRecDepth 100000 in
set_option maxHeartbeats 2000000 in
theorem offRv_any (xs : List (Int × Int)) (v : Value) (o f : Int) (w : World) (hv : PL xs v w) (hxs : ∀ t ∈ xs, 0 ≤ t.1 ∧ t.1 ≤ 100) (ho : 0 ≤ o ∧ o ≤ 36) (hf : 0 ≤ f ∧ f ≤ 36) :
    Calls Try.prog 68 #[v, .int .i64 o, .int .i64 f] w fun e w' => e = .returned (.int .i64 (offV xs o f)) ∧ Below w.heap.size w w' := by
  obtain ⟨pp, cap, rfl, hm, hcells⟩ := hv
  unfold maxLen at hm
  have HC := Lib.hid hcells
  have HXS := Lib.hid hxs
  clear hcells hxs
  go_enter Try.func68, Try.ntmps68
  go_wp2_with fail
  go_loopw [8, 7] (fun i s wr => ∃ k : Nat, k ≤ xs.length ∧ i = .int .i64 k ∧ s = .int .i64 (foldF o f (xs.take k) 0) ∧ Free.Bel w wr) (fun i _ _ => xs.length - (intOf i).toNat)
  case atStart => exact ⟨0, Nat.zero_le _, rfl, rfl, Free.Bel.refl _⟩
  case round =>
    obtain ⟨k, hk, rfl, rfl, hB⟩ := hrel
    by_cases hlt : k < xs.length
    · obtain ⟨b, off, rfl, hcs⟩ := HC.out (by intro h; rw [h] at hlt; simp at hlt)
      obtain ⟨e0, e1⟩ := hcs k hlt
      have c0 := keepsB hB e0
      have c1 := keepsB hB e1
      have hx := HXS.out xs[k] (List.getElem_mem hlt)
      have hst := fold_step xs o f k hlt
      have hklt : (k : Int) < xs.length := by omega
      clear hcs e0 e1
      generalize xs[k] = t at *
      obtain ⟨x, y⟩ := t
      have hxo : 0 ≤ x * o ∧ x * o ≤ 100 * 36 := ⟨Int.mul_nonneg hx.1 ho.1, Int.mul_le_mul hx.2 ho.2 ho.1 (by omega)⟩
      have hw1 : IntKind.i64.wrap (x * o) = x * o := IntWalk.i64_in _ (by omega)
      have hw2 : IntKind.i64.wrap (100 * f) = 100 * f := IntWalk.i64_in _ (by omega)
      obtain ⟨s0, hs0⟩ : ∃ s, foldF o f (xs.take k) 0 = s := ⟨_, rfl⟩
      rw [hs0] at hst ⊢
      have HST := Lib.hid hst
      clear hst hs0 hx hxo
      by_cases h1 : 0 < o
      · have k1 : decide (0 < o) = true := decide_eq_true h1
        by_cases h2 : x * o ≤ 100 * f
        · have k2 : decide (x * o ≤ 100 * f) = true := decide_eq_true h2
          go_wp2_with fail
          go_roundw
          case rel => exact ⟨k + 1, by omega, by go_num, by rw [HST.out, if_pos (by simp [offB, k1, k2])], hB⟩
          case measure => simp [intOf]; omega
        · have k2 : decide (x * o ≤ 100 * f) = false := decide_eq_false h2
          go_wp2_with fail
          go_roundw
          case rel => exact ⟨k + 1, by omega, by go_num, by rw [HST.out, if_neg (by simp [offB, k1, k2])], hB⟩
          case measure => simp [intOf]; omega
      · have k1 : decide (0 < o) = false := decide_eq_false h1
        go_wp2_with fail
        go_roundw
        case rel => exact ⟨k + 1, by omega, by go_num, by rw [HST.out, if_neg (by simp [offB, k1])], hB⟩
        case measure => simp [intOf]; omega
    · obtain rfl : k = xs.length := by omega
      have hfin : foldF o f (xs.take xs.length) 0 = offV xs o f := by rw [List.take_length, fold_offV]
      rw [hfin]
      go_wp2_with fail
      go_ret
      exact ⟨rfl, hB⟩

set_option maxRecDepth 100000 in
set_option maxHeartbeats 2000000 in
theorem offRa_a (ts : List (Int × Int)) (v : Value) (o f : Int) (w : World) (hv : PL ts v w) (HX : Hid (Hid (decide (agreedE ts = 0) = false))) :
    Calls Try.prog 28 #[v, .agg #[.int .i64 o, .int .i64 f]] w fun e w' => e = .returned (.tuple #[.int .i64 0, .int .i64 14]) ∧ Below w.heap.size w w' := by
  have hB0 : Below w.heap.size w (w.alloc (.cells #[.int .i64 o, .int .i64 f] 27)) := (Below.refl _ w).alloc (Nat.le_refl _) _
  have c0_0 : (w.alloc (.cells #[.int .i64 o, .int .i64 f] 27)).cell? ⟨w.heap.size, 0, none⟩ = some (.int .i64 o) := by simp [go_sem]
  have c0_1 : (w.alloc (.cells #[.int .i64 o, .int .i64 f] 27)).cell? ⟨w.heap.size, 1, none⟩ = some (.int .i64 f) := by simp [go_sem]
  have HV0 := Lib.hid (fun (W : World) (hW : Free.Bel (w.alloc (.cells #[.int .i64 o, .int .i64 f] 27)) W) => (hv.keeps hB0).keeps hW)
  clear hv
  go_enter Try.func28, Try.ntmps28
  go_wp2_with fail
  refine (terms_v ts v _ ((HV0.out _ (Free.Bel.refl _))) false HX.out).mono ?_
  rintro e w1 ⟨rfl, hB1⟩
  have K_w1 : Free.Bel (w.alloc (.cells #[.int .i64 o, .int .i64 f] 27)) w1 := by
    refine bt ?_ hB1
    repeat (first | exact Free.Bel.refl _ | refine Bel.allocT ?_ _ | refine Bel.drewT ?_)
  clear hB1
  have hq : w.heap.size + 1 = (w.alloc (.cells #[.int .i64 o, .int .i64 f] 27)).heap.size := by simp
  generalize (w.alloc (.cells #[.int .i64 o, .int .i64 f] 27)) = W0 at *
  generalize hbb : w.heap.size = bb at *
  have HBB := Lib.hid hbb
  clear hbb
  have HB0 := Lib.hid hB0
  have hq0 : bb + 1 ≤ W0.heap.size := by omega
  clear hB0 hq
  have FA : ∀ W, Free.Bel W0 W → W.cell? ⟨bb, 0, none⟩ = some (.int .i64 o) ∧ W.cell? ⟨bb, 1, none⟩ = some (.int .i64 f) ∧ bb + 1 ≤ W.heap.size := fun W hW => ⟨keepsB hW c0_0, keepsB hW c0_1, Nat.le_trans hq0 hW.size⟩
  clear c0_0 c0_1
  go_wp2_with fail
  go_ret2
  have hbb := HBB.out
  subst hbb
  exact ⟨rfl, HB0.out.trans (K_w1.mono (by omega))⟩

set_option maxRecDepth 100000 in
set_option maxHeartbeats 2000000 in
theorem offRa_b (ts : List (Int × Int)) (v : Value) (o f : Int) (w : World) (hv : PL ts v w) (HX : Hid (Hid (decide (agreedE ts = 0) = true))) (HO : Hid (inB 0 36 [o] = false)) :
    Calls Try.prog 28 #[v, .agg #[.int .i64 o, .int .i64 f]] w fun e w' => e = .returned (.tuple #[.int .i64 0, .int .i64 11]) ∧ Below w.heap.size w w' := by
  have hB0 : Below w.heap.size w (w.alloc (.cells #[.int .i64 o, .int .i64 f] 27)) := (Below.refl _ w).alloc (Nat.le_refl _) _
  have c0_0 : (w.alloc (.cells #[.int .i64 o, .int .i64 f] 27)).cell? ⟨w.heap.size, 0, none⟩ = some (.int .i64 o) := by simp [go_sem]
  have c0_1 : (w.alloc (.cells #[.int .i64 o, .int .i64 f] 27)).cell? ⟨w.heap.size, 1, none⟩ = some (.int .i64 f) := by simp [go_sem]
  have HV0 := Lib.hid (fun (W : World) (hW : Free.Bel (w.alloc (.cells #[.int .i64 o, .int .i64 f] 27)) W) => (hv.keeps hB0).keeps hW)
  clear hv
  go_enter Try.func28, Try.ntmps28
  go_wp2_with fail
  refine (terms_v ts v _ ((HV0.out _ (Free.Bel.refl _))) true HX.out).mono ?_
  rintro e w1 ⟨rfl, hB1⟩
  have K_w1 : Free.Bel (w.alloc (.cells #[.int .i64 o, .int .i64 f] 27)) w1 := by
    refine bt ?_ hB1
    repeat (first | exact Free.Bel.refl _ | refine Bel.allocT ?_ _ | refine Bel.drewT ?_)
  clear hB1
  have hq : w.heap.size + 1 = (w.alloc (.cells #[.int .i64 o, .int .i64 f] 27)).heap.size := by simp
  generalize (w.alloc (.cells #[.int .i64 o, .int .i64 f] 27)) = W0 at *
  generalize hbb : w.heap.size = bb at *
  have HBB := Lib.hid hbb
  clear hbb
  have HB0 := Lib.hid hB0
  have hq0 : bb + 1 ≤ W0.heap.size := by omega
  clear hB0 hq
  have FA : ∀ W, Free.Bel W0 W → W.cell? ⟨bb, 0, none⟩ = some (.int .i64 o) ∧ W.cell? ⟨bb, 1, none⟩ = some (.int .i64 f) ∧ bb + 1 ≤ W.heap.size := fun W hW => ⟨keepsB hW c0_0, keepsB hW c0_1, Nat.le_trans hq0 hW.size⟩
  clear c0_0 c0_1
  go_wp2_with fail
  refine (within_any o 0 36 false _ HO.out).mono ?_
  rintro e _ ⟨rfl, rfl⟩
  go_wp2_with fail
  go_ret2
  have hbb := HBB.out
  subst hbb
  exact ⟨rfl, HB0.out.trans (K_w1.mono (by omega))⟩

set_option maxRecDepth 100000 in
set_option maxHeartbeats 2000000 in
theorem offRa_c (ts : List (Int × Int)) (v : Value) (o f : Int) (w : World) (hv : PL ts v w) (HX : Hid (Hid (decide (agreedE ts = 0) = true))) (HO : Hid (inB 0 36 [o] = true)) (HP : Hid (inB 0 o [f] = false)) :
    Calls Try.prog 28 #[v, .agg #[.int .i64 o, .int .i64 f]] w fun e w' => e = .returned (.tuple #[.int .i64 0, .int .i64 11]) ∧ Below w.heap.size w w' := by
  have hB0 : Below w.heap.size w (w.alloc (.cells #[.int .i64 o, .int .i64 f] 27)) := (Below.refl _ w).alloc (Nat.le_refl _) _
  have c0_0 : (w.alloc (.cells #[.int .i64 o, .int .i64 f] 27)).cell? ⟨w.heap.size, 0, none⟩ = some (.int .i64 o) := by simp [go_sem]
  have c0_1 : (w.alloc (.cells #[.int .i64 o, .int .i64 f] 27)).cell? ⟨w.heap.size, 1, none⟩ = some (.int .i64 f) := by simp [go_sem]
  have HV0 := Lib.hid (fun (W : World) (hW : Free.Bel (w.alloc (.cells #[.int .i64 o, .int .i64 f] 27)) W) => (hv.keeps hB0).keeps hW)
  clear hv
  go_enter Try.func28, Try.ntmps28
  go_wp2_with fail
  refine (terms_v ts v _ ((HV0.out _ (Free.Bel.refl _))) true HX.out).mono ?_
  rintro e w1 ⟨rfl, hB1⟩
  have K_w1 : Free.Bel (w.alloc (.cells #[.int .i64 o, .int .i64 f] 27)) w1 := by
    refine bt ?_ hB1
    repeat (first | exact Free.Bel.refl _ | refine Bel.allocT ?_ _ | refine Bel.drewT ?_)
  clear hB1
  have hq : w.heap.size + 1 = (w.alloc (.cells #[.int .i64 o, .int .i64 f] 27)).heap.size := by simp
  generalize (w.alloc (.cells #[.int .i64 o, .int .i64 f] 27)) = W0 at *
  generalize hbb : w.heap.size = bb at *
  have HBB := Lib.hid hbb
  clear hbb
  have HB0 := Lib.hid hB0
  have hq0 : bb + 1 ≤ W0.heap.size := by omega
  clear hB0 hq
  have FA : ∀ W, Free.Bel W0 W → W.cell? ⟨bb, 0, none⟩ = some (.int .i64 o) ∧ W.cell? ⟨bb, 1, none⟩ = some (.int .i64 f) ∧ bb + 1 ≤ W.heap.size := fun W hW => ⟨keepsB hW c0_0, keepsB hW c0_1, Nat.le_trans hq0 hW.size⟩
  clear c0_0 c0_1
  go_wp2_with fail
  refine (within_any o 0 36 true _ HO.out).mono ?_
  rintro e _ ⟨rfl, rfl⟩
  go_wp2_with fail
  refine (within_any f 0 o false _ HP.out).mono ?_
  rintro e _ ⟨rfl, rfl⟩
  go_wp2_with fail
  go_ret2
  have hbb := HBB.out
  subst hbb
  exact ⟨rfl, HB0.out.trans (K_w1.mono (by omega))⟩

set_option maxRecDepth 100000 in
set_option maxHeartbeats 2000000 in
theorem offRa_d (ts : List (Int × Int)) (v : Value) (o f : Int) (w : World) (hv : PL ts v w) (HX : Hid (Hid (decide (agreedE ts = 0) = true))) (HO : Hid (inB 0 36 [o] = true)) (HP : Hid (inB 0 o [f] = true)) (hts : Hid (∀ t ∈ ts, 0 ≤ t.1 ∧ t.1 ≤ 100)) (ho : 0 ≤ o ∧ o ≤ 36) (hf : 0 ≤ f ∧ f ≤ 36) :
    Calls Try.prog 28 #[v, .agg #[.int .i64 o, .int .i64 f]] w fun e w' => e = .returned (.tuple #[.int .i64 (offV ts o f), .int .i64 0]) ∧ Below w.heap.size w w' := by
  have hB0 : Below w.heap.size w (w.alloc (.cells #[.int .i64 o, .int .i64 f] 27)) := (Below.refl _ w).alloc (Nat.le_refl _) _
  have c0_0 : (w.alloc (.cells #[.int .i64 o, .int .i64 f] 27)).cell? ⟨w.heap.size, 0, none⟩ = some (.int .i64 o) := by simp [go_sem]
  have c0_1 : (w.alloc (.cells #[.int .i64 o, .int .i64 f] 27)).cell? ⟨w.heap.size, 1, none⟩ = some (.int .i64 f) := by simp [go_sem]
  have HV0 := Lib.hid (fun (W : World) (hW : Free.Bel (w.alloc (.cells #[.int .i64 o, .int .i64 f] 27)) W) => (hv.keeps hB0).keeps hW)
  clear hv
  go_enter Try.func28, Try.ntmps28
  go_wp2_with fail
  refine (terms_v ts v _ ((HV0.out _ (Free.Bel.refl _))) true HX.out).mono ?_
  rintro e w1 ⟨rfl, hB1⟩
  have K_w1 : Free.Bel (w.alloc (.cells #[.int .i64 o, .int .i64 f] 27)) w1 := by
    refine bt ?_ hB1
    repeat (first | exact Free.Bel.refl _ | refine Bel.allocT ?_ _ | refine Bel.drewT ?_)
  clear hB1
  have hq : w.heap.size + 1 = (w.alloc (.cells #[.int .i64 o, .int .i64 f] 27)).heap.size := by simp
  generalize (w.alloc (.cells #[.int .i64 o, .int .i64 f] 27)) = W0 at *
  generalize hbb : w.heap.size = bb at *
  have HBB := Lib.hid hbb
  clear hbb
  have HB0 := Lib.hid hB0
  have hq0 : bb + 1 ≤ W0.heap.size := by omega
  clear hB0 hq
  have FA : ∀ W, Free.Bel W0 W → W.cell? ⟨bb, 0, none⟩ = some (.int .i64 o) ∧ W.cell? ⟨bb, 1, none⟩ = some (.int .i64 f) ∧ bb + 1 ≤ W.heap.size := fun W hW => ⟨keepsB hW c0_0, keepsB hW c0_1, Nat.le_trans hq0 hW.size⟩
  clear c0_0 c0_1
  go_wp2_with fail
  refine (within_any o 0 36 true _ HO.out).mono ?_
  rintro e _ ⟨rfl, rfl⟩
  go_wp2_with fail
  refine (within_any f 0 o true _ HP.out).mono ?_
  rintro e _ ⟨rfl, rfl⟩
  go_wp2_with fail
  refine (offRv_any ts v o f _ (HV0.out _ K_w1) hts.out ho hf).mono ?_
  rintro e w2 ⟨rfl, hB2⟩
  have K_w2 : Free.Bel W0 w2 := by
    refine bt ?_ hB2
    repeat (first | exact K_w1 | exact Free.Bel.refl _ | refine Bel.allocT ?_ _ | refine Bel.drewT ?_)
  clear hB2
  go_wp2_with fail
  go_ret2
  have hbb := HBB.out
  subst hbb
  exact ⟨rfl, HB0.out.trans (K_w2.mono (by omega))⟩

theorem offRa_any (xs : List (Int × Int)) (v : Value) (o f : Int) (w : World) (hv : PL xs v w) :
    Calls Try.prog 28 #[v, .agg #[.int .i64 o, .int .i64 f]] w fun e w' => e = .returned (offAll xs o f) ∧ Below w.heap.size w w' := by
  by_cases hx : agreedE xs = 0
  · have HX : Hid (Hid (decide (agreedE xs = 0) = true)) := decide_eq_true hx
    cases h1 : inB 0 36 [o]
    · have := offRa_b xs v o f w hv HX h1
      rw [offAll, if_pos (by simp [offE, hx, drawB, h1, unlessV, firstE])]
      simpa [offE, hx, drawB, h1, unlessV, firstE] using this
    · cases h2 : inB 0 o [f]
      · have := offRa_c xs v o f w hv HX h1 h2
        rw [offAll, if_pos (by simp [offE, hx, drawB, h1, h2, unlessV, firstE])]
        simpa [offE, hx, drawB, h1, h2, unlessV, firstE] using this
      · have ho : 0 ≤ o ∧ o ≤ 36 := by simpa [inB] using h1
        have hf : 0 ≤ f ∧ f ≤ o := by simpa [inB] using h2
        have := offRa_d xs v o f w hv HX h1 h2 (agreedE_mem hx) ho ⟨hf.1, by omega⟩
        rw [offAll, if_neg (by simp [offE, hx, drawB, h1, h2, unlessV, firstE])]
        exact this
  · have h14 : agreedE xs = 14 := by
      unfold agreedE unlessV at hx ⊢
      split
      · rfl
      · rename_i h; rw [if_neg h] at hx; revert hx; cases decide ((xs.length : Int) ≤ 5) <;> simp
    have HX : Hid (Hid (decide (agreedE xs = 0) = false)) := decide_eq_false hx
    have := offRa_a xs v o f w hv HX
    have he : offE xs o f = 14 := by simp [offE, h14, firstE]
    rw [offAll, if_pos (by rw [he]; decide), he]
    exact this

set_option maxRecDepth 100000 in
set_option maxHeartbeats 2000000 in
theorem awardR_a (a b u : Int) (w : World) (Ha : Hid (inB 0 1000000 [a] = false)) :
    Calls Try.prog 32 #[.int .i64 a, .int .i64 b, .int .i64 u] w fun e w' => e = .returned (.tuple #[.int .i64 0, .int .i64 2]) ∧ w = w' := by
  go_enter Try.func32, Try.ntmps32
  go_wp2_with fail
  refine (within_any a 0 1000000 false _ Ha.out).mono ?_
  rintro e _ ⟨rfl, rfl⟩
  go_wp2_with fail
  go_ret2
  exact ⟨rfl, rfl⟩

set_option maxRecDepth 100000 in
set_option maxHeartbeats 2000000 in
theorem awardR_b (a b u : Int) (w : World) (Ha : Hid (inB 0 1000000 [a] = true))(Hb : Hid (inB 0 1000000 [b] = false)) :
    Calls Try.prog 32 #[.int .i64 a, .int .i64 b, .int .i64 u] w fun e w' => e = .returned (.tuple #[.int .i64 0, .int .i64 2]) ∧ w = w' := by
  go_enter Try.func32, Try.ntmps32
  go_wp2_with fail
  refine (within_any a 0 1000000 true _ Ha.out).mono ?_
  rintro e _ ⟨rfl, rfl⟩
  go_wp2_with fail
  refine (within_any b 0 1000000 false _ Hb.out).mono ?_
  rintro e _ ⟨rfl, rfl⟩
  go_wp2_with fail
  go_ret2
  exact ⟨rfl, rfl⟩

set_option maxRecDepth 100000 in
set_option maxHeartbeats 2000000 in
theorem awardR_c (a b u : Int) (w : World) (Ha : Hid (inB 0 1000000 [a] = true))(Hb : Hid (inB 0 1000000 [b] = true))(Hu : Hid (inB 0 1000000 [u] = false)) :
    Calls Try.prog 32 #[.int .i64 a, .int .i64 b, .int .i64 u] w fun e w' => e = .returned (.tuple #[.int .i64 0, .int .i64 2]) ∧ w = w' := by
  go_enter Try.func32, Try.ntmps32
  go_wp2_with fail
  refine (within_any a 0 1000000 true _ Ha.out).mono ?_
  rintro e _ ⟨rfl, rfl⟩
  go_wp2_with fail
  refine (within_any b 0 1000000 true _ Hb.out).mono ?_
  rintro e _ ⟨rfl, rfl⟩
  go_wp2_with fail
  refine (within_any u 0 1000000 false _ Hu.out).mono ?_
  rintro e _ ⟨rfl, rfl⟩
  go_wp2_with fail
  go_ret2
  exact ⟨rfl, rfl⟩

set_option maxRecDepth 100000 in
set_option maxHeartbeats 2000000 in
theorem awardR_d (a b u : Int) (w : World) (Ha : Hid (inB 0 1000000 [a] = true))(Hb : Hid (inB 0 1000000 [b] = true))(Hu : Hid (inB 0 1000000 [u] = true)) (hb : (0 ≤ a ∧ a ≤ 1000000) ∧ (0 ≤ b ∧ b ≤ 1000000) ∧ 0 ≤ u ∧ u ≤ 1000000) :
    Calls Try.prog 32 #[.int .i64 a, .int .i64 b, .int .i64 u] w fun e w' => e = .returned (.tuple #[.int .i64 (awardV a b u), .int .i64 0]) ∧ w = w' := by
  have w1 : IntKind.i64.wrap (max a b - min a b) = max a b - min a b := IntWalk.i64_in _ (by omega)
  have w2 : IntKind.i64.wrap (10 * (max a b - min a b)) = 10 * (max a b - min a b) := IntWalk.i64_in _ (by omega)
  have w3 : IntKind.i64.wrap (a + b) = a + b := IntWalk.i64_in _ (by omega)
  have w4 : (a + b).tdiv 2 = (a + b) / 2 := one_div _ (by omega)
  have w5 : IntKind.i64.wrap ((a + b) / 2) = (a + b) / 2 := IntWalk.i64_in _ (by omega)
  by_cases h1 : 10 * (max a b - min a b) ≤ max a b
  · have k1 : decide (10 * (max a b - min a b) ≤ max a b) = true := decide_eq_true h1
    have hr : awardV a b u = (a + b) / 2 := by rw [awardV, if_pos (by omega)]
    have HR := Lib.hid hr
    clear hr
    rw [HR.out]
    go_enter Try.func32, Try.ntmps32
    go_wp2_with fail
    refine (within_any a 0 1000000 true _ Ha.out).mono ?_
    rintro e _ ⟨rfl, rfl⟩
    go_wp2_with fail
    refine (within_any b 0 1000000 true _ Hb.out).mono ?_
    rintro e _ ⟨rfl, rfl⟩
    go_wp2_with fail
    refine (within_any u 0 1000000 true _ Hu.out).mono ?_
    rintro e _ ⟨rfl, rfl⟩
    go_wp2_with fail
    go_ret2
    exact ⟨rfl, rfl⟩
  · have k1 : decide (10 * (max a b - min a b) ≤ max a b) = false := decide_eq_false h1
    have hr : awardV a b u = max (min a b) (min (max a b) u) := by rw [awardV, if_neg (by omega)]
    have HR := Lib.hid hr
    clear hr
    rw [HR.out]
    go_enter Try.func32, Try.ntmps32
    go_wp2_with fail
    refine (within_any a 0 1000000 true _ Ha.out).mono ?_
    rintro e _ ⟨rfl, rfl⟩
    go_wp2_with fail
    refine (within_any b 0 1000000 true _ Hb.out).mono ?_
    rintro e _ ⟨rfl, rfl⟩
    go_wp2_with fail
    refine (within_any u 0 1000000 true _ Hu.out).mono ?_
    rintro e _ ⟨rfl, rfl⟩
    go_wp2_with fail
    go_ret2
    exact ⟨rfl, rfl⟩

theorem awardR_any (a b u : Int) (w : World) :
    Calls Try.prog 32 #[.int .i64 a, .int .i64 b, .int .i64 u] w fun e w' => e = .returned (.tuple (if awardB a b u = false then #[.int .i64 0, .int .i64 2] else #[.int .i64 (awardV a b u), .int .i64 0])) ∧ w = w' := by
  have hsplit : awardB a b u = (inB 0 1000000 [a] && (inB 0 1000000 [b] && inB 0 1000000 [u])) := by simp [awardB, inB]
  cases h1 : inB 0 1000000 [a]
  · rw [if_pos (by rw [hsplit, h1]; rfl)]; exact awardR_a a b u w h1
  · cases h2 : inB 0 1000000 [b]
    · rw [if_pos (by rw [hsplit, h1, h2]; rfl)]; exact awardR_b a b u w h1 h2
    · cases h3 : inB 0 1000000 [u]
      · rw [if_pos (by rw [hsplit, h1, h2, h3]; rfl)]; exact awardR_c a b u w h1 h2 h3
      · rw [if_neg (by rw [hsplit, h1, h2, h3]; decide)]
        exact awardR_d a b u w h1 h2 h3 ⟨by simpa [inB] using h1, by simpa [inB] using h2, by simpa [inB] using h3⟩
end Go.Proofs.Ytfdbegohjlijoaa

/- The reference's Fair. -/
namespace Go.Proofs.Ytfdbegohjlijoaa
set_option linter.unusedSimpArgs false
set_option linter.unusedVariables false
open Go.RowKit Go.Proofs.Ytfdbegohjlijoaa.ML Go.Proofs.Ytfdbegohjlijoaa.Samp

set_option maxRecDepth 100000 in
set_option maxHeartbeats 4000000 in
theorem fairR_a (N lo hi D o : Int) (ts : List (Int × Int)) (pp : Option Addr) (cap : Nat) (w : World) (hv : PL ts (.slice pp ts.length cap) w) (HC : Hid (cargoB N lo hi = false)) :
    Calls Try.prog 30 #[.agg #[.int .i64 N, .int .i64 lo, .int .i64 hi], .int .i64 D, .int .i64 o, (.slice pp ts.length cap)] w fun e w' => e = .returned (.tuple #[.agg #[.int .i64 0, .int .i64 0], .int .i64 10]) ∧ Below w.heap.size w w' := by
  have hB0 : Below w.heap.size w ((w.alloc (.cells #[.int .i64 N, .int .i64 lo, .int .i64 hi] 25)).alloc (.cells #[.int .i64 0, .int .i64 0] 34)) := ((Below.refl _ w).alloc (Nat.le_refl _) _).alloc (by simp) _
  have c0_0 : ((w.alloc (.cells #[.int .i64 N, .int .i64 lo, .int .i64 hi] 25)).alloc (.cells #[.int .i64 0, .int .i64 0] 34)).cell? ⟨w.heap.size, 0, none⟩ = some (.int .i64 N) := by simp [go_sem]
  have c0_1 : ((w.alloc (.cells #[.int .i64 N, .int .i64 lo, .int .i64 hi] 25)).alloc (.cells #[.int .i64 0, .int .i64 0] 34)).cell? ⟨w.heap.size, 1, none⟩ = some (.int .i64 lo) := by simp [go_sem]
  have c0_2 : ((w.alloc (.cells #[.int .i64 N, .int .i64 lo, .int .i64 hi] 25)).alloc (.cells #[.int .i64 0, .int .i64 0] 34)).cell? ⟨w.heap.size, 2, none⟩ = some (.int .i64 hi) := by simp [go_sem]
  have c1_0 : ((w.alloc (.cells #[.int .i64 N, .int .i64 lo, .int .i64 hi] 25)).alloc (.cells #[.int .i64 0, .int .i64 0] 34)).cell? ⟨w.heap.size + 1, 0, none⟩ = some (.int .i64 0) := by simp [go_sem]
  have c1_1 : ((w.alloc (.cells #[.int .i64 N, .int .i64 lo, .int .i64 hi] 25)).alloc (.cells #[.int .i64 0, .int .i64 0] 34)).cell? ⟨w.heap.size + 1, 1, none⟩ = some (.int .i64 0) := by simp [go_sem]
  have f1_0 : ((w.alloc (.cells #[.int .i64 N, .int .i64 lo, .int .i64 hi] 25)).alloc (.cells #[.int .i64 0, .int .i64 0] 34)).frozen? ⟨w.heap.size + 1, 0, none⟩ = false := by simp [go_sem]
  have f1_1 : ((w.alloc (.cells #[.int .i64 N, .int .i64 lo, .int .i64 hi] 25)).alloc (.cells #[.int .i64 0, .int .i64 0] 34)).frozen? ⟨w.heap.size + 1, 1, none⟩ = false := by simp [go_sem]
  have HV0 := Lib.hid (fun (W : World) (hW : Free.Bel ((w.alloc (.cells #[.int .i64 N, .int .i64 lo, .int .i64 hi] 25)).alloc (.cells #[.int .i64 0, .int .i64 0] 34)) W) => (hv.keeps hB0).keeps hW)
  clear hv
  go_enter Try.func30, Try.ntmps30
  go_wp2_with fail
  refine (cargoR_any N lo hi false _ HC.out).mono ?_
  rintro e w1 ⟨rfl, hB1⟩
  have K_w1 : Free.Bel ((w.alloc (.cells #[.int .i64 N, .int .i64 lo, .int .i64 hi] 25)).alloc (.cells #[.int .i64 0, .int .i64 0] 34)) w1 := by
    refine bt ?_ hB1
    repeat (first | exact Free.Bel.refl _ | refine Bel.allocT ?_ _ | refine Bel.drewT ?_)
  clear hB1
  have hq : w.heap.size + 2 = ((w.alloc (.cells #[.int .i64 N, .int .i64 lo, .int .i64 hi] 25)).alloc (.cells #[.int .i64 0, .int .i64 0] 34)).heap.size := by simp
  generalize ((w.alloc (.cells #[.int .i64 N, .int .i64 lo, .int .i64 hi] 25)).alloc (.cells #[.int .i64 0, .int .i64 0] 34)) = W0 at *
  generalize hbb : w.heap.size = bb at *
  have HBB := Lib.hid hbb
  clear hbb
  have HB0 := Lib.hid hB0
  have hq0 : bb + 2 ≤ W0.heap.size := by omega
  clear hB0 hq
  have FA : ∀ W, Free.Bel W0 W → W.cell? ⟨bb, 0, none⟩ = some (.int .i64 N) ∧ W.cell? ⟨bb, 1, none⟩ = some (.int .i64 lo) ∧ W.cell? ⟨bb, 2, none⟩ = some (.int .i64 hi) ∧ W.cell? ⟨bb + 1, 0, none⟩ = some (.int .i64 0) ∧ W.cell? ⟨bb + 1, 1, none⟩ = some (.int .i64 0) ∧ W.frozen? ⟨bb + 1, 0, none⟩ = false ∧ W.frozen? ⟨bb + 1, 1, none⟩ = false ∧ bb + 2 ≤ W.heap.size := fun W hW => ⟨keepsB hW c0_0, keepsB hW c0_1, keepsB hW c0_2, keepsB hW c1_0, keepsB hW c1_1, (hW.frozen (p := ⟨bb + 1, 0, none⟩) (by simp; omega)).trans f1_0, (hW.frozen (p := ⟨bb + 1, 1, none⟩) (by simp; omega)).trans f1_1, Nat.le_trans hq0 hW.size⟩
  clear c0_0 c0_1 c0_2 c1_0 c1_1 f1_0 f1_1
  go_wp2_with fail
  have hz := FA w1 K_w1
  have n1 := noop2 (w := w1) (b := bb + 1) (x := .int .i64 0) (y := .int .i64 0) (by simp [hz]) (by simp [hz])
  rw [n1]
  have hbb := HBB.out
  subst hbb
  exact bodyPost_ret (v := .tuple #[.agg #[.int .i64 0, .int .i64 0], .int .i64 10]) (by simp [results, Try.results30, go_sem, hz]) rfl ⟨rfl, HB0.out.trans (K_w1.mono (by omega))⟩

set_option maxRecDepth 100000 in
set_option maxHeartbeats 4000000 in
theorem fairR_b (N lo hi D o : Int) (ts : List (Int × Int)) (pp : Option Addr) (cap : Nat) (w : World) (hv : PL ts (.slice pp ts.length cap) w) (HC : Hid (cargoB N lo hi = true)) (HM : Hid (inB lo hi [D] = false)) :
    Calls Try.prog 30 #[.agg #[.int .i64 N, .int .i64 lo, .int .i64 hi], .int .i64 D, .int .i64 o, (.slice pp ts.length cap)] w fun e w' => e = .returned (.tuple #[.agg #[.int .i64 0, .int .i64 0], .int .i64 2]) ∧ Below w.heap.size w w' := by
  have hB0 : Below w.heap.size w ((w.alloc (.cells #[.int .i64 N, .int .i64 lo, .int .i64 hi] 25)).alloc (.cells #[.int .i64 0, .int .i64 0] 34)) := ((Below.refl _ w).alloc (Nat.le_refl _) _).alloc (by simp) _
  have c0_0 : ((w.alloc (.cells #[.int .i64 N, .int .i64 lo, .int .i64 hi] 25)).alloc (.cells #[.int .i64 0, .int .i64 0] 34)).cell? ⟨w.heap.size, 0, none⟩ = some (.int .i64 N) := by simp [go_sem]
  have c0_1 : ((w.alloc (.cells #[.int .i64 N, .int .i64 lo, .int .i64 hi] 25)).alloc (.cells #[.int .i64 0, .int .i64 0] 34)).cell? ⟨w.heap.size, 1, none⟩ = some (.int .i64 lo) := by simp [go_sem]
  have c0_2 : ((w.alloc (.cells #[.int .i64 N, .int .i64 lo, .int .i64 hi] 25)).alloc (.cells #[.int .i64 0, .int .i64 0] 34)).cell? ⟨w.heap.size, 2, none⟩ = some (.int .i64 hi) := by simp [go_sem]
  have c1_0 : ((w.alloc (.cells #[.int .i64 N, .int .i64 lo, .int .i64 hi] 25)).alloc (.cells #[.int .i64 0, .int .i64 0] 34)).cell? ⟨w.heap.size + 1, 0, none⟩ = some (.int .i64 0) := by simp [go_sem]
  have c1_1 : ((w.alloc (.cells #[.int .i64 N, .int .i64 lo, .int .i64 hi] 25)).alloc (.cells #[.int .i64 0, .int .i64 0] 34)).cell? ⟨w.heap.size + 1, 1, none⟩ = some (.int .i64 0) := by simp [go_sem]
  have f1_0 : ((w.alloc (.cells #[.int .i64 N, .int .i64 lo, .int .i64 hi] 25)).alloc (.cells #[.int .i64 0, .int .i64 0] 34)).frozen? ⟨w.heap.size + 1, 0, none⟩ = false := by simp [go_sem]
  have f1_1 : ((w.alloc (.cells #[.int .i64 N, .int .i64 lo, .int .i64 hi] 25)).alloc (.cells #[.int .i64 0, .int .i64 0] 34)).frozen? ⟨w.heap.size + 1, 1, none⟩ = false := by simp [go_sem]
  have HV0 := Lib.hid (fun (W : World) (hW : Free.Bel ((w.alloc (.cells #[.int .i64 N, .int .i64 lo, .int .i64 hi] 25)).alloc (.cells #[.int .i64 0, .int .i64 0] 34)) W) => (hv.keeps hB0).keeps hW)
  clear hv
  go_enter Try.func30, Try.ntmps30
  go_wp2_with fail
  refine (cargoR_any N lo hi true _ HC.out).mono ?_
  rintro e w1 ⟨rfl, hB1⟩
  have K_w1 : Free.Bel ((w.alloc (.cells #[.int .i64 N, .int .i64 lo, .int .i64 hi] 25)).alloc (.cells #[.int .i64 0, .int .i64 0] 34)) w1 := by
    refine bt ?_ hB1
    repeat (first | exact Free.Bel.refl _ | refine Bel.allocT ?_ _ | refine Bel.drewT ?_)
  clear hB1
  have hq : w.heap.size + 2 = ((w.alloc (.cells #[.int .i64 N, .int .i64 lo, .int .i64 hi] 25)).alloc (.cells #[.int .i64 0, .int .i64 0] 34)).heap.size := by simp
  generalize ((w.alloc (.cells #[.int .i64 N, .int .i64 lo, .int .i64 hi] 25)).alloc (.cells #[.int .i64 0, .int .i64 0] 34)) = W0 at *
  generalize hbb : w.heap.size = bb at *
  have HBB := Lib.hid hbb
  clear hbb
  have HB0 := Lib.hid hB0
  have hq0 : bb + 2 ≤ W0.heap.size := by omega
  clear hB0 hq
  have FA : ∀ W, Free.Bel W0 W → W.cell? ⟨bb, 0, none⟩ = some (.int .i64 N) ∧ W.cell? ⟨bb, 1, none⟩ = some (.int .i64 lo) ∧ W.cell? ⟨bb, 2, none⟩ = some (.int .i64 hi) ∧ W.cell? ⟨bb + 1, 0, none⟩ = some (.int .i64 0) ∧ W.cell? ⟨bb + 1, 1, none⟩ = some (.int .i64 0) ∧ W.frozen? ⟨bb + 1, 0, none⟩ = false ∧ W.frozen? ⟨bb + 1, 1, none⟩ = false ∧ bb + 2 ≤ W.heap.size := fun W hW => ⟨keepsB hW c0_0, keepsB hW c0_1, keepsB hW c0_2, keepsB hW c1_0, keepsB hW c1_1, (hW.frozen (p := ⟨bb + 1, 0, none⟩) (by simp; omega)).trans f1_0, (hW.frozen (p := ⟨bb + 1, 1, none⟩) (by simp; omega)).trans f1_1, Nat.le_trans hq0 hW.size⟩
  clear c0_0 c0_1 c0_2 c1_0 c1_1 f1_0 f1_1
  go_wp2_with fail
  refine (mayR_any N lo hi D false _ HM.out).mono ?_
  rintro e w2 ⟨rfl, hB2⟩
  have K_w2 : Free.Bel W0 w2 := by
    refine bt ?_ hB2
    repeat (first | exact K_w1 | exact Free.Bel.refl _ | refine Bel.allocT ?_ _ | refine Bel.drewT ?_)
  clear hB2
  go_wp2_with fail
  have hz := FA w2 K_w2
  have n1 := noop2 (w := w2) (b := bb + 1) (x := .int .i64 0) (y := .int .i64 0) (by simp [hz]) (by simp [hz])
  rw [n1]
  have hbb := HBB.out
  subst hbb
  exact bodyPost_ret (v := .tuple #[.agg #[.int .i64 0, .int .i64 0], .int .i64 2]) (by simp [results, Try.results30, go_sem, hz]) rfl ⟨rfl, HB0.out.trans (K_w2.mono (by omega))⟩

set_option maxRecDepth 100000 in
set_option maxHeartbeats 4000000 in
theorem fairR_c (N lo hi D o : Int) (ts : List (Int × Int)) (pp : Option Addr) (cap : Nat) (w : World) (hv : PL ts (.slice pp ts.length cap) w) (HC : Hid (cargoB N lo hi = true)) (HM : Hid (inB lo hi [D] = true)) (HX : Hid (Hid (decide (agreedE ts = 0) = false))) :
    Calls Try.prog 30 #[.agg #[.int .i64 N, .int .i64 lo, .int .i64 hi], .int .i64 D, .int .i64 o, (.slice pp ts.length cap)] w fun e w' => e = .returned (.tuple #[.agg #[.int .i64 0, .int .i64 0], .int .i64 14]) ∧ Below w.heap.size w w' := by
  have hB0 : Below w.heap.size w ((w.alloc (.cells #[.int .i64 N, .int .i64 lo, .int .i64 hi] 25)).alloc (.cells #[.int .i64 0, .int .i64 0] 34)) := ((Below.refl _ w).alloc (Nat.le_refl _) _).alloc (by simp) _
  have c0_0 : ((w.alloc (.cells #[.int .i64 N, .int .i64 lo, .int .i64 hi] 25)).alloc (.cells #[.int .i64 0, .int .i64 0] 34)).cell? ⟨w.heap.size, 0, none⟩ = some (.int .i64 N) := by simp [go_sem]
  have c0_1 : ((w.alloc (.cells #[.int .i64 N, .int .i64 lo, .int .i64 hi] 25)).alloc (.cells #[.int .i64 0, .int .i64 0] 34)).cell? ⟨w.heap.size, 1, none⟩ = some (.int .i64 lo) := by simp [go_sem]
  have c0_2 : ((w.alloc (.cells #[.int .i64 N, .int .i64 lo, .int .i64 hi] 25)).alloc (.cells #[.int .i64 0, .int .i64 0] 34)).cell? ⟨w.heap.size, 2, none⟩ = some (.int .i64 hi) := by simp [go_sem]
  have c1_0 : ((w.alloc (.cells #[.int .i64 N, .int .i64 lo, .int .i64 hi] 25)).alloc (.cells #[.int .i64 0, .int .i64 0] 34)).cell? ⟨w.heap.size + 1, 0, none⟩ = some (.int .i64 0) := by simp [go_sem]
  have c1_1 : ((w.alloc (.cells #[.int .i64 N, .int .i64 lo, .int .i64 hi] 25)).alloc (.cells #[.int .i64 0, .int .i64 0] 34)).cell? ⟨w.heap.size + 1, 1, none⟩ = some (.int .i64 0) := by simp [go_sem]
  have f1_0 : ((w.alloc (.cells #[.int .i64 N, .int .i64 lo, .int .i64 hi] 25)).alloc (.cells #[.int .i64 0, .int .i64 0] 34)).frozen? ⟨w.heap.size + 1, 0, none⟩ = false := by simp [go_sem]
  have f1_1 : ((w.alloc (.cells #[.int .i64 N, .int .i64 lo, .int .i64 hi] 25)).alloc (.cells #[.int .i64 0, .int .i64 0] 34)).frozen? ⟨w.heap.size + 1, 1, none⟩ = false := by simp [go_sem]
  have HV0 := Lib.hid (fun (W : World) (hW : Free.Bel ((w.alloc (.cells #[.int .i64 N, .int .i64 lo, .int .i64 hi] 25)).alloc (.cells #[.int .i64 0, .int .i64 0] 34)) W) => (hv.keeps hB0).keeps hW)
  clear hv
  go_enter Try.func30, Try.ntmps30
  go_wp2_with fail
  refine (cargoR_any N lo hi true _ HC.out).mono ?_
  rintro e w1 ⟨rfl, hB1⟩
  have K_w1 : Free.Bel ((w.alloc (.cells #[.int .i64 N, .int .i64 lo, .int .i64 hi] 25)).alloc (.cells #[.int .i64 0, .int .i64 0] 34)) w1 := by
    refine bt ?_ hB1
    repeat (first | exact Free.Bel.refl _ | refine Bel.allocT ?_ _ | refine Bel.drewT ?_)
  clear hB1
  have hq : w.heap.size + 2 = ((w.alloc (.cells #[.int .i64 N, .int .i64 lo, .int .i64 hi] 25)).alloc (.cells #[.int .i64 0, .int .i64 0] 34)).heap.size := by simp
  generalize ((w.alloc (.cells #[.int .i64 N, .int .i64 lo, .int .i64 hi] 25)).alloc (.cells #[.int .i64 0, .int .i64 0] 34)) = W0 at *
  generalize hbb : w.heap.size = bb at *
  have HBB := Lib.hid hbb
  clear hbb
  have HB0 := Lib.hid hB0
  have hq0 : bb + 2 ≤ W0.heap.size := by omega
  clear hB0 hq
  have FA : ∀ W, Free.Bel W0 W → W.cell? ⟨bb, 0, none⟩ = some (.int .i64 N) ∧ W.cell? ⟨bb, 1, none⟩ = some (.int .i64 lo) ∧ W.cell? ⟨bb, 2, none⟩ = some (.int .i64 hi) ∧ W.cell? ⟨bb + 1, 0, none⟩ = some (.int .i64 0) ∧ W.cell? ⟨bb + 1, 1, none⟩ = some (.int .i64 0) ∧ W.frozen? ⟨bb + 1, 0, none⟩ = false ∧ W.frozen? ⟨bb + 1, 1, none⟩ = false ∧ bb + 2 ≤ W.heap.size := fun W hW => ⟨keepsB hW c0_0, keepsB hW c0_1, keepsB hW c0_2, keepsB hW c1_0, keepsB hW c1_1, (hW.frozen (p := ⟨bb + 1, 0, none⟩) (by simp; omega)).trans f1_0, (hW.frozen (p := ⟨bb + 1, 1, none⟩) (by simp; omega)).trans f1_1, Nat.le_trans hq0 hW.size⟩
  clear c0_0 c0_1 c0_2 c1_0 c1_1 f1_0 f1_1
  go_wp2_with fail
  refine (mayR_any N lo hi D true _ HM.out).mono ?_
  rintro e w2 ⟨rfl, hB2⟩
  have K_w2 : Free.Bel W0 w2 := by
    refine bt ?_ hB2
    repeat (first | exact K_w1 | exact Free.Bel.refl _ | refine Bel.allocT ?_ _ | refine Bel.drewT ?_)
  clear hB2
  go_wp2_with fail
  refine (terms_v ts (.slice pp ts.length cap) _ (HV0.out _ K_w2) false HX.out).mono ?_
  rintro e w3 ⟨rfl, hB2⟩
  have K_w3 : Free.Bel W0 w3 := by
    refine bt ?_ hB2
    repeat (first | exact K_w2 | exact Free.Bel.refl _ | refine Bel.allocT ?_ _ | refine Bel.drewT ?_)
  clear hB2
  go_wp2_with fail
  have hz := FA w3 K_w3
  have n1 := noop2 (w := w3) (b := bb + 1) (x := .int .i64 0) (y := .int .i64 0) (by simp [hz]) (by simp [hz])
  rw [n1]
  have hbb := HBB.out
  subst hbb
  exact bodyPost_ret (v := .tuple #[.agg #[.int .i64 0, .int .i64 0], .int .i64 14]) (by simp [results, Try.results30, go_sem, hz]) rfl ⟨rfl, HB0.out.trans (K_w3.mono (by omega))⟩

set_option maxRecDepth 100000 in
set_option maxHeartbeats 4000000 in
theorem fairR_d (N lo hi D o : Int) (ts : List (Int × Int)) (pp : Option Addr) (cap : Nat) (w : World) (hv : PL ts (.slice pp ts.length cap) w) (HC : Hid (cargoB N lo hi = true)) (HM : Hid (inB lo hi [D] = true)) (HX : Hid (Hid (decide (agreedE ts = 0) = true))) (HO : Hid (inB 0 N [o] = false)) :
    Calls Try.prog 30 #[.agg #[.int .i64 N, .int .i64 lo, .int .i64 hi], .int .i64 D, .int .i64 o, (.slice pp ts.length cap)] w fun e w' => e = .returned (.tuple #[.agg #[.int .i64 0, .int .i64 0], .int .i64 2]) ∧ Below w.heap.size w w' := by
  have hB0 : Below w.heap.size w ((w.alloc (.cells #[.int .i64 N, .int .i64 lo, .int .i64 hi] 25)).alloc (.cells #[.int .i64 0, .int .i64 0] 34)) := ((Below.refl _ w).alloc (Nat.le_refl _) _).alloc (by simp) _
  have c0_0 : ((w.alloc (.cells #[.int .i64 N, .int .i64 lo, .int .i64 hi] 25)).alloc (.cells #[.int .i64 0, .int .i64 0] 34)).cell? ⟨w.heap.size, 0, none⟩ = some (.int .i64 N) := by simp [go_sem]
  have c0_1 : ((w.alloc (.cells #[.int .i64 N, .int .i64 lo, .int .i64 hi] 25)).alloc (.cells #[.int .i64 0, .int .i64 0] 34)).cell? ⟨w.heap.size, 1, none⟩ = some (.int .i64 lo) := by simp [go_sem]
  have c0_2 : ((w.alloc (.cells #[.int .i64 N, .int .i64 lo, .int .i64 hi] 25)).alloc (.cells #[.int .i64 0, .int .i64 0] 34)).cell? ⟨w.heap.size, 2, none⟩ = some (.int .i64 hi) := by simp [go_sem]
  have c1_0 : ((w.alloc (.cells #[.int .i64 N, .int .i64 lo, .int .i64 hi] 25)).alloc (.cells #[.int .i64 0, .int .i64 0] 34)).cell? ⟨w.heap.size + 1, 0, none⟩ = some (.int .i64 0) := by simp [go_sem]
  have c1_1 : ((w.alloc (.cells #[.int .i64 N, .int .i64 lo, .int .i64 hi] 25)).alloc (.cells #[.int .i64 0, .int .i64 0] 34)).cell? ⟨w.heap.size + 1, 1, none⟩ = some (.int .i64 0) := by simp [go_sem]
  have f1_0 : ((w.alloc (.cells #[.int .i64 N, .int .i64 lo, .int .i64 hi] 25)).alloc (.cells #[.int .i64 0, .int .i64 0] 34)).frozen? ⟨w.heap.size + 1, 0, none⟩ = false := by simp [go_sem]
  have f1_1 : ((w.alloc (.cells #[.int .i64 N, .int .i64 lo, .int .i64 hi] 25)).alloc (.cells #[.int .i64 0, .int .i64 0] 34)).frozen? ⟨w.heap.size + 1, 1, none⟩ = false := by simp [go_sem]
  have HV0 := Lib.hid (fun (W : World) (hW : Free.Bel ((w.alloc (.cells #[.int .i64 N, .int .i64 lo, .int .i64 hi] 25)).alloc (.cells #[.int .i64 0, .int .i64 0] 34)) W) => (hv.keeps hB0).keeps hW)
  clear hv
  go_enter Try.func30, Try.ntmps30
  go_wp2_with fail
  refine (cargoR_any N lo hi true _ HC.out).mono ?_
  rintro e w1 ⟨rfl, hB1⟩
  have K_w1 : Free.Bel ((w.alloc (.cells #[.int .i64 N, .int .i64 lo, .int .i64 hi] 25)).alloc (.cells #[.int .i64 0, .int .i64 0] 34)) w1 := by
    refine bt ?_ hB1
    repeat (first | exact Free.Bel.refl _ | refine Bel.allocT ?_ _ | refine Bel.drewT ?_)
  clear hB1
  have hq : w.heap.size + 2 = ((w.alloc (.cells #[.int .i64 N, .int .i64 lo, .int .i64 hi] 25)).alloc (.cells #[.int .i64 0, .int .i64 0] 34)).heap.size := by simp
  generalize ((w.alloc (.cells #[.int .i64 N, .int .i64 lo, .int .i64 hi] 25)).alloc (.cells #[.int .i64 0, .int .i64 0] 34)) = W0 at *
  generalize hbb : w.heap.size = bb at *
  have HBB := Lib.hid hbb
  clear hbb
  have HB0 := Lib.hid hB0
  have hq0 : bb + 2 ≤ W0.heap.size := by omega
  clear hB0 hq
  have FA : ∀ W, Free.Bel W0 W → W.cell? ⟨bb, 0, none⟩ = some (.int .i64 N) ∧ W.cell? ⟨bb, 1, none⟩ = some (.int .i64 lo) ∧ W.cell? ⟨bb, 2, none⟩ = some (.int .i64 hi) ∧ W.cell? ⟨bb + 1, 0, none⟩ = some (.int .i64 0) ∧ W.cell? ⟨bb + 1, 1, none⟩ = some (.int .i64 0) ∧ W.frozen? ⟨bb + 1, 0, none⟩ = false ∧ W.frozen? ⟨bb + 1, 1, none⟩ = false ∧ bb + 2 ≤ W.heap.size := fun W hW => ⟨keepsB hW c0_0, keepsB hW c0_1, keepsB hW c0_2, keepsB hW c1_0, keepsB hW c1_1, (hW.frozen (p := ⟨bb + 1, 0, none⟩) (by simp; omega)).trans f1_0, (hW.frozen (p := ⟨bb + 1, 1, none⟩) (by simp; omega)).trans f1_1, Nat.le_trans hq0 hW.size⟩
  clear c0_0 c0_1 c0_2 c1_0 c1_1 f1_0 f1_1
  go_wp2_with fail
  refine (mayR_any N lo hi D true _ HM.out).mono ?_
  rintro e w2 ⟨rfl, hB2⟩
  have K_w2 : Free.Bel W0 w2 := by
    refine bt ?_ hB2
    repeat (first | exact K_w1 | exact Free.Bel.refl _ | refine Bel.allocT ?_ _ | refine Bel.drewT ?_)
  clear hB2
  go_wp2_with fail
  refine (terms_v ts (.slice pp ts.length cap) _ (HV0.out _ K_w2) true HX.out).mono ?_
  rintro e w3 ⟨rfl, hB2⟩
  have K_w3 : Free.Bel W0 w3 := by
    refine bt ?_ hB2
    repeat (first | exact K_w2 | exact Free.Bel.refl _ | refine Bel.allocT ?_ _ | refine Bel.drewT ?_)
  clear hB2
  go_wp2_with fail
  refine (within_any o 0 N false _ HO.out).mono ?_
  rintro e _ ⟨rfl, rfl⟩
  go_wp2_with fail
  have hz := FA w3 K_w3
  have n1 := noop2 (w := w3) (b := bb + 1) (x := .int .i64 0) (y := .int .i64 0) (by simp [hz]) (by simp [hz])
  rw [n1]
  have hbb := HBB.out
  subst hbb
  exact bodyPost_ret (v := .tuple #[.agg #[.int .i64 0, .int .i64 0], .int .i64 2]) (by simp [results, Try.results30, go_sem, hz]) rfl ⟨rfl, HB0.out.trans (K_w3.mono (by omega))⟩

set_option maxRecDepth 100000 in
set_option maxHeartbeats 4000000 in
theorem fairR_e (N lo hi D o : Int) (ts : List (Int × Int)) (pp : Option Addr) (cap : Nat) (w : World) (hv : PL ts (.slice pp ts.length cap) w) (HC : Hid (cargoB N lo hi = true)) (HM : Hid (inB lo hi [D] = true)) (HX : Hid (Hid (decide (agreedE ts = 0) = true))) (HO : Hid (inB 0 N [o] = true)) (hN : 1 ≤ N ∧ N ≤ 36 ∧ True) (hDD : 0 ≤ D ∧ D ≤ N) (ho : 0 ≤ o ∧ o ≤ N) (HXS : Hid (∀ t ∈ ts, 0 ≤ t.1 ∧ t.1 ≤ 100)) (HXP : Hid (∀ t ∈ ts, 0 ≤ t.2 ∧ t.2 ≤ 1000000)) (px py : Int) (HP : Hid (partV (midI N D o (fun k => offV ts o k) (o + 1).toNat).toNat (chI N o).toNat = .agg #[.int .i64 px, .int .i64 py])) :
    Calls Try.prog 30 #[.agg #[.int .i64 N, .int .i64 lo, .int .i64 hi], .int .i64 D, .int .i64 o, (.slice pp ts.length cap)] w fun e w' => e = .returned (.tuple #[.agg #[.int .i64 px, .int .i64 py], .int .i64 0]) ∧ Below w.heap.size w w' := by
  have hB0 : Below w.heap.size w ((w.alloc (.cells #[.int .i64 N, .int .i64 lo, .int .i64 hi] 25)).alloc (.cells #[.int .i64 0, .int .i64 0] 34)) := ((Below.refl _ w).alloc (Nat.le_refl _) _).alloc (by simp) _
  have c0_0 : ((w.alloc (.cells #[.int .i64 N, .int .i64 lo, .int .i64 hi] 25)).alloc (.cells #[.int .i64 0, .int .i64 0] 34)).cell? ⟨w.heap.size, 0, none⟩ = some (.int .i64 N) := by simp [go_sem]
  have c0_1 : ((w.alloc (.cells #[.int .i64 N, .int .i64 lo, .int .i64 hi] 25)).alloc (.cells #[.int .i64 0, .int .i64 0] 34)).cell? ⟨w.heap.size, 1, none⟩ = some (.int .i64 lo) := by simp [go_sem]
  have c0_2 : ((w.alloc (.cells #[.int .i64 N, .int .i64 lo, .int .i64 hi] 25)).alloc (.cells #[.int .i64 0, .int .i64 0] 34)).cell? ⟨w.heap.size, 2, none⟩ = some (.int .i64 hi) := by simp [go_sem]
  have c1_0 : ((w.alloc (.cells #[.int .i64 N, .int .i64 lo, .int .i64 hi] 25)).alloc (.cells #[.int .i64 0, .int .i64 0] 34)).cell? ⟨w.heap.size + 1, 0, none⟩ = some (.int .i64 0) := by simp [go_sem]
  have c1_1 : ((w.alloc (.cells #[.int .i64 N, .int .i64 lo, .int .i64 hi] 25)).alloc (.cells #[.int .i64 0, .int .i64 0] 34)).cell? ⟨w.heap.size + 1, 1, none⟩ = some (.int .i64 0) := by simp [go_sem]
  have f1_0 : ((w.alloc (.cells #[.int .i64 N, .int .i64 lo, .int .i64 hi] 25)).alloc (.cells #[.int .i64 0, .int .i64 0] 34)).frozen? ⟨w.heap.size + 1, 0, none⟩ = false := by simp [go_sem]
  have f1_1 : ((w.alloc (.cells #[.int .i64 N, .int .i64 lo, .int .i64 hi] 25)).alloc (.cells #[.int .i64 0, .int .i64 0] 34)).frozen? ⟨w.heap.size + 1, 1, none⟩ = false := by simp [go_sem]
  have HV0 := Lib.hid (fun (W : World) (hW : Free.Bel ((w.alloc (.cells #[.int .i64 N, .int .i64 lo, .int .i64 hi] 25)).alloc (.cells #[.int .i64 0, .int .i64 0] 34)) W) => (hv.keeps hB0).keeps hW)
  clear hv
  go_enter Try.func30, Try.ntmps30
  go_wp2_with fail
  refine (cargoR_any N lo hi true _ HC.out).mono ?_
  rintro e w1 ⟨rfl, hB1⟩
  have K_w1 : Free.Bel ((w.alloc (.cells #[.int .i64 N, .int .i64 lo, .int .i64 hi] 25)).alloc (.cells #[.int .i64 0, .int .i64 0] 34)) w1 := by
    refine bt ?_ hB1
    repeat (first | exact Free.Bel.refl _ | refine Bel.allocT ?_ _ | refine Bel.drewT ?_)
  clear hB1
  have hq : w.heap.size + 2 = ((w.alloc (.cells #[.int .i64 N, .int .i64 lo, .int .i64 hi] 25)).alloc (.cells #[.int .i64 0, .int .i64 0] 34)).heap.size := by simp
  generalize ((w.alloc (.cells #[.int .i64 N, .int .i64 lo, .int .i64 hi] 25)).alloc (.cells #[.int .i64 0, .int .i64 0] 34)) = W0 at *
  generalize hbb : w.heap.size = bb at *
  have HBB := Lib.hid hbb
  clear hbb
  have HB0 := Lib.hid hB0
  have hq0 : bb + 2 ≤ W0.heap.size := by omega
  clear hB0 hq
  have FA : ∀ W, Free.Bel W0 W → W.cell? ⟨bb, 0, none⟩ = some (.int .i64 N) ∧ W.cell? ⟨bb, 1, none⟩ = some (.int .i64 lo) ∧ W.cell? ⟨bb, 2, none⟩ = some (.int .i64 hi) ∧ W.cell? ⟨bb + 1, 0, none⟩ = some (.int .i64 0) ∧ W.cell? ⟨bb + 1, 1, none⟩ = some (.int .i64 0) ∧ W.frozen? ⟨bb + 1, 0, none⟩ = false ∧ W.frozen? ⟨bb + 1, 1, none⟩ = false ∧ bb + 2 ≤ W.heap.size := fun W hW => ⟨keepsB hW c0_0, keepsB hW c0_1, keepsB hW c0_2, keepsB hW c1_0, keepsB hW c1_1, (hW.frozen (p := ⟨bb + 1, 0, none⟩) (by simp; omega)).trans f1_0, (hW.frozen (p := ⟨bb + 1, 1, none⟩) (by simp; omega)).trans f1_1, Nat.le_trans hq0 hW.size⟩
  clear c0_0 c0_1 c0_2 c1_0 c1_1 f1_0 f1_1
  go_wp2_with fail
  refine (mayR_any N lo hi D true _ HM.out).mono ?_
  rintro e w2 ⟨rfl, hB2⟩
  have K_w2 : Free.Bel W0 w2 := by
    refine bt ?_ hB2
    repeat (first | exact K_w1 | exact Free.Bel.refl _ | refine Bel.allocT ?_ _ | refine Bel.drewT ?_)
  clear hB2
  go_wp2_with fail
  refine (terms_v ts (.slice pp ts.length cap) _ (HV0.out _ K_w2) true HX.out).mono ?_
  rintro e w3 ⟨rfl, hB2⟩
  have K_w3 : Free.Bel W0 w3 := by
    refine bt ?_ hB2
    repeat (first | exact K_w2 | exact Free.Bel.refl _ | refine Bel.allocT ?_ _ | refine Bel.drewT ?_)
  clear hB2
  go_wp2_with fail
  refine (within_any o 0 N true _ HO.out).mono ?_
  rintro e _ ⟨rfl, rfl⟩
  go_wp2_with fail
  have ho2 : 0 ≤ o ∧ o ≤ 36 := by omega
  go_loopw [11, 10] (fun i s wr => ∃ k : Nat, (k : Int) ≤ o + 1 ∧ i = .int .i64 k ∧ s = .int .i64 (midI N D o (fun k => offV ts o k) k) ∧ Free.Bel w3 wr) (fun i _ _ => (o + 1).toNat - (intOf i).toNat)
  case atStart => exact ⟨0, by omega, rfl, rfl, Free.Bel.refl _⟩
  case round =>
    obtain ⟨k, hk, rfl, rfl, HKr⟩ := hrel
    have K_wr : Free.Bel W0 wr := bt K_w3 HKr
    by_cases hlt : (k : Int) ≤ o
    · have k9 : decide ((k : Int) ≤ o) = true := decide_eq_true hlt
      have hk2 : 0 ≤ (k : Int) ∧ (k : Int) ≤ 36 := by omega
      have hov := offV_bound ts o k HXP.out
      have hwb := waysI_bound N D o k hN.2.1 hDD.1 hDD.2
      have hmb := midI_bound N D o (fun k => offV ts o k) hN.2.1 hDD.1 hDD.2 k fun j _ => offV_bound ts o j HXP.out
      have hms : midI N D o (fun k => offV ts o k) (k + 1) = midI N D o (fun k => offV ts o k) k + offV ts o k * waysI N D o k := rfl
      have hp1 : 0 ≤ offV ts o k * waysI N D o k := Int.mul_nonneg hov.1 hwb.1
      have hp2 : offV ts o k * waysI N D o k ≤ 1000000 * 68719476736 := Int.mul_le_mul hov.2 hwb.2 hwb.1 (by omega)
      have hk3 : ((k : Nat) : Int) * 68719476736000000 ≤ 37 * 68719476736000000 := Int.mul_le_mul_of_nonneg_right (by omega) (by omega)
      obtain ⟨m, hm⟩ : ∃ m, midI N D o (fun k => offV ts o k) k = m := ⟨_, rfl⟩
      rw [hm] at hmb hms ⊢
      have hw1 : IntKind.i64.wrap (offV ts o k * waysI N D o k) = offV ts o k * waysI N D o k := IntWalk.i64_in _ (by omega)
      have hw2 : IntKind.i64.wrap (m + offV ts o k * waysI N D o k) = m + offV ts o k * waysI N D o k := IntWalk.i64_in _ (by omega)
      have HMS := Lib.hid hms
      clear hms hm hp1 hp2 hmb hov hwb hk3
      go_wp2_with fail
      have hF : ∀ W, Free.Bel wr.drew W → Free.Bel W0 W := fun W hW => bt K_wr (bt (Bel.drewT (Free.Bel.refl _)) hW)
      refine Free2.wp_free (R := Free.Bel) (J := fun _ _ => True) (by kernel_rfl) (by kernel_rfl) Free.Bel.refl Free.Bel.trans trivial ?_
      refine Free2.Chain.ex ?_ 0 rfl [] [10] (by kernel_rfl) (by kernel_rfl) rfl Free.Bel.refl (fun X W v h => trivial) ?_ ?_
      rotate_left
      · (intro ev W hb hR hO hD; have hS := hF W hR; obtain ⟨hb1, hb2, hb3⟩ := hb; simp only [Free.AllDeps, Free.AllOuts, Free.At, al1, al2, al3, al4, al5, and_true] at hO hD; go_simp; rfl)
      simp only [an1, an2]
      refine Free2.Chain.ex ?_ 1 rfl [] [3] (by kernel_rfl) (by kernel_rfl) rfl Free.Bel.refl (fun X W v h => trivial) ?_ ?_
      rotate_left
      · (intro ev W hb hR hO hD; have hS := hF W hR; obtain ⟨hb1, hb2, hb3⟩ := hb; simp only [Free.AllDeps, Free.AllOuts, Free.At, al1, al2, al3, al4, al5, and_true] at hO hD; go_simp; rfl)
      simp only [an1, an2]
      refine Free2.Chain.ex ?_ 2 rfl [] [2] (by kernel_rfl) (by kernel_rfl) rfl Free.Bel.refl (fun X W v h => trivial) ?_ ?_
      rotate_left
      · (intro ev W hb hR hO hD; have hS := hF W hR; obtain ⟨hb1, hb2, hb3⟩ := hb; simp only [Free.AllDeps, Free.AllOuts, Free.At, al1, al2, al3, al4, al5, and_true] at hO hD; go_simp; rfl)
      simp only [an1, an2]
      refine Free2.Chain.ex ?_ 3 rfl [] [11] (by kernel_rfl) (by kernel_rfl) rfl Free.Bel.refl (fun X W v h => trivial) ?_ ?_
      rotate_left
      · (intro ev W hb hR hO hD; have hS := hF W hR; obtain ⟨hb1, hb2, hb3⟩ := hb; simp only [Free.AllDeps, Free.AllOuts, Free.At, al1, al2, al3, al4, al5, and_true] at hO hD; go_simp; rfl)
      simp only [an1, an2]
      refine Free2.Chain.pr (fun v _ => v = .int .i64 (offV ts o k)) 4 rfl [(1, 37), (2, 38), (3, 39)] [] (by kernel_rfl) (by kernel_rfl) rfl (fun _ _ _ _ h => h) ?_ ?_
      · (intro ev W X hb hR hO hD hj hx hax; have hS := hF W hR; obtain ⟨hb1, hb2, hb3⟩ := hb; simp only [Free.AllDeps, Free.AllOuts, Free.At, al1, al2, al3, al4, al5, and_true] at hO hD; simp only [Free2.AllX, and_true] at hax; go_simp; refine yields_enter ?_; (with_reducible refine (offRv_any ts (.slice pp ts.length cap) o k _ (HV0.out _ hS) HXS.out ho2 hk2).mono ?_); rintro e W2 ⟨rfl, hB2⟩; exact ⟨_, rfl, hB2, rfl⟩)
      simp only [an1, an2]
      refine Free2.Chain.ex ?_ 5 rfl [] [4] (by kernel_rfl) (by kernel_rfl) rfl Free.Bel.refl (fun X W v h => trivial) ?_ ?_
      rotate_left
      · (intro ev W hb hR hO hD; have hS := hF W hR; obtain ⟨hb1, hb2, hb3⟩ := hb; simp only [Free.AllDeps, Free.AllOuts, Free.At, al1, al2, al3, al4, al5, and_true] at hO hD; go_simp; rfl)
      simp only [an1, an2]
      refine Free2.Chain.ex ?_ 6 rfl [(5, 41)] [] (by kernel_rfl) (by kernel_rfl) rfl Free.Bel.refl (fun X W v h => trivial) ?_ ?_
      rotate_left
      · (intro ev W hb hR hO hD; have hS := hF W hR; obtain ⟨hb1, hb2, hb3⟩ := hb; simp only [Free.AllDeps, Free.AllOuts, Free.At, al1, al2, al3, al4, al5, and_true] at hO hD; go_simp; rfl)
      simp only [an1, an2]
      refine Free2.Chain.ex ?_ 7 rfl [] [1] (by kernel_rfl) (by kernel_rfl) rfl Free.Bel.refl (fun X W v h => trivial) ?_ ?_
      rotate_left
      · (intro ev W hb hR hO hD; have hS := hF W hR; obtain ⟨hb1, hb2, hb3⟩ := hb; simp only [Free.AllDeps, Free.AllOuts, Free.At, al1, al2, al3, al4, al5, and_true] at hO hD; go_simp; rfl)
      simp only [an1, an2]
      refine Free2.Chain.ex ?_ 8 rfl [] [2] (by kernel_rfl) (by kernel_rfl) rfl Free.Bel.refl (fun X W v h => trivial) ?_ ?_
      rotate_left
      · (intro ev W hb hR hO hD; have hS := hF W hR; obtain ⟨hb1, hb2, hb3⟩ := hb; simp only [Free.AllDeps, Free.AllOuts, Free.At, al1, al2, al3, al4, al5, and_true] at hO hD; go_simp; rfl)
      simp only [an1, an2]
      refine Free2.Chain.ex ?_ 9 rfl [] [11] (by kernel_rfl) (by kernel_rfl) rfl Free.Bel.refl (fun X W v h => trivial) ?_ ?_
      rotate_left
      · (intro ev W hb hR hO hD; have hS := hF W hR; obtain ⟨hb1, hb2, hb3⟩ := hb; simp only [Free.AllDeps, Free.AllOuts, Free.At, al1, al2, al3, al4, al5, and_true] at hO hD; go_simp; rfl)
      simp only [an1, an2]
      refine Free2.Chain.pr (fun v _ => v = .int .i64 (waysI N D o k)) 10 rfl [(6, 42), (7, 43), (8, 44), (9, 45), (4, 40)] [] (by kernel_rfl) (by kernel_rfl) rfl (fun _ _ _ _ h => h) ?_ ?_
      · (intro ev W X hb hR hO hD hj hx hax; have hS := hF W hR; obtain ⟨hb1, hb2, hb3⟩ := hb; simp only [Free.AllDeps, Free.AllOuts, Free.At, al1, al2, al3, al4, al5, and_true] at hO hD; simp only [Free2.AllX, and_true] at hax; go_simp; refine yields_enter ?_; (with_reducible refine (countR_any N D o k _ hN.2.1 hDD.1 hDD.2 (by omega) (by omega) (by omega)).mono ?_); rintro e W2 ⟨rfl, rfl⟩; exact ⟨_, rfl, Free.Bel.refl _, rfl⟩)
      simp only [an1, an2]
      refine Free2.Chain.ex ?_ 11 rfl [(4, 40), (10, 46)] [] (by kernel_rfl) (by kernel_rfl) rfl Free.Bel.refl (fun X W v h => trivial) ?_ ?_
      rotate_left
      · (intro ev W hb hR hO hD; have hS := hF W hR; obtain ⟨hb1, hb2, hb3⟩ := hb; simp only [Free.AllDeps, Free.AllOuts, Free.At, al1, al2, al3, al4, al5, and_true] at hO hD; go_simp; rfl)
      simp only [an1, an2]
      refine Free2.Chain.ex ?_ 12 rfl [(0, 36), (11, 47)] [] (by kernel_rfl) (by kernel_rfl) rfl Free.Bel.refl (fun X W v h => trivial) ?_ ?_
      rotate_left
      · (intro ev W hb hR hO hD; have hS := hF W hR; obtain ⟨hb1, hb2, hb3⟩ := hb; simp only [Free.AllDeps, Free.AllOuts, Free.At, al1, al2, al3, al4, al5, and_true] at hO hD; go_simp; rfl)
      simp only [an1, an2]
      refine Free2.Chain.ex ?_ 13 rfl [(12, 48), (10, 46), (0, 36), (1, 37), (2, 38), (3, 39), (4, 40), (5, 41), (6, 42), (7, 43), (8, 44), (9, 45), (10, 46), (11, 47), (12, 48)] [] (by kernel_rfl) (by kernel_rfl) rfl Free.Bel.refl (fun X W v h => trivial) ?_ ?_
      rotate_left
      · (intro ev W hb hR hO hD; have hS := hF W hR; obtain ⟨hb1, hb2, hb3⟩ := hb; simp only [Free.AllDeps, Free.AllOuts, Free.At, al1, al2, al3, al4, al5, and_true] at hO hD; go_simp; rfl)
      simp only [an1, an2]
      intro xs w5 hR hV hX
      clear hX
      simp only [Free.AllV, Free.At, List.length_cons, List.length_nil, Nat.reduceAdd, List.getElem?_cons_succ, List.getElem?_cons_zero, true_and, and_true] at hV
      simp only [Free.putsFrom, Act.put, Nat.zero_add, Nat.reduceAdd, hV, List.setIfInBounds_toArray, List.set_cons_succ, List.set_cons_zero]
      have K_5 : Free.Bel wr w5 := bt (Bel.drewT (Free.Bel.refl _)) hR
      clear hR hV hF
      go_wp2_with fail
      go_roundw
      case rel => exact ⟨k + 1, by omega, by go_num, by rw [HMS.out], bt HKr K_5⟩
      case measure => simp [intOf]; omega
    · have k9 : decide ((k : Int) ≤ o) = false := decide_eq_false hlt
      have hke : k = (o + 1).toNat := by omega
      have HKE := Lib.hid hke
      obtain ⟨m, hm⟩ : ∃ m, midI N D o (fun k => offV ts o k) k = m := ⟨_, rfl⟩
      have hm2 : midI N D o (fun k => offV ts o k) (o + 1).toNat = m := by rw [← hke]; exact hm
      have hmb := midI_bound N D o (fun k => offV ts o k) hN.2.1 hDD.1 hDD.2 (o + 1).toNat fun j _ => offV_bound ts o j HXP.out
      have hk3 : (((o + 1).toNat : Nat) : Int) * 68719476736000000 ≤ 37 * 68719476736000000 := Int.mul_le_mul_of_nonneg_right (by omega) (by omega)
      have hcp := chI_pos N o (by omega) hN.2.1 ho.1 ho.2
      have HP2 := HP.out
      rw [hm2] at hmb HP2
      rw [hm]
      have HP3 := Lib.hid HP2
      clear hke hm hm2 HP2 HP
      go_wp2_with fail
      refine (choose_any N o _ (by omega) (by omega) (by omega)).mono ?_
      rintro e _ ⟨rfl, rfl⟩
      go_wp2_with fail
      refine (least_int m (chI N o) hmb.1 (by omega) (by omega) (by omega) _ HP3.out _).mono ?_
      rintro e w6 ⟨rfl, hB6⟩
      have K_w6 : Free.Bel W0 w6 := bt K_wr hB6
      clear hB6
      have hz9 := FA w6 K_w6
      obtain ⟨s0, s1⟩ := two_stores (w := w6) (b := bb + 1) (x := .int .i64 0) (y := .int .i64 0) (.int .i64 px) (.int .i64 py) (by simp [hz9]) (by simp [hz9])
      have hB9 := Lib.hid (((HB0.out.trans (K_w6.mono (by omega))).setCell (p := ⟨bb + 1, 0, none⟩) (by show bb ≤ bb + 1; omega) (.int .i64 px)).setCell (p := ⟨bb + 1, 1, none⟩) (by show bb ≤ bb + 1; omega) (.int .i64 py))
      go_wp2_with fail
      have hbb := HBB.out
      subst hbb
      exact bodyPost_ret (v := .tuple #[.agg #[.int .i64 px, .int .i64 py], .int .i64 0]) (by simp [results, Try.results30, go_sem, s0, s1]) rfl ⟨rfl, hB9.out⟩

theorem fairR_any (N lo hi D o : Int) (xs : List (Int × Int)) (v : Value) (w : World) (hv : PL xs v w) :
    Calls Try.prog 30 #[.agg #[.int .i64 N, .int .i64 lo, .int .i64 hi], .int .i64 D, .int .i64 o, v] w fun e w' => e = .returned (fairAll N lo hi D o xs) ∧ Below w.heap.size w w' := by
  have hv' := hv
  obtain ⟨pp, cap, rfl, _, _⟩ := hv'
  cases hc : cargoB N lo hi
  · have := fairR_a N lo hi D o xs pp cap w hv hc
    rw [fairAll, hc, if_pos rfl]
    exact this
  · rw [fairAll, hc, if_neg (by simp)]
    have hcc := (cargoB_iff N lo hi).1 hc
    cases hm : inB lo hi [D]
    · have := fairR_b N lo hi D o xs pp cap w hv hc hm
      rw [if_pos (by simp [fairE, hm, unlessV, firstE])]
      simpa [fairE, hm, unlessV, firstE, zeroPart] using this
    · by_cases ha : agreedE xs = 0
      · have HX : Hid (Hid (decide (agreedE xs = 0) = true)) := decide_eq_true ha
        cases hq : inB 0 N [o]
        · have := fairR_d N lo hi D o xs pp cap w hv hc hm HX hq
          rw [if_pos (by simp [fairE, hm, ha, hq, unlessV, firstE])]
          simpa [fairE, hm, ha, hq, unlessV, firstE, zeroPart] using this
        · rw [if_neg (by simp [fairE, hm, ha, hq, unlessV, firstE])]
          obtain ⟨px, py, hp⟩ : ∃ px py : Int, partV (midI N D o (fun k => offV xs o k) (o + 1).toNat).toNat (chI N o).toNat = .agg #[.int .i64 px, .int .i64 py] := ⟨_, _, rfl⟩
          rw [hp]
          have hD : lo ≤ D ∧ D ≤ hi := by simpa [inB] using hm
          exact fairR_e N lo hi D o xs pp cap w hv hc hm HX hq ⟨hcc.1, hcc.2.1, trivial⟩ (by omega) (by simpa [inB] using hq) (agreedE_mem ha) (agreedE_pence ha) px py hp
      · have h14 : agreedE xs = 14 := by
          unfold agreedE unlessV at ha ⊢
          split
          · rfl
          · rename_i h; rw [if_neg h] at ha; revert ha; cases decide ((xs.length : Int) ≤ 5) <;> simp
        have HX : Hid (Hid (decide (agreedE xs = 0) = false)) := decide_eq_false ha
        have := fairR_c N lo hi D o xs pp cap w hv hc hm HX
        have he : fairE N lo hi D o xs = 14 := by simp [fairE, hm, h14, unlessV, firstE]
        rw [if_pos (by rw [he]; decide), he]
        simpa [zeroPart] using this
end Go.Proofs.Ytfdbegohjlijoaa

/- The law about allowances and awards: its walk. -/
namespace Go.Proofs.Ytfdbegohjlijoaa
set_option linter.unusedSimpArgs false
set_option linter.unusedVariables false
open Go.RowKit Go.Proofs.Ytfdbegohjlijoaa.ML Go.Proofs.Ytfdbegohjlijoaa.Samp

theorem T.infoTerm : (Try.prog.info? 113).map (fun i => (i.zero, i.size, i.bytes)) = some (some (.agg #[.int .i64 0, .int .i64 0]), 2, 16) := by kernel_rfl
theorem grown_bel {base n size : Nat} {e : TypeId} {v : Value} {xs : List Value} {w w' : World} (hown : w.ownsRow base e size v n xs) (h : w.grownBy w' v.ownBlock) (hb : base ≤ w.heap.size) : Below base w w' := by
  refine (Below.refl _ _).grown h hb fun k hk => ?_
  rcases hown.2 with ⟨rfl, _⟩ | ⟨g, cap, cur, rfl, hbg, _⟩
  · simp [Value.ownBlock] at hk
  · simp [Value.ownBlock] at hk; omega
theorem cells_news {ts : List (Int × Int)} {b off : Nat} {W : World} (h : ∀ k (hk : k < ts.length), W.cell? ⟨b, off + k * 2, none⟩ = some (.int .i64 ts[k].1) ∧ W.cell? ⟨b, off + k * 2 + 1, none⟩ = some (.int .i64 ts[k].2)) :
    ∀ j u, (cellsP ts)[j]? = some u → W.cell? ((⟨b, off, none⟩ : Addr).add j) = some u := by
  intro j u hj
  have hl : j < ts.length * 2 := by rw [← cellsP_length]; exact (List.getElem?_eq_some_iff.1 hj).1
  have ha : (⟨b, off, none⟩ : Addr).add j = ⟨b, off + j, none⟩ := by
    unfold Addr.add
    split
    · rename_i h0; simp [h0]
    · rfl
  rw [ha]
  obtain ⟨k, hk⟩ : ∃ k, j = k * 2 ∨ j = k * 2 + 1 := ⟨j / 2, by omega⟩
  have hkl : k < ts.length := by omega
  obtain ⟨c1, c2⟩ := cellsP_get ts k hkl
  obtain ⟨d1, d2⟩ := h k hkl
  rcases hk with rfl | rfl
  · rw [c1] at hj; rw [← hj]; exact d1
  · rw [c2] at hj; rw [← hj]; exact d2
theorem news_one (ts : List (Int × Int)) : ∀ u ∈ cellsP ts, u.oneCell' = true := by
  intro u hu
  simp only [cellsP, List.mem_flatMap, List.mem_cons, List.not_mem_nil, or_false] at hu
  obtain ⟨x, _, rfl | rfl⟩ := hu <;> rfl
theorem offA_v (xs : List (Int × Int)) (v r : Value) (o f : Int) (w : World) (hv : PL xs v w) (h : Hid (offAll xs o f = r)) :
    Calls Try.prog 27 #[v, .agg #[.int .i64 o, .int .i64 f]] w fun e w' => e = .returned r ∧ Below w.heap.size w w' := by
  have := offA_any xs v o f w hv
  rw [h.out] at this
  exact this
theorem offRa_v (xs : List (Int × Int)) (v r : Value) (o f : Int) (w : World) (hv : PL xs v w) (h : Hid (offAll xs o f = r)) :
    Calls Try.prog 28 #[v, .agg #[.int .i64 o, .int .i64 f]] w fun e w' => e = .returned r ∧ Below w.heap.size w w' := by
  have := offRa_any xs v o f w hv
  rw [h.out] at this
  exact this
theorem fairA_v (N lo hi D o : Int) (xs : List (Int × Int)) (v r : Value) (w : World) (hv : PL xs v w) (h : Hid (fairAll N lo hi D o xs = r)) :
    Calls Try.prog 29 #[.agg #[.int .i64 N, .int .i64 lo, .int .i64 hi], .int .i64 D, .int .i64 o, v] w fun e w' => e = .returned r ∧ Below w.heap.size w w' := by
  have := fair_any N lo hi D o xs v w hv
  rw [h.out] at this
  exact this
theorem fairRa_v (N lo hi D o : Int) (xs : List (Int × Int)) (v r : Value) (w : World) (hv : PL xs v w) (h : Hid (fairAll N lo hi D o xs = r)) :
    Calls Try.prog 30 #[.agg #[.int .i64 N, .int .i64 lo, .int .i64 hi], .int .i64 D, .int .i64 o, v] w fun e w' => e = .returned r ∧ Below w.heap.size w w' := by
  have := fairR_any N lo hi D o xs v w hv
  rw [h.out] at this
  exact this
def awardT (a b u : Int) : Value := .tuple (if awardB a b u = false then #[.int .i64 0, .int .i64 2] else #[.int .i64 (awardV a b u), .int .i64 0])
theorem awardA_v (a b u : Int) (r : Value) (w : World) (h : Hid (awardT a b u = r)) :
    Calls Try.prog 31 #[.int .i64 a, .int .i64 b, .int .i64 u] w fun e w' => e = .returned r ∧ Below w.heap.size w w' := by
  have := award_any a b u w
  rw [← h.out]
  exact this
theorem awardRa_v (a b u : Int) (r : Value) (w : World) (h : Hid (awardT a b u = r)) :
    Calls Try.prog 32 #[.int .i64 a, .int .i64 b, .int .i64 u] w fun e w' => e = .returned r ∧ w = w' := by
  have := awardR_any a b u w
  rw [← h.out]
  exact this
theorem offAll_pair (xs : List (Int × Int)) (o f : Int) : ∃ m e : Int, offAll xs o f = .tuple #[.int .i64 m, .int .i64 e] := by
  unfold offAll
  split
  · exact ⟨_, _, rfl⟩
  · exact ⟨_, _, rfl⟩
theorem awardT_pair (a b u : Int) : ∃ m e : Int, awardT a b u = .tuple #[.int .i64 m, .int .i64 e] := by
  unfold awardT
  split
  · exact ⟨_, _, rfl⟩
  · exact ⟨_, _, rfl⟩
theorem fairAll_pair (N lo hi D o : Int) (xs : List (Int × Int)) : ∃ p q e : Int, fairAll N lo hi D o xs = .tuple #[.agg #[.int .i64 p, .int .i64 q], .int .i64 e] := by
  unfold fairAll
  split
  · exact ⟨_, _, _, rfl⟩
  · split
    · exact ⟨_, _, _, rfl⟩
    · exact ⟨_, _, _, rfl⟩

set_option maxRecDepth 100000 in
set_option maxHeartbeats 8000000 in
theorem pays_some (N lo hi D o f a b u : Int) (ts : List (Int × Int)) (ad : Addr) (cap : Nat) (w : World) (hv : PL ts (.slice (some ad) ts.length cap) w) :
    Calls Try.prog 5 #[.agg #[.int .i64 N, .int .i64 lo, .int .i64 hi], .int .i64 D, .agg #[.int .i64 o, .int .i64 f], .slice (some ad) ts.length cap, .int .i64 a, .int .i64 b, .int .i64 u] w fun e w' => e = .returned (.bool true) ∧ Below w.heap.size w w' := by
  have HV := Lib.hid hv
  clear hv
  by_cases h12 : 12 < ts.length
  · have k12 : decide (12 < (ts.length : Int)) = true := decide_eq_true (by omega)
    have hB0 : Below w.heap.size w ((w.alloc (.cells #[.int .i64 N, .int .i64 lo, .int .i64 hi] 25)).alloc (.cells #[.int .i64 o, .int .i64 f] 27)) := ((Below.refl _ w).alloc (Nat.le_refl _) _).alloc (by simp) _
    have c0_0 : ((w.alloc (.cells #[.int .i64 N, .int .i64 lo, .int .i64 hi] 25)).alloc (.cells #[.int .i64 o, .int .i64 f] 27)).cell? ⟨w.heap.size, 0, none⟩ = some (.int .i64 N) := by simp [go_sem]
    have c0_1 : ((w.alloc (.cells #[.int .i64 N, .int .i64 lo, .int .i64 hi] 25)).alloc (.cells #[.int .i64 o, .int .i64 f] 27)).cell? ⟨w.heap.size, 1, none⟩ = some (.int .i64 lo) := by simp [go_sem]
    have c0_2 : ((w.alloc (.cells #[.int .i64 N, .int .i64 lo, .int .i64 hi] 25)).alloc (.cells #[.int .i64 o, .int .i64 f] 27)).cell? ⟨w.heap.size, 2, none⟩ = some (.int .i64 hi) := by simp [go_sem]
    have c1_0 : ((w.alloc (.cells #[.int .i64 N, .int .i64 lo, .int .i64 hi] 25)).alloc (.cells #[.int .i64 o, .int .i64 f] 27)).cell? ⟨w.heap.size + 1, 0, none⟩ = some (.int .i64 o) := by simp [go_sem]
    have c1_1 : ((w.alloc (.cells #[.int .i64 N, .int .i64 lo, .int .i64 hi] 25)).alloc (.cells #[.int .i64 o, .int .i64 f] 27)).cell? ⟨w.heap.size + 1, 1, none⟩ = some (.int .i64 f) := by simp [go_sem]
    go_enter Try.func5, Try.ntmps5
    go_wp2_with fail
    go_ret
    exact ⟨rfl, hB0⟩
  have k12 : decide (12 < (ts.length : Int)) = false := decide_eq_false (by omega)
  have hB0 : Below w.heap.size w ((w.alloc (.cells #[.int .i64 N, .int .i64 lo, .int .i64 hi] 25)).alloc (.cells #[.int .i64 o, .int .i64 f] 27)) := ((Below.refl _ w).alloc (Nat.le_refl _) _).alloc (by simp) _
  have c0_0 : ((w.alloc (.cells #[.int .i64 N, .int .i64 lo, .int .i64 hi] 25)).alloc (.cells #[.int .i64 o, .int .i64 f] 27)).cell? ⟨w.heap.size, 0, none⟩ = some (.int .i64 N) := by simp [go_sem]
  have c0_1 : ((w.alloc (.cells #[.int .i64 N, .int .i64 lo, .int .i64 hi] 25)).alloc (.cells #[.int .i64 o, .int .i64 f] 27)).cell? ⟨w.heap.size, 1, none⟩ = some (.int .i64 lo) := by simp [go_sem]
  have c0_2 : ((w.alloc (.cells #[.int .i64 N, .int .i64 lo, .int .i64 hi] 25)).alloc (.cells #[.int .i64 o, .int .i64 f] 27)).cell? ⟨w.heap.size, 2, none⟩ = some (.int .i64 hi) := by simp [go_sem]
  have c1_0 : ((w.alloc (.cells #[.int .i64 N, .int .i64 lo, .int .i64 hi] 25)).alloc (.cells #[.int .i64 o, .int .i64 f] 27)).cell? ⟨w.heap.size + 1, 0, none⟩ = some (.int .i64 o) := by simp [go_sem]
  have c1_1 : ((w.alloc (.cells #[.int .i64 N, .int .i64 lo, .int .i64 hi] 25)).alloc (.cells #[.int .i64 o, .int .i64 f] 27)).cell? ⟨w.heap.size + 1, 1, none⟩ = some (.int .i64 f) := by simp [go_sem]
  obtain ⟨m1, x1, ho1⟩ := offAll_pair ts o f
  obtain ⟨p2, q2, x2, ho2⟩ := fairAll_pair N lo hi D o ts
  obtain ⟨m3, x3, ho3⟩ := awardT_pair a b u
  have HO1 := Lib.hid ho1
  have HO2 := Lib.hid ho2
  have HO3 := Lib.hid ho3
  clear ho1 ho2 ho3
  have KE : Free.Bel ((w.alloc (.cells #[.int .i64 N, .int .i64 lo, .int .i64 hi] 25)).alloc (.cells #[.int .i64 o, .int .i64 f] 27)) (((w.alloc (.cells #[.int .i64 N, .int .i64 lo, .int .i64 hi] 25)).alloc (.cells #[.int .i64 o, .int .i64 f] 27)).alloc (.cells #[] 113)) := belAlloc _ _
  have FA : ∀ W, Free.Bel ((w.alloc (.cells #[.int .i64 N, .int .i64 lo, .int .i64 hi] 25)).alloc (.cells #[.int .i64 o, .int .i64 f] 27)) W → W.cell? ⟨w.heap.size, 0, none⟩ = some (.int .i64 N) ∧ W.cell? ⟨w.heap.size, 1, none⟩ = some (.int .i64 lo) ∧ W.cell? ⟨w.heap.size, 2, none⟩ = some (.int .i64 hi) ∧ W.cell? ⟨w.heap.size + 1, 0, none⟩ = some (.int .i64 o) ∧ W.cell? ⟨w.heap.size + 1, 1, none⟩ = some (.int .i64 f) := fun W hW => ⟨keepsB hW c0_0, keepsB hW c0_1, keepsB hW c0_2, keepsB hW c1_0, keepsB hW c1_1⟩
  have HOWN : Hid (World.ownsRow (((w.alloc (.cells #[.int .i64 N, .int .i64 lo, .int .i64 hi] 25)).alloc (.cells #[.int .i64 o, .int .i64 f] 27)).alloc (.cells #[] 113)) (w.heap.size + 1 + 1) 113 2 (.slice (some ⟨w.heap.size + 1 + 1, 0, none⟩) 0 0) 0 []) := by
    have h := World.ownsRow_lit (base := ((w.alloc (.cells #[.int .i64 N, .int .i64 lo, .int .i64 hi] 25)).alloc (.cells #[.int .i64 o, .int .i64 f] 27)).heap.size) (e := 113) (size := 2) ((w.alloc (.cells #[.int .i64 N, .int .i64 lo, .int .i64 hi] 25)).alloc (.cells #[.int .i64 o, .int .i64 f] 27)) #[] 0 (Nat.le_refl _) (by simp [maxLen]) (by simp)
    show World.ownsRow _ _ _ _ _ _ _
    simpa using h
  obtain ⟨i0, hi0, hz0, hz1, hz2⟩ := info_parts T.infoTerm
  have HZ := Lib.hid (And.intro hi0 (And.intro hz0 (And.intro hz1 hz2)))
  clear hi0 hz0 hz1 hz2
  have hnews : ∀ W, Free.Bel ((w.alloc (.cells #[.int .i64 N, .int .i64 lo, .int .i64 hi] 25)).alloc (.cells #[.int .i64 o, .int .i64 f] 27)) W → ∀ j u, (cellsP ts)[j]? = some u → W.cell? (ad.add j) = some u := fun W hW => by
    obtain ⟨p9, c9, hp9, hm9, hc9⟩ := (HV.out.keeps hB0).keeps hW
    by_cases hts : ts = []
    · subst hts; intro j u hj; simp [cellsP] at hj
    · obtain ⟨b9, off9, hb9, hcs⟩ := hc9 hts
      simp only [Value.slice.injEq] at hp9
      obtain ⟨h9, _, _⟩ := hp9
      rw [← h9] at hb9
      obtain rfl := Option.some.inj hb9
      exact cells_news hcs
  have HNEWS := Lib.hid (hnews (((w.alloc (.cells #[.int .i64 N, .int .i64 lo, .int .i64 hi] 25)).alloc (.cells #[.int .i64 o, .int .i64 f] 27)).alloc (.cells #[] 113)) KE)
  clear hnews
  go_enter Try.func5, Try.ntmps5
  go_wp2_with (first | (at_builtin; go_loud (refine wpList_append_own _ rfl _ _ 63 rfl (w.heap.size + 1 + 1) 113 i0 (.agg #[.int .i64 0, .int .i64 0]) 2 16 Try.underlying63 HZ.out.1 HZ.out.2.1 HZ.out.2.2.1 HZ.out.2.2.2 rfl (by decide) _ 0 [] ?hs HOWN.out ad ts.length cap (cellsP ts) ?hx (cellsP_length ts) HNEWS.out (news_one ts) ?h63 ?hbytes ?hbase ?_; (case hs => rfl); (case hx => rfl); (case h63 => unfold maxLen; omega); (case hbytes => omega); (case hbase => simp)); intro v9 wx hown9 hgrow9 hnil9; have KE9 : Free.Bel ((w.alloc (.cells #[.int .i64 N, .int .i64 lo, .int .i64 hi] 25)).alloc (.cells #[.int .i64 o, .int .i64 f] 27)) wx := (show Below _ _ _ from KE).trans ((grown_bel HOWN.out hgrow9 (by simp)).mono (by simp))) | fail)
  have hpl9 : PL ts v9 wx := PL.of_row (n := ts.length) rfl (by unfold maxLen; omega) (by simpa using hown9)
  clear hown9 hgrow9 hnil9 HOWN HNEWS HZ
  have hb1 : Free.Bel ((w.alloc (.cells #[.int .i64 N, .int .i64 lo, .int .i64 hi] 25)).alloc (.cells #[.int .i64 o, .int .i64 f] 27)) wx := KE9
  have hpv : PL ts v9 wx := hpl9
  have kc0_0 := keepsB hb1 c0_0
  have kc0_1 := keepsB hb1 c0_1
  have kc0_2 := keepsB hb1 c0_2
  have kc1_0 := keepsB hb1 c1_0
  have kc1_1 := keepsB hb1 c1_1
  have hBz : Below w.heap.size w wx := hB0.trans (hb1.mono (by simp; omega))
  have hzz : w.heap.size ≤ (wx).heap.size := hBz.size
  clear FA KE hb1 hB0 c0_0 c0_1 c0_2 c1_0 c1_1
  generalize hbb : w.heap.size = bb at *
  have HBB := Lib.hid hbb
  clear hbb
  have HB_wx := Lib.hid (show Below bb w wx from hBz)
  have hz_wx : bb ≤ wx.heap.size := hzz
  have FA : ∀ W, Free.Bel wx W → W.cell? ⟨bb, 0, none⟩ = some (.int .i64 N) ∧ W.cell? ⟨bb, 1, none⟩ = some (.int .i64 lo) ∧ W.cell? ⟨bb, 2, none⟩ = some (.int .i64 hi) ∧ W.cell? ⟨bb + 1, 0, none⟩ = some (.int .i64 o) ∧ W.cell? ⟨bb + 1, 1, none⟩ = some (.int .i64 f) ∧ PL ts v9 W ∧ PL ts (.slice (some ad) ts.length cap) W ∧ bb ≤ W.heap.size := fun W hW => ⟨keepsB hW kc0_0, keepsB hW kc0_1, keepsB hW kc0_2, keepsB hW kc1_0, keepsB hW kc1_1, hpv.keeps hW, HV.out.keeps (HBB.out.symm ▸ hBz.trans (hW.mono hzz)), Nat.le_trans hz_wx hW.size⟩
  have KR : Free.Bel wx wx := Free.Bel.refl _
  clear hBz hzz hpv kc0_0 kc0_1 kc0_2 kc1_0 kc1_1
  refine (offA_v ts v9 _ o f _ (FA wx (Free.Bel.refl _)).2.2.2.2.2.1 HO1).mono ?_
  rintro e w2 ⟨rfl, hB⟩
  have HB_w2 := Lib.hid (HB_wx.out.trans ((hB).mono hz_wx))
  have hz_w2 : bb ≤ w2.heap.size := Nat.le_trans hz_wx (hB).size
  have FN := fun (W : World) (hW : Free.Bel w2 W) => FA W (bt (hB) hW)
  clear FA HB_wx hz_wx KR
  have FA := FN
  clear FN
  have KR := Free.Bel.refl w2
  clear hB
  go_wp2_with fail
  refine (offRa_v ts (.slice (some ad) ts.length cap) _ o f _ (FA w2 (Free.Bel.refl _)).2.2.2.2.2.2.1 HO1).mono ?_
  rintro e w3 ⟨rfl, hB⟩
  have HB_w3 := Lib.hid (HB_w2.out.trans ((hB).mono hz_w2))
  have hz_w3 : bb ≤ w3.heap.size := Nat.le_trans hz_w2 (hB).size
  have FN := fun (W : World) (hW : Free.Bel w3 W) => FA W (bt (hB) hW)
  clear FA HB_w2 hz_w2 KR
  have FA := FN
  clear FN
  have KR := Free.Bel.refl w3
  clear hB
  go_wp2_with fail
  refine (fairA_v N lo hi D o ts v9 _ _ (FA w3 (Free.Bel.refl _)).2.2.2.2.2.1 HO2).mono ?_
  rintro e w4 ⟨rfl, hB⟩
  have HB_w4 := Lib.hid (HB_w3.out.trans ((hB).mono hz_w3))
  have hz_w4 : bb ≤ w4.heap.size := Nat.le_trans hz_w3 (hB).size
  have FN := fun (W : World) (hW : Free.Bel w4 W) => FA W (bt (hB) hW)
  clear FA HB_w3 hz_w3 KR
  have FA := FN
  clear FN
  have KR := Free.Bel.refl w4
  clear hB
  have KA0 : Free.Bel w4 (w4.alloc (.cells #[.int .i64 p2, .int .i64 q2] 34)) := Bel.allocT (Free.Bel.refl _) _
  go_wp2_with fail
  clear KA0
  have hN : Free.Bel w4 (w4.alloc (.cells #[.int .i64 p2, .int .i64 q2] 34)) := (Bel.allocT (Free.Bel.refl w4) _)
  have n_g40_0 : (w4.alloc (.cells #[.int .i64 p2, .int .i64 q2] 34)).cell? ⟨w4.heap.size, 0, none⟩ = some (.int .i64 p2) := by simp [go_sem]
  have n_g40_1 : (w4.alloc (.cells #[.int .i64 p2, .int .i64 q2] 34)).cell? ⟨w4.heap.size, 1, none⟩ = some (.int .i64 q2) := by simp [go_sem]
  generalize (w4.alloc (.cells #[.int .i64 p2, .int .i64 q2] 34)) = w5 at *
  obtain ⟨g40, hgz⟩ : ∃ x, x = w4.heap.size := ⟨_, rfl⟩
  rw [← hgz] at n_g40_0 n_g40_1 ⊢
  clear hgz
  have HB_w5 := Lib.hid (HB_w4.out.trans ((hN).mono hz_w4))
  have hz_w5 : bb ≤ w5.heap.size := Nat.le_trans hz_w4 (hN).size
  have FN := fun (W : World) (hW : Free.Bel w5 W) => And.intro (keepsB hW n_g40_0) (And.intro (keepsB hW n_g40_1) (FA W (bt (hN) hW)))
  clear FA HB_w4 hz_w4 KR
  have FA := FN
  clear FN
  have KR := Free.Bel.refl w5
  clear hN n_g40_0 n_g40_1
  refine (fairRa_v N lo hi D o ts (.slice (some ad) ts.length cap) _ _ (FA w5 (Free.Bel.refl _)).2.2.2.2.2.2.2.2.1 HO2).mono ?_
  rintro e w6 ⟨rfl, hB⟩
  have HB_w6 := Lib.hid (HB_w5.out.trans ((hB).mono hz_w5))
  have hz_w6 : bb ≤ w6.heap.size := Nat.le_trans hz_w5 (hB).size
  have FN := fun (W : World) (hW : Free.Bel w6 W) => FA W (bt (hB) hW)
  clear FA HB_w5 hz_w5 KR
  have FA := FN
  clear FN
  have KR := Free.Bel.refl w6
  clear hB
  have KA0 : Free.Bel w6 (w6.alloc (.cells #[.int .i64 p2, .int .i64 q2] 34)) := Bel.allocT (Free.Bel.refl _) _
  go_wp2_with fail
  clear KA0
  have hN : Free.Bel w6 (w6.alloc (.cells #[.int .i64 p2, .int .i64 q2] 34)) := (Bel.allocT (Free.Bel.refl w6) _)
  have n_g60_0 : (w6.alloc (.cells #[.int .i64 p2, .int .i64 q2] 34)).cell? ⟨w6.heap.size, 0, none⟩ = some (.int .i64 p2) := by simp [go_sem]
  have n_g60_1 : (w6.alloc (.cells #[.int .i64 p2, .int .i64 q2] 34)).cell? ⟨w6.heap.size, 1, none⟩ = some (.int .i64 q2) := by simp [go_sem]
  generalize (w6.alloc (.cells #[.int .i64 p2, .int .i64 q2] 34)) = w7 at *
  obtain ⟨g60, hgz⟩ : ∃ x, x = w6.heap.size := ⟨_, rfl⟩
  rw [← hgz] at n_g60_0 n_g60_1 ⊢
  clear hgz
  have HB_w7 := Lib.hid (HB_w6.out.trans ((hN).mono hz_w6))
  have hz_w7 : bb ≤ w7.heap.size := Nat.le_trans hz_w6 (hN).size
  have FN := fun (W : World) (hW : Free.Bel w7 W) => And.intro (keepsB hW n_g60_0) (And.intro (keepsB hW n_g60_1) (FA W (bt (hN) hW)))
  clear FA HB_w6 hz_w6 KR
  have FA := FN
  clear FN
  have KR := Free.Bel.refl w7
  clear hN n_g60_0 n_g60_1
  refine (awardA_v a b u _ _ HO3).mono ?_
  rintro e w8 ⟨rfl, hB⟩
  have HB_w8 := Lib.hid (HB_w7.out.trans ((hB).mono hz_w7))
  have hz_w8 : bb ≤ w8.heap.size := Nat.le_trans hz_w7 (hB).size
  have FN := fun (W : World) (hW : Free.Bel w8 W) => FA W (bt (hB) hW)
  clear FA HB_w7 hz_w7 KR
  have FA := FN
  clear FN
  have KR := Free.Bel.refl w8
  clear hB
  go_wp2_with fail
  refine (awardRa_v a b u _ _ HO3).mono ?_
  rintro e _ ⟨rfl, rfl⟩
  go_wp2_with fail
  refine (sameT_any ts v9 (.slice (some ad) ts.length cap) _ (FA w8 (Free.Bel.refl _)).2.2.2.2.2.2.2.2.2.1 (FA w8 (Free.Bel.refl _)).2.2.2.2.2.2.2.2.2.2.1).mono ?_
  rintro e w9 ⟨rfl, hB⟩
  have HB_w9 := Lib.hid (HB_w8.out.trans ((hB).mono hz_w8))
  have hz_w9 : bb ≤ w9.heap.size := Nat.le_trans hz_w8 (hB).size
  have FN := fun (W : World) (hW : Free.Bel w9 W) => FA W (bt (hB) hW)
  clear FA HB_w8 hz_w8 KR
  have FA := FN
  clear FN
  have KR := Free.Bel.refl w9
  clear hB
  go_wp2_with fail
  go_ret
  have hbb := HBB.out
  subst hbb
  exact ⟨rfl, HB_w9.out⟩
set_option maxRecDepth 100000 in
set_option maxHeartbeats 8000000 in
theorem pays_none (N lo hi D o f a b u : Int) (w : World) :
    Calls Try.prog 5 #[.agg #[.int .i64 N, .int .i64 lo, .int .i64 hi], .int .i64 D, .agg #[.int .i64 o, .int .i64 f], .slice none 0 0, .int .i64 a, .int .i64 b, .int .i64 u] w fun e w' => e = .returned (.bool true) ∧ Below w.heap.size w w' := by
  have HV : Hid (PL [] (.slice none 0 0) w) := PL.nil w
  have hB0 : Below w.heap.size w ((w.alloc (.cells #[.int .i64 N, .int .i64 lo, .int .i64 hi] 25)).alloc (.cells #[.int .i64 o, .int .i64 f] 27)) := ((Below.refl _ w).alloc (Nat.le_refl _) _).alloc (by simp) _
  have c0_0 : ((w.alloc (.cells #[.int .i64 N, .int .i64 lo, .int .i64 hi] 25)).alloc (.cells #[.int .i64 o, .int .i64 f] 27)).cell? ⟨w.heap.size, 0, none⟩ = some (.int .i64 N) := by simp [go_sem]
  have c0_1 : ((w.alloc (.cells #[.int .i64 N, .int .i64 lo, .int .i64 hi] 25)).alloc (.cells #[.int .i64 o, .int .i64 f] 27)).cell? ⟨w.heap.size, 1, none⟩ = some (.int .i64 lo) := by simp [go_sem]
  have c0_2 : ((w.alloc (.cells #[.int .i64 N, .int .i64 lo, .int .i64 hi] 25)).alloc (.cells #[.int .i64 o, .int .i64 f] 27)).cell? ⟨w.heap.size, 2, none⟩ = some (.int .i64 hi) := by simp [go_sem]
  have c1_0 : ((w.alloc (.cells #[.int .i64 N, .int .i64 lo, .int .i64 hi] 25)).alloc (.cells #[.int .i64 o, .int .i64 f] 27)).cell? ⟨w.heap.size + 1, 0, none⟩ = some (.int .i64 o) := by simp [go_sem]
  have c1_1 : ((w.alloc (.cells #[.int .i64 N, .int .i64 lo, .int .i64 hi] 25)).alloc (.cells #[.int .i64 o, .int .i64 f] 27)).cell? ⟨w.heap.size + 1, 1, none⟩ = some (.int .i64 f) := by simp [go_sem]
  obtain ⟨m1, x1, ho1⟩ := offAll_pair [] o f
  obtain ⟨p2, q2, x2, ho2⟩ := fairAll_pair N lo hi D o []
  obtain ⟨m3, x3, ho3⟩ := awardT_pair a b u
  have HO1 := Lib.hid ho1
  have HO2 := Lib.hid ho2
  have HO3 := Lib.hid ho3
  clear ho1 ho2 ho3
  have KE : Free.Bel ((w.alloc (.cells #[.int .i64 N, .int .i64 lo, .int .i64 hi] 25)).alloc (.cells #[.int .i64 o, .int .i64 f] 27)) (((w.alloc (.cells #[.int .i64 N, .int .i64 lo, .int .i64 hi] 25)).alloc (.cells #[.int .i64 o, .int .i64 f] 27)).alloc (.cells #[] 113)) := belAlloc _ _
  have FA : ∀ W, Free.Bel ((w.alloc (.cells #[.int .i64 N, .int .i64 lo, .int .i64 hi] 25)).alloc (.cells #[.int .i64 o, .int .i64 f] 27)) W → W.cell? ⟨w.heap.size, 0, none⟩ = some (.int .i64 N) ∧ W.cell? ⟨w.heap.size, 1, none⟩ = some (.int .i64 lo) ∧ W.cell? ⟨w.heap.size, 2, none⟩ = some (.int .i64 hi) ∧ W.cell? ⟨w.heap.size + 1, 0, none⟩ = some (.int .i64 o) ∧ W.cell? ⟨w.heap.size + 1, 1, none⟩ = some (.int .i64 f) := fun W hW => ⟨keepsB hW c0_0, keepsB hW c0_1, keepsB hW c0_2, keepsB hW c1_0, keepsB hW c1_1⟩
  have HOWN : Hid (World.ownsRow (((w.alloc (.cells #[.int .i64 N, .int .i64 lo, .int .i64 hi] 25)).alloc (.cells #[.int .i64 o, .int .i64 f] 27)).alloc (.cells #[] 113)) (w.heap.size + 1 + 1) 113 2 (.slice (some ⟨w.heap.size + 1 + 1, 0, none⟩) 0 0) 0 []) := by
    have h := World.ownsRow_lit (base := ((w.alloc (.cells #[.int .i64 N, .int .i64 lo, .int .i64 hi] 25)).alloc (.cells #[.int .i64 o, .int .i64 f] 27)).heap.size) (e := 113) (size := 2) ((w.alloc (.cells #[.int .i64 N, .int .i64 lo, .int .i64 hi] 25)).alloc (.cells #[.int .i64 o, .int .i64 f] 27)) #[] 0 (Nat.le_refl _) (by simp [maxLen]) (by simp)
    show World.ownsRow _ _ _ _ _ _ _
    simpa using h
  obtain ⟨i0, hi0, hz0, hz1, hz2⟩ := info_parts T.infoTerm
  have HZ := Lib.hid (And.intro hi0 (And.intro hz0 (And.intro hz1 hz2)))
  clear hi0 hz0 hz1 hz2
  go_enter Try.func5, Try.ntmps5
  go_wp2_with (first | (at_builtin; go_loud (refine wpList_append_own_none rfl _ _ 63 rfl (w.heap.size + 1 + 1) 113 i0 2 Try.underlying63 HZ.out.1 _ 0 [] ?hs HOWN.out ?hx ?_; (case hs => rfl); (case hx => rfl))) | fail)
  clear HOWN HZ
  have hb1 : Free.Bel ((w.alloc (.cells #[.int .i64 N, .int .i64 lo, .int .i64 hi] 25)).alloc (.cells #[.int .i64 o, .int .i64 f] 27)) (((w.alloc (.cells #[.int .i64 N, .int .i64 lo, .int .i64 hi] 25)).alloc (.cells #[.int .i64 o, .int .i64 f] 27)).alloc (.cells #[] 113)) := KE
  have hpv : PL [] (.slice (some ⟨w.heap.size + 1 + 1, 0, none⟩) 0 0) (((w.alloc (.cells #[.int .i64 N, .int .i64 lo, .int .i64 hi] 25)).alloc (.cells #[.int .i64 o, .int .i64 f] 27)).alloc (.cells #[] 113)) := ⟨some ⟨w.heap.size + 1 + 1, 0, none⟩, 0, rfl, by simp, fun h => absurd rfl h⟩
  have kc0_0 := keepsB hb1 c0_0
  have kc0_1 := keepsB hb1 c0_1
  have kc0_2 := keepsB hb1 c0_2
  have kc1_0 := keepsB hb1 c1_0
  have kc1_1 := keepsB hb1 c1_1
  have hBz : Below w.heap.size w (((w.alloc (.cells #[.int .i64 N, .int .i64 lo, .int .i64 hi] 25)).alloc (.cells #[.int .i64 o, .int .i64 f] 27)).alloc (.cells #[] 113)) := hB0.trans (hb1.mono (by simp; omega))
  have hzz : w.heap.size ≤ ((((w.alloc (.cells #[.int .i64 N, .int .i64 lo, .int .i64 hi] 25)).alloc (.cells #[.int .i64 o, .int .i64 f] 27)).alloc (.cells #[] 113))).heap.size := hBz.size
  clear FA KE hb1 hB0 c0_0 c0_1 c0_2 c1_0 c1_1
  generalize hw1 : (((w.alloc (.cells #[.int .i64 N, .int .i64 lo, .int .i64 hi] 25)).alloc (.cells #[.int .i64 o, .int .i64 f] 27)).alloc (.cells #[] 113)) = w1 at *
  clear hw1
  generalize hbb : w.heap.size = bb at *
  have HBB := Lib.hid hbb
  clear hbb
  have HB_w1 := Lib.hid (show Below bb w w1 from hBz)
  have hz_w1 : bb ≤ w1.heap.size := hzz
  have FA : ∀ W, Free.Bel w1 W → W.cell? ⟨bb, 0, none⟩ = some (.int .i64 N) ∧ W.cell? ⟨bb, 1, none⟩ = some (.int .i64 lo) ∧ W.cell? ⟨bb, 2, none⟩ = some (.int .i64 hi) ∧ W.cell? ⟨bb + 1, 0, none⟩ = some (.int .i64 o) ∧ W.cell? ⟨bb + 1, 1, none⟩ = some (.int .i64 f) ∧ PL [] (.slice (some ⟨bb + 1 + 1, 0, none⟩) 0 0) W ∧ PL [] (.slice none 0 0) W ∧ bb ≤ W.heap.size := fun W hW => ⟨keepsB hW kc0_0, keepsB hW kc0_1, keepsB hW kc0_2, keepsB hW kc1_0, keepsB hW kc1_1, hpv.keeps hW, HV.out.keeps (HBB.out.symm ▸ hBz.trans (hW.mono hzz)), Nat.le_trans hz_w1 hW.size⟩
  have KR : Free.Bel w1 w1 := Free.Bel.refl _
  clear hBz hzz hpv kc0_0 kc0_1 kc0_2 kc1_0 kc1_1
  refine (offA_v [] (.slice (some ⟨bb + 1 + 1, 0, none⟩) 0 0) _ o f _ (FA w1 (Free.Bel.refl _)).2.2.2.2.2.1 HO1).mono ?_
  rintro e w2 ⟨rfl, hB⟩
  have HB_w2 := Lib.hid (HB_w1.out.trans ((hB).mono hz_w1))
  have hz_w2 : bb ≤ w2.heap.size := Nat.le_trans hz_w1 (hB).size
  have FN := fun (W : World) (hW : Free.Bel w2 W) => FA W (bt (hB) hW)
  clear FA HB_w1 hz_w1 KR
  have FA := FN
  clear FN
  have KR := Free.Bel.refl w2
  clear hB
  go_wp2_with fail
  refine (offRa_v [] (.slice none 0 0) _ o f _ (FA w2 (Free.Bel.refl _)).2.2.2.2.2.2.1 HO1).mono ?_
  rintro e w3 ⟨rfl, hB⟩
  have HB_w3 := Lib.hid (HB_w2.out.trans ((hB).mono hz_w2))
  have hz_w3 : bb ≤ w3.heap.size := Nat.le_trans hz_w2 (hB).size
  have FN := fun (W : World) (hW : Free.Bel w3 W) => FA W (bt (hB) hW)
  clear FA HB_w2 hz_w2 KR
  have FA := FN
  clear FN
  have KR := Free.Bel.refl w3
  clear hB
  go_wp2_with fail
  refine (fairA_v N lo hi D o [] (.slice (some ⟨bb + 1 + 1, 0, none⟩) 0 0) _ _ (FA w3 (Free.Bel.refl _)).2.2.2.2.2.1 HO2).mono ?_
  rintro e w4 ⟨rfl, hB⟩
  have HB_w4 := Lib.hid (HB_w3.out.trans ((hB).mono hz_w3))
  have hz_w4 : bb ≤ w4.heap.size := Nat.le_trans hz_w3 (hB).size
  have FN := fun (W : World) (hW : Free.Bel w4 W) => FA W (bt (hB) hW)
  clear FA HB_w3 hz_w3 KR
  have FA := FN
  clear FN
  have KR := Free.Bel.refl w4
  clear hB
  have KA0 : Free.Bel w4 (w4.alloc (.cells #[.int .i64 p2, .int .i64 q2] 34)) := Bel.allocT (Free.Bel.refl _) _
  go_wp2_with fail
  clear KA0
  have hN : Free.Bel w4 (w4.alloc (.cells #[.int .i64 p2, .int .i64 q2] 34)) := (Bel.allocT (Free.Bel.refl w4) _)
  have n_g40_0 : (w4.alloc (.cells #[.int .i64 p2, .int .i64 q2] 34)).cell? ⟨w4.heap.size, 0, none⟩ = some (.int .i64 p2) := by simp [go_sem]
  have n_g40_1 : (w4.alloc (.cells #[.int .i64 p2, .int .i64 q2] 34)).cell? ⟨w4.heap.size, 1, none⟩ = some (.int .i64 q2) := by simp [go_sem]
  generalize (w4.alloc (.cells #[.int .i64 p2, .int .i64 q2] 34)) = w5 at *
  obtain ⟨g40, hgz⟩ : ∃ x, x = w4.heap.size := ⟨_, rfl⟩
  rw [← hgz] at n_g40_0 n_g40_1 ⊢
  clear hgz
  have HB_w5 := Lib.hid (HB_w4.out.trans ((hN).mono hz_w4))
  have hz_w5 : bb ≤ w5.heap.size := Nat.le_trans hz_w4 (hN).size
  have FN := fun (W : World) (hW : Free.Bel w5 W) => And.intro (keepsB hW n_g40_0) (And.intro (keepsB hW n_g40_1) (FA W (bt (hN) hW)))
  clear FA HB_w4 hz_w4 KR
  have FA := FN
  clear FN
  have KR := Free.Bel.refl w5
  clear hN n_g40_0 n_g40_1
  refine (fairRa_v N lo hi D o [] (.slice none 0 0) _ _ (FA w5 (Free.Bel.refl _)).2.2.2.2.2.2.2.2.1 HO2).mono ?_
  rintro e w6 ⟨rfl, hB⟩
  have HB_w6 := Lib.hid (HB_w5.out.trans ((hB).mono hz_w5))
  have hz_w6 : bb ≤ w6.heap.size := Nat.le_trans hz_w5 (hB).size
  have FN := fun (W : World) (hW : Free.Bel w6 W) => FA W (bt (hB) hW)
  clear FA HB_w5 hz_w5 KR
  have FA := FN
  clear FN
  have KR := Free.Bel.refl w6
  clear hB
  have KA0 : Free.Bel w6 (w6.alloc (.cells #[.int .i64 p2, .int .i64 q2] 34)) := Bel.allocT (Free.Bel.refl _) _
  go_wp2_with fail
  clear KA0
  have hN : Free.Bel w6 (w6.alloc (.cells #[.int .i64 p2, .int .i64 q2] 34)) := (Bel.allocT (Free.Bel.refl w6) _)
  have n_g60_0 : (w6.alloc (.cells #[.int .i64 p2, .int .i64 q2] 34)).cell? ⟨w6.heap.size, 0, none⟩ = some (.int .i64 p2) := by simp [go_sem]
  have n_g60_1 : (w6.alloc (.cells #[.int .i64 p2, .int .i64 q2] 34)).cell? ⟨w6.heap.size, 1, none⟩ = some (.int .i64 q2) := by simp [go_sem]
  generalize (w6.alloc (.cells #[.int .i64 p2, .int .i64 q2] 34)) = w7 at *
  obtain ⟨g60, hgz⟩ : ∃ x, x = w6.heap.size := ⟨_, rfl⟩
  rw [← hgz] at n_g60_0 n_g60_1 ⊢
  clear hgz
  have HB_w7 := Lib.hid (HB_w6.out.trans ((hN).mono hz_w6))
  have hz_w7 : bb ≤ w7.heap.size := Nat.le_trans hz_w6 (hN).size
  have FN := fun (W : World) (hW : Free.Bel w7 W) => And.intro (keepsB hW n_g60_0) (And.intro (keepsB hW n_g60_1) (FA W (bt (hN) hW)))
  clear FA HB_w6 hz_w6 KR
  have FA := FN
  clear FN
  have KR := Free.Bel.refl w7
  clear hN n_g60_0 n_g60_1
  refine (awardA_v a b u _ _ HO3).mono ?_
  rintro e w8 ⟨rfl, hB⟩
  have HB_w8 := Lib.hid (HB_w7.out.trans ((hB).mono hz_w7))
  have hz_w8 : bb ≤ w8.heap.size := Nat.le_trans hz_w7 (hB).size
  have FN := fun (W : World) (hW : Free.Bel w8 W) => FA W (bt (hB) hW)
  clear FA HB_w7 hz_w7 KR
  have FA := FN
  clear FN
  have KR := Free.Bel.refl w8
  clear hB
  go_wp2_with fail
  refine (awardRa_v a b u _ _ HO3).mono ?_
  rintro e _ ⟨rfl, rfl⟩
  go_wp2_with fail
  refine (sameT_any [] (.slice (some ⟨bb + 1 + 1, 0, none⟩) 0 0) (.slice none 0 0) _ (FA w8 (Free.Bel.refl _)).2.2.2.2.2.2.2.2.2.1 (FA w8 (Free.Bel.refl _)).2.2.2.2.2.2.2.2.2.2.1).mono ?_
  rintro e w9 ⟨rfl, hB⟩
  have HB_w9 := Lib.hid (HB_w8.out.trans ((hB).mono hz_w8))
  have hz_w9 : bb ≤ w9.heap.size := Nat.le_trans hz_w8 (hB).size
  have FN := fun (W : World) (hW : Free.Bel w9 W) => FA W (bt (hB) hW)
  clear FA HB_w8 hz_w8 KR
  have FA := FN
  clear FN
  have KR := Free.Bel.refl w9
  clear hB
  go_wp2_with fail
  go_ret
  have hbb := HBB.out
  subst hbb
  exact ⟨rfl, HB_w9.out⟩
theorem pays_walk (N lo hi D o f a b u : Int) (ts : List (Int × Int)) (pp : Option Addr) (cap : Nat) (w : World) (hv : PL ts (.slice pp ts.length cap) w) (hnil : pp = none → ts = [] ∧ cap = 0) :
    Calls Try.prog 5 #[.agg #[.int .i64 N, .int .i64 lo, .int .i64 hi], .int .i64 D, .agg #[.int .i64 o, .int .i64 f], .slice pp ts.length cap, .int .i64 a, .int .i64 b, .int .i64 u] w fun e w' => e = .returned (.bool true) ∧ Below w.heap.size w w' := by
  cases pp with
  | none =>
    obtain ⟨rfl, rfl⟩ := hnil rfl
    exact pays_none N lo hi D o f a b u w
  | some ad => exact pays_some N lo hi D o f a b u ts ad cap w hv
end Go.Proofs.Ytfdbegohjlijoaa

/- For every input the law SamplePays returns true, and its arguments read behind the call as they read before. No condition. -/
namespace Go.Proofs.Ytfdbegohjlijoaa.pays
open Go.ChangeShapes Go.WideShapes Go.ChangeAt Go.RowKit
set_option linter.unusedVariables false
set_option linter.unusedSimpArgs false

theorem own : ownKnob Try.prog.godebug = none := by kernel_rfl
theorem laid : laidOutB Try.prog = true := by kernel_rfl

set_option maxRecDepth 100000 in
theorem contract (H : Type) (enc : TypeId × Value → H) (W : World) (base : Nat) (args : Array Value) (ds gs : List (DataW H)) (before : List MemPlace)
    (hval : ∀ (j : Nat) t v, Try.f5.params[j]? = some t → args[j]? = some v → Value.okWide Try.prog W .any base t v)
    (hW : DataW.Whole enc Try.prog Try.f5.params.toList Rows.samplePaysSpec.vars false W args.toList ds gs before) :
    Calls Try.prog 5 args W fun e W' => ∃ v, e = .returned v ∧ Rows.samplePaysSpec.post enc Try.prog Try.f5 false true false false W args v W' := by
  have hW' := hW
  obtain ⟨p, q, hA0, hV, rfl, hfz, hnd⟩ := hW
  have hA : DataW.TrodAll enc Try.prog W 0 (fun _ => true) true Try.f5.params.toList args.toList ds p := hA0
  have hAk := hA
  rw [Try.params5] at hA hval
  obtain ⟨v0, vs0, d0, ds0, p0, q0, hargs, rfl, rfl, h0, r0⟩ := trodAll_cons hA
  obtain ⟨v1, vs1, d1, ds1, p1, q1, rfl, rfl, rfl, h1, r1⟩ := trodAll_cons r0
  obtain ⟨v2, vs2, d2, ds2, p2, q2, rfl, rfl, rfl, h2, r2⟩ := trodAll_cons r1
  obtain ⟨v3, vs3, d3, ds3, p3, q3, rfl, rfl, rfl, h3, r3⟩ := trodAll_cons r2
  obtain ⟨v4, vs4, d4, ds4, p4, q4, rfl, rfl, rfl, h4, r4⟩ := trodAll_cons r3
  obtain ⟨v5, vs5, d5, ds5, p5, q5, rfl, rfl, rfl, h5, r5⟩ := trodAll_cons r4
  obtain ⟨v6, vs6, d6, ds6, p6, q6, rfl, rfl, rfl, h6, r6⟩ := trodAll_cons r5
  obtain ⟨rfl, rfl, rfl⟩ := trodAll_nil r6
  obtain rfl : args = #[v0, v1, v2, v3, v4, v5, v6] := by cases args; simp_all
  obtain ⟨rfl, rfl⟩ := trodVars_none hV
  have hlt : ∀ x ∈ p0 ++ (p1 ++ (p2 ++ (p3 ++ (p4 ++ (p5 ++ (p6 ++ [])))))), x.block < W.heap.size := fun x hx => by
    have := hW'.lt x (by simpa using hx)
    simpa using this
  obtain ⟨N, lo, hi, rfl⟩ := Law.shape12 Try.underlying25 (by kernel_rfl) Try.underlying3 rfl (by kernel_rfl) rfl (by kernel_rfl) Try.underlying23 Try.underlying3 Try.underlying3 rfl rfl (by kernel_rfl) (by kernel_rfl) (hval 0 25 _ rfl rfl) h0
  obtain ⟨D, rfl, _⟩ := open_int Try.underlying3 (hval 1 3 _ rfl rfl) h1
  obtain ⟨o, f, rfl⟩ := Law.shape2 Try.underlying27 (by kernel_rfl) (by kernel_rfl) Try.underlying3 Try.underlying3 (hval 2 27 _ rfl rfl) h2
  obtain ⟨ts, pp, cap, rfl, hpl, hnil⟩ := Law.terms_open2 Try.underlying63 Try.underlying113 (by kernel_rfl) rfl rfl (by kernel_rfl) (by kernel_rfl) Try.underlying3 Try.underlying3 (hval 3 63 _ rfl rfl) h3
  obtain ⟨a, rfl, _⟩ := open_int Try.underlying3 (hval 4 3 _ rfl rfl) h4
  obtain ⟨b, rfl, _⟩ := open_int Try.underlying3 (hval 5 3 _ rfl rfl) h5
  obtain ⟨u, rfl, _⟩ := open_int Try.underlying3 (hval 6 3 _ rfl rfl) h6
  refine (pays_walk N lo hi D o f a b u ts pp cap W hpl hnil).mono fun e W' ⟨he, hg⟩ => ?_
  subst he
  refine ⟨_, rfl, _, _, _, [], p0 ++ (p1 ++ (p2 ++ (p3 ++ (p4 ++ (p5 ++ (p6 ++ [])))))), [], hW', ?_, ?_, ?_, hg.frame _, fun h => by cases h⟩
  · exact trodAll_cons_mk (shut_bool Try.underlying4 true) trodAll_mk0
  · exact Law.args_below laid (by kernel_rfl) hg hAk hlt
  · rfl

set_option maxRecDepth 100000 in
theorem lifted (os : Os) (started : os.Started) (H : Type) (enc : TypeId × Value → H) :
    ReturnsInHanded {} Try.checked os 5 .any (Rows.samplePaysSpec.pre6 enc Try.prog Try.f5 Rows.samplePaysRow.domain false) (Rows.samplePaysSpec.post enc Try.prog Try.f5 false true false false) := by
  refine returnsInHanded_of_change (C := Try.checked) own started (by kernel_rfl) Try.func5
    (ChangeSpec.witness6 (enc := enc) (C := Try.checked) false ⟨#[], #[.agg #[.int .i64 0, .int .i64 0, .int .i64 0], .int .i64 0, .agg #[.int .i64 0, .int .i64 0], .slice none 0 0, .int .i64 0, .int .i64 0, .int .i64 0], []⟩ 8 (by kernel_rfl) (by kernel_rfl) (by kernel_rfl) (by kernel_rfl)) ?_
  intro W base args ds gs before hval hW _ _
  exact contract H enc W base args ds gs before hval hW

theorem proved : Rows.SamplePaysSaid :=
  OpenClaim.holds_of_wide 5 Try.f5 rfl rfl rfl rfl rfl rfl rfl ⟨rfl, rfl, rfl, rfl, rfl⟩ rfl rfl rfl rfl rfl (by kernel_rfl) Try.func5 (by kernel_rfl)
    (of_decide_eq_true (by kernel_rfl)) (by unfold Func.isWrapper; first | (rw [if_pos (by decide +kernel)]; kernel_rfl) | (rw [if_neg (by decide +kernel)]; exact ⟨rfl, rfl⟩))
    (fun os started H enc _ => lifted os started H enc)
#print axioms proved
end Go.Proofs.Ytfdbegohjlijoaa.pays

