/- For every input the law SampleFair returns true, and its arguments read behind the call as they read before; what a double rule is asked lies in the table as the program's text lays it (tied). Condition: that table. -/
/- A number of the span, told ahead. -/
import Derived.Test.YtdiclofeggkjcaaDoorB7
import Derived.Deep.SlicePairs
namespace Go.Proofs.YtdiclofeggkjcaaDoor
set_option linter.unusedSimpArgs false
set_option linter.unusedVariables false
open Go.RowKit

set_option maxRecDepth 100000 in
set_option maxHeartbeats 2000000 in
theorem some_v (N lo hi x D : Int) (w : World) (hlo : 0 ≤ lo ∧ lo ≤ hi ∧ hi ≤ 36) (hx : 0 ≤ x ∧ x ≤ 255) (hD : Hid (lo + x % (hi - lo + 1) = D)) :
    Calls Tryd.prog 26 #[.agg #[.int .i64 N, .int .i64 lo, .int .i64 hi], .int .u8 x] w fun e w' => e = .returned (.int .i64 D) ∧ Below w.heap.size w w' := by
  have hm0 : 0 ≤ x % (hi - lo + 1) := Int.emod_nonneg _ (by omega)
  have hm1 : x % (hi - lo + 1) < hi - lo + 1 := Int.emod_lt_of_pos _ (by omega)
  have hc : IntKind.i64.wrap x = x := IntWalk.i64_in _ (by omega)
  have hs : IntKind.i64.wrap (hi - lo) = hi - lo := IntWalk.i64_in _ (by omega)
  have hs2 : IntKind.i64.wrap (hi - lo + 1) = hi - lo + 1 := IntWalk.i64_in _ (by omega)
  have hne : (hi - lo + 1 != 0) = true := by simp; omega
  have ht : x.tmod (hi - lo + 1) = x % (hi - lo + 1) := Int.tmod_eq_emod_of_nonneg hx.1
  have hs3 : IntKind.i64.wrap (x % (hi - lo + 1)) = x % (hi - lo + 1) := IntWalk.i64_in _ (by omega)
  have hs4 : IntKind.i64.wrap (lo + x % (hi - lo + 1)) = lo + x % (hi - lo + 1) := IntWalk.i64_in _ (by omega)
  have hB0 : Below w.heap.size w (w.alloc (.cells #[.int .i64 N, .int .i64 lo, .int .i64 hi] 26)) := (Below.refl _ w).alloc (Nat.le_refl _) _
  have c0_0 : (w.alloc (.cells #[.int .i64 N, .int .i64 lo, .int .i64 hi] 26)).cell? ⟨w.heap.size, 0, none⟩ = some (.int .i64 N) := by simp [go_sem]
  have c0_1 : (w.alloc (.cells #[.int .i64 N, .int .i64 lo, .int .i64 hi] 26)).cell? ⟨w.heap.size, 1, none⟩ = some (.int .i64 lo) := by simp [go_sem]
  have c0_2 : (w.alloc (.cells #[.int .i64 N, .int .i64 lo, .int .i64 hi] 26)).cell? ⟨w.heap.size, 2, none⟩ = some (.int .i64 hi) := by simp [go_sem]
  go_enter Tryd.func26, Tryd.ntmps26
  go_wp2_with fail
  generalize (w.alloc (.cells #[.int .i64 N, .int .i64 lo, .int .i64 hi] 26)) = W0 at *
  go_quiet (fail)
  go_wp2_with fail
  go_ret
  exact ⟨by rw [← hD.out]; rfl, belDrewN hB0 _⟩
theorem some_bounds (lo hi x : Int) (hlo : lo ≤ hi) : ∃ D, Hid (lo + x % (hi - lo + 1) = D) ∧ lo ≤ D ∧ D ≤ hi := by
  have hm0 : 0 ≤ x % (hi - lo + 1) := Int.emod_nonneg _ (by omega)
  have hm1 : x % (hi - lo + 1) < hi - lo + 1 := Int.emod_lt_of_pos _ (by omega)
  exact ⟨_, rfl, by omega, by omega⟩
end Go.Proofs.YtdiclofeggkjcaaDoor

/- Short names for long ones. -/
namespace Go.Proofs.YtdiclofeggkjcaaDoor
theorem bt {a b c : World} (h : Free.Bel a b) (k : Free.Bel b c) : Free.Bel a c := Free.Bel.trans _ _ _ h k
theorem al1.{u} {α : Type u} {l : List α} {a : α} {i : Nat} : (a :: l)[i + 1]? = l[i]? := rfl
theorem al2.{u} {α : Type u} {l : List α} {a : α} : (a :: l)[0]? = some a := rfl
theorem al3.{u} {α : Type u} {xs : Array α} {i : Nat} {d : α} : xs.getD i d = xs[i]?.getD d := by simp
theorem al4.{u} {α : Type u} {l : List α} {i : Nat} : l.toArray[i]? = l[i]? := by simp
theorem al5.{u} {α : Type u} {a b : α} : (some a).getD b = a := rfl
theorem an1.{u} {α : Type u} (l : List α) : [] ++ l = l := rfl
theorem an2.{u} {α : Type u} {a : α} {l m : List α} : (a :: l) ++ m = a :: (l ++ m) := rfl
end Go.Proofs.YtdiclofeggkjcaaDoor

/- The reference's Terms. -/
namespace Go.Proofs.YtdiclofeggkjcaaDoor
set_option linter.unusedSimpArgs false
set_option linter.unusedVariables false
open Go.RowKit Go.Proofs.YtdiclofeggkjcaaDoor.ML Go.Proofs.YtdiclofeggkjcaaDoor.Samp

set_option maxRecDepth 100000 in
set_option maxHeartbeats 8000000 in
theorem terms_v (xs : List (Int × Int)) (v : Value) (w : World) (hv : PL xs v w) (r : Bool) (hr : Hid (decide (agreedE xs = 0) = r)) :
    Calls Tryd.prog 35 #[v] w fun e w' => e = .returned (.bool r) ∧ Below w.heap.size w w' := by
  obtain ⟨pp, cap, rfl, hm, hcells⟩ := hv
  unfold maxLen at hm
  have HC := Lib.hid hcells
  clear hcells
  by_cases hl : xs.length ≤ 5
  · have k0 : decide (5 < (xs.length : Int)) = false := decide_eq_false (by omega)
    have hr2 : Hid (agreedFrom 0 0 xs = r) := by
      show _ = _
      rw [← hr.out, agreedE]
      cases h : agreedFrom 0 0 xs
      · simp
      · have h5 : decide ((xs.length : Int) ≤ 5) = true := decide_eq_true (by omega)
        simp [unlessV, h5]
    clear hr
    go_enter Tryd.func35, Tryd.ntmps35
    go_wp2_with fail
    clear k0
    go_loopw [3] (fun i wr => ∃ (k : Nat) (f p : Int), k ≤ xs.length ∧ i = .int .i64 k ∧ 0 ≤ f ∧ 0 ≤ p ∧ Hid (agreedFrom f p (xs.drop k) = r) ∧ Hid (k = 0 → f = 0 ∧ p = 0) ∧ Hid (∀ j (h : j < xs.length), j + 1 = k → xs[j] = (f, p)) ∧ Free.Bel w wr) (fun i _ => xs.length - (intOf i).toNat)
    case atStart => exact ⟨0, 0, 0, Nat.zero_le _, rfl, by omega, by omega, hr2, fun _ => ⟨rfl, rfl⟩, fun j h e => by omega, Free.Bel.refl _⟩
    case round =>
      obtain ⟨k, f, p, hk, rfl, hf0, hp0, HAG, HZ, HPR, hB⟩ := hrel
      by_cases hlt : k < xs.length
      · obtain ⟨b, off, rfl, hcs⟩ := HC.out (by intro h; rw [h] at hlt; simp at hlt)
        obtain ⟨e0, e1⟩ := hcs k hlt
        have c0 := keepsB hB e0
        have c1 := keepsB hB e1
        have hdrop : xs.drop k = xs[k] :: xs.drop (k + 1) := List.drop_eq_getElem_cons hlt
        have hst : Hid ((inB (f + 1) 100 [xs[k].1] && (inB p 1000000 [xs[k].2] && agreedFrom xs[k].1 xs[k].2 (xs.drop (k + 1)))) = r) := by show _ = _; rw [← HAG.out, hdrop]; rfl
        have HX : Hid (xs[k] = (xs[k].1, xs[k].2)) := rfl
        have HCS := Lib.hid hcs
        clear e0 e1 hcs HAG hdrop
        have hklt : (k : Int) < xs.length := by omega
        have HLT := Lib.hid hlt
        generalize xs[k].1 = x at *
        generalize xs[k].2 = y at *
        have hK0 : ∀ W, Free.Bel wr.drew W → Free.Bel wr W := fun W hW => bt (Bel.drewT (Free.Bel.refl _)) hW
        cases h1 : inB 1 100 [x]
        · have hres : r = false := by
            rw [← hst.out]
            have : inB (f + 1) 100 [x] = false := by
              simp [inB] at h1 ⊢; omega
            rw [this]; rfl
          subst hres
          have H1 := Lib.hid h1
          clear h1
          have hF : ∀ W, Free.Bel wr.drew W → W.cell? ⟨b, off + k * 2, none⟩ = some (.int .i64 x) ∧ W.cell? ⟨b, off + k * 2 + 1, none⟩ = some (.int .i64 y) := fun W hW => ⟨keepsB (hK0 W hW) c0, keepsB (hK0 W hW) c1⟩
          go_wp2_with fail
          refine Free.wp_free (R := Free.Bel) (by kernel_rfl) (by kernel_rfl) Free.Bel.refl Free.Bel.trans ?_
          refine Free.Chain.ex ?_ [] [0] (by kernel_rfl) (by kernel_rfl) rfl Free.Bel.refl ?_ ?_
          rotate_left 2
          simp only [an1, an2]
          refine Free.Chain.ex ?_ [] [3] (by kernel_rfl) (by kernel_rfl) rfl Free.Bel.refl ?_ ?_
          rotate_left 2
          simp only [an1, an2]
          refine Free.Chain.ex ?_ [(0, 13), (1, 14)] [] (by kernel_rfl) (by kernel_rfl) rfl Free.Bel.refl ?_ ?_
          rotate_left 2
          simp only [an1, an2]
          refine Free.Chain.ex ?_ [(2, 15)] [] (by kernel_rfl) (by kernel_rfl) rfl Free.Bel.refl ?_ ?_
          rotate_left 2
          simp only [an1, an2]
          refine Free.Chain.ex ?_ [(3, 16)] [] (by kernel_rfl) (by kernel_rfl) rfl Free.Bel.refl ?_ ?_
          rotate_left 2
          simp only [an1, an2]
          rotate_left
          iterate 5 (rotate_left; intro ev W hb hR hO hD; have hS := hF W hR; obtain ⟨hb1, hb2, hb3⟩ := hb; simp only [Free.AllDeps, Free.AllOuts, Free.At, al1, al2, al3, al4, al5, and_true] at hO hD; go_simp; rfl)
          refine Free.Chain.pr (fun v _ => v = .bool false) [(4, 17)] [] (by kernel_rfl) (by kernel_rfl) rfl (fun _ _ _ _ h => h) ?_ ?_
          · (intro ev W hb hR hO hD; have hS := hF W hR; obtain ⟨hb1, hb2, hb3⟩ := hb; simp only [Free.AllDeps, Free.AllOuts, Free.At, al1, al2, al3, al4, al5, and_true] at hO hD; go_simp; refine yields_enter ?_; (with_reducible refine (within_any x 1 100 false _ H1.out).mono ?_); rintro e W2 ⟨rfl, rfl⟩; exact ⟨_, rfl, Free.Bel.refl _, rfl⟩)
          simp only [an1, an2]
          refine Free.Chain.ex ?_ [(5, 18)] [] (by kernel_rfl) (by kernel_rfl) rfl Free.Bel.refl ?_ ?_
          rotate_left 2
          simp only [an1, an2]
          refine Free.Chain.ex ?_ [(6, 19), (5, 18)] [] (by kernel_rfl) (by kernel_rfl) rfl Free.Bel.refl ?_ ?_
          rotate_left 2
          simp only [an1, an2]
          rotate_left
          iterate 2 (rotate_left; intro ev W hb hR hO hD; have hS := hF W hR; obtain ⟨hb1, hb2, hb3⟩ := hb; simp only [Free.AllDeps, Free.AllOuts, Free.At, al1, al2, al3, al4, al5, and_true] at hO hD; go_simp; rfl)
          refine Free.Chain.no [(7, 20)] [0] 7 false 20 (by kernel_rfl) (by kernel_rfl) rfl (by kernel_rfl) ?_ ?_
          · (intro ev W hR hD; simp only [Free.AllDeps, Free.At, List.getElem?_cons_succ, List.getElem?_cons_zero, and_true] at hD; simp [hD])
          simp only [an1, an2]
          refine Free.Chain.no [(7, 20)] [3] 7 false 20 (by kernel_rfl) (by kernel_rfl) rfl (by kernel_rfl) ?_ ?_
          · (intro ev W hR hD; simp only [Free.AllDeps, Free.At, List.getElem?_cons_succ, List.getElem?_cons_zero, and_true] at hD; simp [hD])
          simp only [an1, an2]
          refine Free.Chain.no [(8, 21), (9, 22), (7, 20)] [] 7 false 20 (by kernel_rfl) (by kernel_rfl) rfl (by kernel_rfl) ?_ ?_
          · (intro ev W hR hD; simp only [Free.AllDeps, Free.At, List.getElem?_cons_succ, List.getElem?_cons_zero, and_true] at hD; simp [hD])
          simp only [an1, an2]
          refine Free.Chain.no [(10, 23), (7, 20)] [] 7 false 20 (by kernel_rfl) (by kernel_rfl) rfl (by kernel_rfl) ?_ ?_
          · (intro ev W hR hD; simp only [Free.AllDeps, Free.At, List.getElem?_cons_succ, List.getElem?_cons_zero, and_true] at hD; simp [hD])
          simp only [an1, an2]
          refine Free.Chain.no [(11, 24), (7, 20)] [] 7 false 20 (by kernel_rfl) (by kernel_rfl) rfl (by kernel_rfl) ?_ ?_
          · (intro ev W hR hD; simp only [Free.AllDeps, Free.At, List.getElem?_cons_succ, List.getElem?_cons_zero, and_true] at hD; simp [hD])
          simp only [an1, an2]
          refine Free.Chain.no [(12, 25), (7, 20), (7, 20)] [] 7 false 20 (by kernel_rfl) (by kernel_rfl) rfl (by kernel_rfl) ?_ ?_
          · (intro ev W hR hD; simp only [Free.AllDeps, Free.At, List.getElem?_cons_succ, List.getElem?_cons_zero, and_true] at hD; simp [hD])
          simp only [an1, an2]
          refine Free.Chain.no [(13, 26), (7, 20)] [] 7 false 20 (by kernel_rfl) (by kernel_rfl) rfl (by kernel_rfl) ?_ ?_
          · (intro ev W hR hD; simp only [Free.AllDeps, Free.At, List.getElem?_cons_succ, List.getElem?_cons_zero, and_true] at hD; simp [hD])
          simp only [an1, an2]
          refine Free.Chain.ex ?_ [(7, 20), (14, 27)] [] (by kernel_rfl) (by kernel_rfl) rfl Free.Bel.refl ?_ ?_
          rotate_left 2
          simp only [an1, an2]
          refine Free.Chain.ex ?_ [(15, 28), (13, 26)] [] (by kernel_rfl) (by kernel_rfl) rfl Free.Bel.refl ?_ ?_
          rotate_left 2
          simp only [an1, an2]
          rotate_left
          iterate 2 (rotate_left; intro ev W hb hR hO hD; have hS := hF W hR; obtain ⟨hb1, hb2, hb3⟩ := hb; simp only [Free.AllDeps, Free.AllOuts, Free.At, al1, al2, al3, al4, al5, and_true] at hO hD; go_simp; rfl)
          refine Free.Chain.no [(16, 29)] [3] 16 false 29 (by kernel_rfl) (by kernel_rfl) rfl (by kernel_rfl) ?_ ?_
          · (intro ev W hR hD; simp only [Free.AllDeps, Free.At, List.getElem?_cons_succ, List.getElem?_cons_zero, and_true] at hD; simp [hD])
          simp only [an1, an2]
          refine Free.Chain.no [(17, 30), (16, 29)] [] 16 false 29 (by kernel_rfl) (by kernel_rfl) rfl (by kernel_rfl) ?_ ?_
          · (intro ev W hR hD; simp only [Free.AllDeps, Free.At, List.getElem?_cons_succ, List.getElem?_cons_zero, and_true] at hD; simp [hD])
          simp only [an1, an2]
          refine Free.Chain.no [(18, 31), (16, 29), (16, 29)] [] 16 false 29 (by kernel_rfl) (by kernel_rfl) rfl (by kernel_rfl) ?_ ?_
          · (intro ev W hR hD; simp only [Free.AllDeps, Free.At, List.getElem?_cons_succ, List.getElem?_cons_zero, and_true] at hD; simp [hD])
          simp only [an1, an2]
          refine Free.Chain.no [(19, 32)] [0] 19 true 32 (by kernel_rfl) (by kernel_rfl) rfl (by kernel_rfl) ?_ ?_
          · (intro ev W hR hD; simp only [Free.AllDeps, Free.At, List.getElem?_cons_succ, List.getElem?_cons_zero, and_true] at hD; simp [hD])
          simp only [an1, an2]
          refine Free.Chain.no [(19, 32)] [3] 19 true 32 (by kernel_rfl) (by kernel_rfl) rfl (by kernel_rfl) ?_ ?_
          · (intro ev W hR hD; simp only [Free.AllDeps, Free.At, List.getElem?_cons_succ, List.getElem?_cons_zero, and_true] at hD; simp [hD])
          simp only [an1, an2]
          refine Free.Chain.no [(21, 34), (19, 32)] [] 19 true 32 (by kernel_rfl) (by kernel_rfl) rfl (by kernel_rfl) ?_ ?_
          · (intro ev W hR hD; simp only [Free.AllDeps, Free.At, List.getElem?_cons_succ, List.getElem?_cons_zero, and_true] at hD; simp [hD])
          simp only [an1, an2]
          refine Free.Chain.no [(20, 33), (22, 35), (19, 32)] [] 19 true 32 (by kernel_rfl) (by kernel_rfl) rfl (by kernel_rfl) ?_ ?_
          · (intro ev W hR hD; simp only [Free.AllDeps, Free.At, List.getElem?_cons_succ, List.getElem?_cons_zero, and_true] at hD; simp [hD])
          simp only [an1, an2]
          refine Free.Chain.no [(23, 36), (19, 32)] [] 19 true 32 (by kernel_rfl) (by kernel_rfl) rfl (by kernel_rfl) ?_ ?_
          · (intro ev W hR hD; simp only [Free.AllDeps, Free.At, List.getElem?_cons_succ, List.getElem?_cons_zero, and_true] at hD; simp [hD])
          simp only [an1, an2]
          refine Free.Chain.no [(24, 37), (19, 32)] [] 19 true 32 (by kernel_rfl) (by kernel_rfl) rfl (by kernel_rfl) ?_ ?_
          · (intro ev W hR hD; simp only [Free.AllDeps, Free.At, List.getElem?_cons_succ, List.getElem?_cons_zero, and_true] at hD; simp [hD])
          simp only [an1, an2]
          refine Free.Chain.no [(19, 32)] [0] 19 true 32 (by kernel_rfl) (by kernel_rfl) rfl (by kernel_rfl) ?_ ?_
          · (intro ev W hR hD; simp only [Free.AllDeps, Free.At, List.getElem?_cons_succ, List.getElem?_cons_zero, and_true] at hD; simp [hD])
          simp only [an1, an2]
          refine Free.Chain.no [(19, 32)] [3] 19 true 32 (by kernel_rfl) (by kernel_rfl) rfl (by kernel_rfl) ?_ ?_
          · (intro ev W hR hD; simp only [Free.AllDeps, Free.At, List.getElem?_cons_succ, List.getElem?_cons_zero, and_true] at hD; simp [hD])
          simp only [an1, an2]
          refine Free.Chain.no [(26, 39), (27, 40), (19, 32)] [] 19 true 32 (by kernel_rfl) (by kernel_rfl) rfl (by kernel_rfl) ?_ ?_
          · (intro ev W hR hD; simp only [Free.AllDeps, Free.At, List.getElem?_cons_succ, List.getElem?_cons_zero, and_true] at hD; simp [hD])
          simp only [an1, an2]
          refine Free.Chain.no [(28, 41), (19, 32)] [] 19 true 32 (by kernel_rfl) (by kernel_rfl) rfl (by kernel_rfl) ?_ ?_
          · (intro ev W hR hD; simp only [Free.AllDeps, Free.At, List.getElem?_cons_succ, List.getElem?_cons_zero, and_true] at hD; simp [hD])
          simp only [an1, an2]
          refine Free.Chain.no [(29, 42), (19, 32)] [] 19 true 32 (by kernel_rfl) (by kernel_rfl) rfl (by kernel_rfl) ?_ ?_
          · (intro ev W hR hD; simp only [Free.AllDeps, Free.At, List.getElem?_cons_succ, List.getElem?_cons_zero, and_true] at hD; simp [hD])
          simp only [an1, an2]
          refine Free.Chain.no [(25, 38), (30, 43), (19, 32)] [] 19 true 32 (by kernel_rfl) (by kernel_rfl) rfl (by kernel_rfl) ?_ ?_
          · (intro ev W hR hD; simp only [Free.AllDeps, Free.At, List.getElem?_cons_succ, List.getElem?_cons_zero, and_true] at hD; simp [hD])
          simp only [an1, an2]
          refine Free.Chain.no [(31, 44), (19, 32), (19, 32)] [] 19 true 32 (by kernel_rfl) (by kernel_rfl) rfl (by kernel_rfl) ?_ ?_
          · (intro ev W hR hD; simp only [Free.AllDeps, Free.At, List.getElem?_cons_succ, List.getElem?_cons_zero, and_true] at hD; simp [hD])
          simp only [an1, an2]
          refine Free.Chain.no [(32, 45)] [0] 32 false 45 (by kernel_rfl) (by kernel_rfl) rfl (by kernel_rfl) ?_ ?_
          · (intro ev W hR hD; simp only [Free.AllDeps, Free.At, List.getElem?_cons_succ, List.getElem?_cons_zero, and_true] at hD; simp [hD])
          simp only [an1, an2]
          refine Free.Chain.no [(32, 45)] [3] 32 false 45 (by kernel_rfl) (by kernel_rfl) rfl (by kernel_rfl) ?_ ?_
          · (intro ev W hR hD; simp only [Free.AllDeps, Free.At, List.getElem?_cons_succ, List.getElem?_cons_zero, and_true] at hD; simp [hD])
          simp only [an1, an2]
          refine Free.Chain.no [(34, 47), (32, 45)] [] 32 false 45 (by kernel_rfl) (by kernel_rfl) rfl (by kernel_rfl) ?_ ?_
          · (intro ev W hR hD; simp only [Free.AllDeps, Free.At, List.getElem?_cons_succ, List.getElem?_cons_zero, and_true] at hD; simp [hD])
          simp only [an1, an2]
          refine Free.Chain.no [(33, 46), (35, 48), (32, 45)] [] 32 false 45 (by kernel_rfl) (by kernel_rfl) rfl (by kernel_rfl) ?_ ?_
          · (intro ev W hR hD; simp only [Free.AllDeps, Free.At, List.getElem?_cons_succ, List.getElem?_cons_zero, and_true] at hD; simp [hD])
          simp only [an1, an2]
          refine Free.Chain.no [(36, 49), (32, 45)] [] 32 false 45 (by kernel_rfl) (by kernel_rfl) rfl (by kernel_rfl) ?_ ?_
          · (intro ev W hR hD; simp only [Free.AllDeps, Free.At, List.getElem?_cons_succ, List.getElem?_cons_zero, and_true] at hD; simp [hD])
          simp only [an1, an2]
          refine Free.Chain.no [(37, 50), (32, 45)] [] 32 false 45 (by kernel_rfl) (by kernel_rfl) rfl (by kernel_rfl) ?_ ?_
          · (intro ev W hR hD; simp only [Free.AllDeps, Free.At, List.getElem?_cons_succ, List.getElem?_cons_zero, and_true] at hD; simp [hD])
          simp only [an1, an2]
          refine Free.Chain.no [(32, 45)] [0] 32 false 45 (by kernel_rfl) (by kernel_rfl) rfl (by kernel_rfl) ?_ ?_
          · (intro ev W hR hD; simp only [Free.AllDeps, Free.At, List.getElem?_cons_succ, List.getElem?_cons_zero, and_true] at hD; simp [hD])
          simp only [an1, an2]
          refine Free.Chain.no [(32, 45)] [3] 32 false 45 (by kernel_rfl) (by kernel_rfl) rfl (by kernel_rfl) ?_ ?_
          · (intro ev W hR hD; simp only [Free.AllDeps, Free.At, List.getElem?_cons_succ, List.getElem?_cons_zero, and_true] at hD; simp [hD])
          simp only [an1, an2]
          refine Free.Chain.no [(39, 52), (40, 53), (32, 45)] [] 32 false 45 (by kernel_rfl) (by kernel_rfl) rfl (by kernel_rfl) ?_ ?_
          · (intro ev W hR hD; simp only [Free.AllDeps, Free.At, List.getElem?_cons_succ, List.getElem?_cons_zero, and_true] at hD; simp [hD])
          simp only [an1, an2]
          refine Free.Chain.no [(41, 54), (32, 45)] [] 32 false 45 (by kernel_rfl) (by kernel_rfl) rfl (by kernel_rfl) ?_ ?_
          · (intro ev W hR hD; simp only [Free.AllDeps, Free.At, List.getElem?_cons_succ, List.getElem?_cons_zero, and_true] at hD; simp [hD])
          simp only [an1, an2]
          refine Free.Chain.no [(42, 55), (32, 45)] [] 32 false 45 (by kernel_rfl) (by kernel_rfl) rfl (by kernel_rfl) ?_ ?_
          · (intro ev W hR hD; simp only [Free.AllDeps, Free.At, List.getElem?_cons_succ, List.getElem?_cons_zero, and_true] at hD; simp [hD])
          simp only [an1, an2]
          refine Free.Chain.no [(38, 51), (43, 56), (32, 45)] [] 32 false 45 (by kernel_rfl) (by kernel_rfl) rfl (by kernel_rfl) ?_ ?_
          · (intro ev W hR hD; simp only [Free.AllDeps, Free.At, List.getElem?_cons_succ, List.getElem?_cons_zero, and_true] at hD; simp [hD])
          simp only [an1, an2]
          refine Free.Chain.no [(32, 45), (44, 57), (19, 32)] [] 19 true 32 (by kernel_rfl) (by kernel_rfl) rfl (by kernel_rfl) ?_ ?_
          · (intro ev W hR hD; simp only [Free.AllDeps, Free.At, List.getElem?_cons_succ, List.getElem?_cons_zero, and_true] at hD; simp [hD])
          simp only [an1, an2]
          refine Free.Chain.no [(19, 32), (45, 58), (16, 29)] [] 16 false 29 (by kernel_rfl) (by kernel_rfl) rfl (by kernel_rfl) ?_ ?_
          · (intro ev W hR hD; simp only [Free.AllDeps, Free.At, List.getElem?_cons_succ, List.getElem?_cons_zero, and_true] at hD; simp [hD])
          simp only [an1, an2]
          refine Free.Chain.ex ?_ [(16, 29), (46, 59)] [] (by kernel_rfl) (by kernel_rfl) rfl Free.Bel.refl ?_ ?_
          rotate_left 2
          simp only [an1, an2]
          rotate_left
          rotate_left
          · (intro ev W hb hR hO hD; have hS := hF W hR; obtain ⟨hb1, hb2, hb3⟩ := hb; simp only [Free.AllDeps, Free.AllOuts, Free.At, al1, al2, al3, al4, al5, and_true] at hO hD; go_simp; rfl)
          intro xs w2 hR hV
          simp only [Free.AllV, Free.At, List.length_cons, List.length_nil, Nat.reduceAdd, List.getElem?_cons_succ, List.getElem?_cons_zero, true_and] at hV
          simp only [Free.putsFrom, Act.put, Nat.zero_add, Nat.reduceAdd, hV, List.setIfInBounds_toArray, List.set_cons_succ, List.set_cons_zero]
          have hB2 := bt hB (hK0 _ hR)
          clear hR hV hF hK0
          go_wp2_with fail
          go_ret
          exact ⟨rfl, hB2⟩
        · have hx1 : 1 ≤ x ∧ x ≤ 100 := by simpa [inB] using h1
          have H1 := Lib.hid h1
          clear h1
          cases h2 : inB 0 1000000 [y]
          · have hres : r = false := by
              rw [← hst.out]
              have : inB p 1000000 [y] = false := by
                simp [inB] at h2 ⊢; omega
              rw [this]; simp
            subst hres
            have H2 := Lib.hid h2
            clear h2
            have hF : ∀ W, Free.Bel wr.drew W → W.cell? ⟨b, off + k * 2, none⟩ = some (.int .i64 x) ∧ W.cell? ⟨b, off + k * 2 + 1, none⟩ = some (.int .i64 y) := fun W hW => ⟨keepsB (hK0 W hW) c0, keepsB (hK0 W hW) c1⟩
            go_wp2_with fail
            refine Free.wp_free (R := Free.Bel) (by kernel_rfl) (by kernel_rfl) Free.Bel.refl Free.Bel.trans ?_
            refine Free.Chain.ex ?_ [] [0] (by kernel_rfl) (by kernel_rfl) rfl Free.Bel.refl ?_ ?_
            rotate_left 2
            simp only [an1, an2]
            refine Free.Chain.ex ?_ [] [3] (by kernel_rfl) (by kernel_rfl) rfl Free.Bel.refl ?_ ?_
            rotate_left 2
            simp only [an1, an2]
            refine Free.Chain.ex ?_ [(0, 13), (1, 14)] [] (by kernel_rfl) (by kernel_rfl) rfl Free.Bel.refl ?_ ?_
            rotate_left 2
            simp only [an1, an2]
            refine Free.Chain.ex ?_ [(2, 15)] [] (by kernel_rfl) (by kernel_rfl) rfl Free.Bel.refl ?_ ?_
            rotate_left 2
            simp only [an1, an2]
            refine Free.Chain.ex ?_ [(3, 16)] [] (by kernel_rfl) (by kernel_rfl) rfl Free.Bel.refl ?_ ?_
            rotate_left 2
            simp only [an1, an2]
            rotate_left
            iterate 5 (rotate_left; intro ev W hb hR hO hD; have hS := hF W hR; obtain ⟨hb1, hb2, hb3⟩ := hb; simp only [Free.AllDeps, Free.AllOuts, Free.At, al1, al2, al3, al4, al5, and_true] at hO hD; go_simp; rfl)
            refine Free.Chain.pr (fun v _ => v = .bool true) [(4, 17)] [] (by kernel_rfl) (by kernel_rfl) rfl (fun _ _ _ _ h => h) ?_ ?_
            · (intro ev W hb hR hO hD; have hS := hF W hR; obtain ⟨hb1, hb2, hb3⟩ := hb; simp only [Free.AllDeps, Free.AllOuts, Free.At, al1, al2, al3, al4, al5, and_true] at hO hD; go_simp; refine yields_enter ?_; (with_reducible refine (within_any x 1 100 true _ H1.out).mono ?_); rintro e W2 ⟨rfl, rfl⟩; exact ⟨_, rfl, Free.Bel.refl _, rfl⟩)
            simp only [an1, an2]
            refine Free.Chain.ex ?_ [(5, 18)] [] (by kernel_rfl) (by kernel_rfl) rfl Free.Bel.refl ?_ ?_
            rotate_left 2
            simp only [an1, an2]
            refine Free.Chain.ex ?_ [(6, 19), (5, 18)] [] (by kernel_rfl) (by kernel_rfl) rfl Free.Bel.refl ?_ ?_
            rotate_left 2
            simp only [an1, an2]
            rotate_left
            iterate 2 (rotate_left; intro ev W hb hR hO hD; have hS := hF W hR; obtain ⟨hb1, hb2, hb3⟩ := hb; simp only [Free.AllDeps, Free.AllOuts, Free.At, al1, al2, al3, al4, al5, and_true] at hO hD; go_simp; rfl)
            refine Free.Chain.exG ?_ [(7, 20)] [0] 7 false 20 (by kernel_rfl) (by kernel_rfl) rfl (by kernel_rfl) Free.Bel.refl ?_ ?_
            rotate_left 2
            simp only [an1, an2]
            refine Free.Chain.exG ?_ [(7, 20)] [3] 7 false 20 (by kernel_rfl) (by kernel_rfl) rfl (by kernel_rfl) Free.Bel.refl ?_ ?_
            rotate_left 2
            simp only [an1, an2]
            refine Free.Chain.exG ?_ [(8, 21), (9, 22), (7, 20)] [] 7 false 20 (by kernel_rfl) (by kernel_rfl) rfl (by kernel_rfl) Free.Bel.refl ?_ ?_
            rotate_left 2
            simp only [an1, an2]
            refine Free.Chain.exG ?_ [(10, 23), (7, 20)] [] 7 false 20 (by kernel_rfl) (by kernel_rfl) rfl (by kernel_rfl) Free.Bel.refl ?_ ?_
            rotate_left 2
            simp only [an1, an2]
            refine Free.Chain.exG ?_ [(11, 24), (7, 20)] [] 7 false 20 (by kernel_rfl) (by kernel_rfl) rfl (by kernel_rfl) Free.Bel.refl ?_ ?_
            rotate_left 2
            simp only [an1, an2]
            rotate_left
            iterate 5 (rotate_left; intro ev W hb hR hO hD; have hS := hF W hR; obtain ⟨hb1, hb2, hb3⟩ := hb; simp only [Free.AllDeps, Free.AllOuts, Free.At, al1, al2, al3, al4, al5, and_true] at hO hD; refine ⟨by simp [hD], ?_⟩; go_simp; rfl)
            refine Free.Chain.prG (fun v _ => v = .bool false) [(12, 25), (7, 20), (7, 20)] [] 7 false 20 (by kernel_rfl) (by kernel_rfl) rfl (by kernel_rfl) (fun _ _ _ _ h => h) ?_ ?_
            · (intro ev W hb hR hO hD; have hS := hF W hR; obtain ⟨hb1, hb2, hb3⟩ := hb; simp only [Free.AllDeps, Free.AllOuts, Free.At, al1, al2, al3, al4, al5, and_true] at hO hD; refine ⟨by simp [hD], ?_⟩; go_simp; refine yields_enter ?_; (with_reducible refine (within_any y 0 1000000 false _ H2.out).mono ?_); rintro e W2 ⟨rfl, rfl⟩; exact ⟨_, rfl, Free.Bel.refl _, rfl⟩)
            simp only [an1, an2]
            refine Free.Chain.exG ?_ [(13, 26), (7, 20)] [] 7 false 20 (by kernel_rfl) (by kernel_rfl) rfl (by kernel_rfl) Free.Bel.refl ?_ ?_
            rotate_left 2
            simp only [an1, an2]
            rotate_left
            rotate_left
            · (intro ev W hb hR hO hD; have hS := hF W hR; obtain ⟨hb1, hb2, hb3⟩ := hb; simp only [Free.AllDeps, Free.AllOuts, Free.At, al1, al2, al3, al4, al5, and_true] at hO hD; refine ⟨by simp [hD], ?_⟩; go_simp; rfl)
            refine Free.Chain.ex ?_ [(7, 20), (14, 27)] [] (by kernel_rfl) (by kernel_rfl) rfl Free.Bel.refl ?_ ?_
            rotate_left 2
            simp only [an1, an2]
            refine Free.Chain.ex ?_ [(15, 28), (13, 26)] [] (by kernel_rfl) (by kernel_rfl) rfl Free.Bel.refl ?_ ?_
            rotate_left 2
            simp only [an1, an2]
            rotate_left
            iterate 2 (rotate_left; intro ev W hb hR hO hD; have hS := hF W hR; obtain ⟨hb1, hb2, hb3⟩ := hb; simp only [Free.AllDeps, Free.AllOuts, Free.At, al1, al2, al3, al4, al5, and_true] at hO hD; go_simp; rfl)
            refine Free.Chain.no [(16, 29)] [3] 16 false 29 (by kernel_rfl) (by kernel_rfl) rfl (by kernel_rfl) ?_ ?_
            · (intro ev W hR hD; simp only [Free.AllDeps, Free.At, List.getElem?_cons_succ, List.getElem?_cons_zero, and_true] at hD; simp [hD])
            simp only [an1, an2]
            refine Free.Chain.no [(17, 30), (16, 29)] [] 16 false 29 (by kernel_rfl) (by kernel_rfl) rfl (by kernel_rfl) ?_ ?_
            · (intro ev W hR hD; simp only [Free.AllDeps, Free.At, List.getElem?_cons_succ, List.getElem?_cons_zero, and_true] at hD; simp [hD])
            simp only [an1, an2]
            refine Free.Chain.no [(18, 31), (16, 29), (16, 29)] [] 16 false 29 (by kernel_rfl) (by kernel_rfl) rfl (by kernel_rfl) ?_ ?_
            · (intro ev W hR hD; simp only [Free.AllDeps, Free.At, List.getElem?_cons_succ, List.getElem?_cons_zero, and_true] at hD; simp [hD])
            simp only [an1, an2]
            refine Free.Chain.no [(19, 32)] [0] 19 true 32 (by kernel_rfl) (by kernel_rfl) rfl (by kernel_rfl) ?_ ?_
            · (intro ev W hR hD; simp only [Free.AllDeps, Free.At, List.getElem?_cons_succ, List.getElem?_cons_zero, and_true] at hD; simp [hD])
            simp only [an1, an2]
            refine Free.Chain.no [(19, 32)] [3] 19 true 32 (by kernel_rfl) (by kernel_rfl) rfl (by kernel_rfl) ?_ ?_
            · (intro ev W hR hD; simp only [Free.AllDeps, Free.At, List.getElem?_cons_succ, List.getElem?_cons_zero, and_true] at hD; simp [hD])
            simp only [an1, an2]
            refine Free.Chain.no [(21, 34), (19, 32)] [] 19 true 32 (by kernel_rfl) (by kernel_rfl) rfl (by kernel_rfl) ?_ ?_
            · (intro ev W hR hD; simp only [Free.AllDeps, Free.At, List.getElem?_cons_succ, List.getElem?_cons_zero, and_true] at hD; simp [hD])
            simp only [an1, an2]
            refine Free.Chain.no [(20, 33), (22, 35), (19, 32)] [] 19 true 32 (by kernel_rfl) (by kernel_rfl) rfl (by kernel_rfl) ?_ ?_
            · (intro ev W hR hD; simp only [Free.AllDeps, Free.At, List.getElem?_cons_succ, List.getElem?_cons_zero, and_true] at hD; simp [hD])
            simp only [an1, an2]
            refine Free.Chain.no [(23, 36), (19, 32)] [] 19 true 32 (by kernel_rfl) (by kernel_rfl) rfl (by kernel_rfl) ?_ ?_
            · (intro ev W hR hD; simp only [Free.AllDeps, Free.At, List.getElem?_cons_succ, List.getElem?_cons_zero, and_true] at hD; simp [hD])
            simp only [an1, an2]
            refine Free.Chain.no [(24, 37), (19, 32)] [] 19 true 32 (by kernel_rfl) (by kernel_rfl) rfl (by kernel_rfl) ?_ ?_
            · (intro ev W hR hD; simp only [Free.AllDeps, Free.At, List.getElem?_cons_succ, List.getElem?_cons_zero, and_true] at hD; simp [hD])
            simp only [an1, an2]
            refine Free.Chain.no [(19, 32)] [0] 19 true 32 (by kernel_rfl) (by kernel_rfl) rfl (by kernel_rfl) ?_ ?_
            · (intro ev W hR hD; simp only [Free.AllDeps, Free.At, List.getElem?_cons_succ, List.getElem?_cons_zero, and_true] at hD; simp [hD])
            simp only [an1, an2]
            refine Free.Chain.no [(19, 32)] [3] 19 true 32 (by kernel_rfl) (by kernel_rfl) rfl (by kernel_rfl) ?_ ?_
            · (intro ev W hR hD; simp only [Free.AllDeps, Free.At, List.getElem?_cons_succ, List.getElem?_cons_zero, and_true] at hD; simp [hD])
            simp only [an1, an2]
            refine Free.Chain.no [(26, 39), (27, 40), (19, 32)] [] 19 true 32 (by kernel_rfl) (by kernel_rfl) rfl (by kernel_rfl) ?_ ?_
            · (intro ev W hR hD; simp only [Free.AllDeps, Free.At, List.getElem?_cons_succ, List.getElem?_cons_zero, and_true] at hD; simp [hD])
            simp only [an1, an2]
            refine Free.Chain.no [(28, 41), (19, 32)] [] 19 true 32 (by kernel_rfl) (by kernel_rfl) rfl (by kernel_rfl) ?_ ?_
            · (intro ev W hR hD; simp only [Free.AllDeps, Free.At, List.getElem?_cons_succ, List.getElem?_cons_zero, and_true] at hD; simp [hD])
            simp only [an1, an2]
            refine Free.Chain.no [(29, 42), (19, 32)] [] 19 true 32 (by kernel_rfl) (by kernel_rfl) rfl (by kernel_rfl) ?_ ?_
            · (intro ev W hR hD; simp only [Free.AllDeps, Free.At, List.getElem?_cons_succ, List.getElem?_cons_zero, and_true] at hD; simp [hD])
            simp only [an1, an2]
            refine Free.Chain.no [(25, 38), (30, 43), (19, 32)] [] 19 true 32 (by kernel_rfl) (by kernel_rfl) rfl (by kernel_rfl) ?_ ?_
            · (intro ev W hR hD; simp only [Free.AllDeps, Free.At, List.getElem?_cons_succ, List.getElem?_cons_zero, and_true] at hD; simp [hD])
            simp only [an1, an2]
            refine Free.Chain.no [(31, 44), (19, 32), (19, 32)] [] 19 true 32 (by kernel_rfl) (by kernel_rfl) rfl (by kernel_rfl) ?_ ?_
            · (intro ev W hR hD; simp only [Free.AllDeps, Free.At, List.getElem?_cons_succ, List.getElem?_cons_zero, and_true] at hD; simp [hD])
            simp only [an1, an2]
            refine Free.Chain.no [(32, 45)] [0] 32 false 45 (by kernel_rfl) (by kernel_rfl) rfl (by kernel_rfl) ?_ ?_
            · (intro ev W hR hD; simp only [Free.AllDeps, Free.At, List.getElem?_cons_succ, List.getElem?_cons_zero, and_true] at hD; simp [hD])
            simp only [an1, an2]
            refine Free.Chain.no [(32, 45)] [3] 32 false 45 (by kernel_rfl) (by kernel_rfl) rfl (by kernel_rfl) ?_ ?_
            · (intro ev W hR hD; simp only [Free.AllDeps, Free.At, List.getElem?_cons_succ, List.getElem?_cons_zero, and_true] at hD; simp [hD])
            simp only [an1, an2]
            refine Free.Chain.no [(34, 47), (32, 45)] [] 32 false 45 (by kernel_rfl) (by kernel_rfl) rfl (by kernel_rfl) ?_ ?_
            · (intro ev W hR hD; simp only [Free.AllDeps, Free.At, List.getElem?_cons_succ, List.getElem?_cons_zero, and_true] at hD; simp [hD])
            simp only [an1, an2]
            refine Free.Chain.no [(33, 46), (35, 48), (32, 45)] [] 32 false 45 (by kernel_rfl) (by kernel_rfl) rfl (by kernel_rfl) ?_ ?_
            · (intro ev W hR hD; simp only [Free.AllDeps, Free.At, List.getElem?_cons_succ, List.getElem?_cons_zero, and_true] at hD; simp [hD])
            simp only [an1, an2]
            refine Free.Chain.no [(36, 49), (32, 45)] [] 32 false 45 (by kernel_rfl) (by kernel_rfl) rfl (by kernel_rfl) ?_ ?_
            · (intro ev W hR hD; simp only [Free.AllDeps, Free.At, List.getElem?_cons_succ, List.getElem?_cons_zero, and_true] at hD; simp [hD])
            simp only [an1, an2]
            refine Free.Chain.no [(37, 50), (32, 45)] [] 32 false 45 (by kernel_rfl) (by kernel_rfl) rfl (by kernel_rfl) ?_ ?_
            · (intro ev W hR hD; simp only [Free.AllDeps, Free.At, List.getElem?_cons_succ, List.getElem?_cons_zero, and_true] at hD; simp [hD])
            simp only [an1, an2]
            refine Free.Chain.no [(32, 45)] [0] 32 false 45 (by kernel_rfl) (by kernel_rfl) rfl (by kernel_rfl) ?_ ?_
            · (intro ev W hR hD; simp only [Free.AllDeps, Free.At, List.getElem?_cons_succ, List.getElem?_cons_zero, and_true] at hD; simp [hD])
            simp only [an1, an2]
            refine Free.Chain.no [(32, 45)] [3] 32 false 45 (by kernel_rfl) (by kernel_rfl) rfl (by kernel_rfl) ?_ ?_
            · (intro ev W hR hD; simp only [Free.AllDeps, Free.At, List.getElem?_cons_succ, List.getElem?_cons_zero, and_true] at hD; simp [hD])
            simp only [an1, an2]
            refine Free.Chain.no [(39, 52), (40, 53), (32, 45)] [] 32 false 45 (by kernel_rfl) (by kernel_rfl) rfl (by kernel_rfl) ?_ ?_
            · (intro ev W hR hD; simp only [Free.AllDeps, Free.At, List.getElem?_cons_succ, List.getElem?_cons_zero, and_true] at hD; simp [hD])
            simp only [an1, an2]
            refine Free.Chain.no [(41, 54), (32, 45)] [] 32 false 45 (by kernel_rfl) (by kernel_rfl) rfl (by kernel_rfl) ?_ ?_
            · (intro ev W hR hD; simp only [Free.AllDeps, Free.At, List.getElem?_cons_succ, List.getElem?_cons_zero, and_true] at hD; simp [hD])
            simp only [an1, an2]
            refine Free.Chain.no [(42, 55), (32, 45)] [] 32 false 45 (by kernel_rfl) (by kernel_rfl) rfl (by kernel_rfl) ?_ ?_
            · (intro ev W hR hD; simp only [Free.AllDeps, Free.At, List.getElem?_cons_succ, List.getElem?_cons_zero, and_true] at hD; simp [hD])
            simp only [an1, an2]
            refine Free.Chain.no [(38, 51), (43, 56), (32, 45)] [] 32 false 45 (by kernel_rfl) (by kernel_rfl) rfl (by kernel_rfl) ?_ ?_
            · (intro ev W hR hD; simp only [Free.AllDeps, Free.At, List.getElem?_cons_succ, List.getElem?_cons_zero, and_true] at hD; simp [hD])
            simp only [an1, an2]
            refine Free.Chain.no [(32, 45), (44, 57), (19, 32)] [] 19 true 32 (by kernel_rfl) (by kernel_rfl) rfl (by kernel_rfl) ?_ ?_
            · (intro ev W hR hD; simp only [Free.AllDeps, Free.At, List.getElem?_cons_succ, List.getElem?_cons_zero, and_true] at hD; simp [hD])
            simp only [an1, an2]
            refine Free.Chain.no [(19, 32), (45, 58), (16, 29)] [] 16 false 29 (by kernel_rfl) (by kernel_rfl) rfl (by kernel_rfl) ?_ ?_
            · (intro ev W hR hD; simp only [Free.AllDeps, Free.At, List.getElem?_cons_succ, List.getElem?_cons_zero, and_true] at hD; simp [hD])
            simp only [an1, an2]
            refine Free.Chain.ex ?_ [(16, 29), (46, 59)] [] (by kernel_rfl) (by kernel_rfl) rfl Free.Bel.refl ?_ ?_
            rotate_left 2
            simp only [an1, an2]
            rotate_left
            rotate_left
            · (intro ev W hb hR hO hD; have hS := hF W hR; obtain ⟨hb1, hb2, hb3⟩ := hb; simp only [Free.AllDeps, Free.AllOuts, Free.At, al1, al2, al3, al4, al5, and_true] at hO hD; go_simp; rfl)
            intro xs w2 hR hV
            simp only [Free.AllV, Free.At, List.length_cons, List.length_nil, Nat.reduceAdd, List.getElem?_cons_succ, List.getElem?_cons_zero, true_and] at hV
            simp only [Free.putsFrom, Act.put, Nat.zero_add, Nat.reduceAdd, hV, List.setIfInBounds_toArray, List.set_cons_succ, List.set_cons_zero]
            have hB2 := bt hB (hK0 _ hR)
            clear hR hV hF hK0
            go_wp2_with fail
            go_ret
            exact ⟨rfl, hB2⟩
          · have hy1 : 0 ≤ y ∧ y ≤ 1000000 := by simpa [inB] using h2
            have H2 := Lib.hid h2
            clear h2
            by_cases hk0 : k = 0
            · obtain ⟨hf, hp⟩ := HZ.out hk0
              have hnext : Hid (agreedFrom x y (xs.drop (k + 1)) = r) := by
                show _ = _
                rw [← hst.out, hf, hp]
                have i1 : inB (0 + 1) 100 [x] = true := by simp [inB]; omega
                have i2 : inB 0 1000000 [y] = true := by simp [inB]; omega
                rw [i1, i2]; rfl
              have g0 : decide (0 < (k : Int)) = false := decide_eq_false (by omega)
              clear hf hp
              subst hk0
              have c0 : wr.cell? ⟨b, off, none⟩ = some (.int .i64 x) := by simpa using c0
              have c1 : wr.cell? ⟨b, off + 1, none⟩ = some (.int .i64 y) := by simpa using c1
              have hF : ∀ W, Free.Bel wr.drew W → W.cell? ⟨b, off, none⟩ = some (.int .i64 x) ∧ W.cell? ⟨b, off + 1, none⟩ = some (.int .i64 y) := fun W hW => ⟨keepsB (hK0 W hW) c0, keepsB (hK0 W hW) c1⟩
              go_wp2_with fail
              refine Free.wp_free (R := Free.Bel) (by kernel_rfl) (by kernel_rfl) Free.Bel.refl Free.Bel.trans ?_
              refine Free.Chain.ex ?_ [] [0] (by kernel_rfl) (by kernel_rfl) rfl Free.Bel.refl ?_ ?_
              rotate_left 2
              simp only [an1, an2]
              refine Free.Chain.ex ?_ [] [3] (by kernel_rfl) (by kernel_rfl) rfl Free.Bel.refl ?_ ?_
              rotate_left 2
              simp only [an1, an2]
              refine Free.Chain.ex ?_ [(0, 13), (1, 14)] [] (by kernel_rfl) (by kernel_rfl) rfl Free.Bel.refl ?_ ?_
              rotate_left 2
              simp only [an1, an2]
              refine Free.Chain.ex ?_ [(2, 15)] [] (by kernel_rfl) (by kernel_rfl) rfl Free.Bel.refl ?_ ?_
              rotate_left 2
              simp only [an1, an2]
              refine Free.Chain.ex ?_ [(3, 16)] [] (by kernel_rfl) (by kernel_rfl) rfl Free.Bel.refl ?_ ?_
              rotate_left 2
              simp only [an1, an2]
              rotate_left
              iterate 5 (rotate_left; intro ev W hb hR hO hD; have hS := hF W hR; obtain ⟨hb1, hb2, hb3⟩ := hb; simp only [Free.AllDeps, Free.AllOuts, Free.At, al1, al2, al3, al4, al5, and_true] at hO hD; go_simp; rfl)
              refine Free.Chain.pr (fun v _ => v = .bool true) [(4, 17)] [] (by kernel_rfl) (by kernel_rfl) rfl (fun _ _ _ _ h => h) ?_ ?_
              · (intro ev W hb hR hO hD; have hS := hF W hR; obtain ⟨hb1, hb2, hb3⟩ := hb; simp only [Free.AllDeps, Free.AllOuts, Free.At, al1, al2, al3, al4, al5, and_true] at hO hD; go_simp; refine yields_enter ?_; (with_reducible refine (within_any x 1 100 true _ H1.out).mono ?_); rintro e W2 ⟨rfl, rfl⟩; exact ⟨_, rfl, Free.Bel.refl _, rfl⟩)
              simp only [an1, an2]
              refine Free.Chain.ex ?_ [(5, 18)] [] (by kernel_rfl) (by kernel_rfl) rfl Free.Bel.refl ?_ ?_
              rotate_left 2
              simp only [an1, an2]
              refine Free.Chain.ex ?_ [(6, 19), (5, 18)] [] (by kernel_rfl) (by kernel_rfl) rfl Free.Bel.refl ?_ ?_
              rotate_left 2
              simp only [an1, an2]
              rotate_left
              iterate 2 (rotate_left; intro ev W hb hR hO hD; have hS := hF W hR; obtain ⟨hb1, hb2, hb3⟩ := hb; simp only [Free.AllDeps, Free.AllOuts, Free.At, al1, al2, al3, al4, al5, and_true] at hO hD; go_simp; rfl)
              refine Free.Chain.exG ?_ [(7, 20)] [0] 7 false 20 (by kernel_rfl) (by kernel_rfl) rfl (by kernel_rfl) Free.Bel.refl ?_ ?_
              rotate_left 2
              simp only [an1, an2]
              refine Free.Chain.exG ?_ [(7, 20)] [3] 7 false 20 (by kernel_rfl) (by kernel_rfl) rfl (by kernel_rfl) Free.Bel.refl ?_ ?_
              rotate_left 2
              simp only [an1, an2]
              refine Free.Chain.exG ?_ [(8, 21), (9, 22), (7, 20)] [] 7 false 20 (by kernel_rfl) (by kernel_rfl) rfl (by kernel_rfl) Free.Bel.refl ?_ ?_
              rotate_left 2
              simp only [an1, an2]
              refine Free.Chain.exG ?_ [(10, 23), (7, 20)] [] 7 false 20 (by kernel_rfl) (by kernel_rfl) rfl (by kernel_rfl) Free.Bel.refl ?_ ?_
              rotate_left 2
              simp only [an1, an2]
              refine Free.Chain.exG ?_ [(11, 24), (7, 20)] [] 7 false 20 (by kernel_rfl) (by kernel_rfl) rfl (by kernel_rfl) Free.Bel.refl ?_ ?_
              rotate_left 2
              simp only [an1, an2]
              rotate_left
              iterate 5 (rotate_left; intro ev W hb hR hO hD; have hS := hF W hR; obtain ⟨hb1, hb2, hb3⟩ := hb; simp only [Free.AllDeps, Free.AllOuts, Free.At, al1, al2, al3, al4, al5, and_true] at hO hD; refine ⟨by simp [hD], ?_⟩; go_simp; rfl)
              refine Free.Chain.prG (fun v _ => v = .bool true) [(12, 25), (7, 20), (7, 20)] [] 7 false 20 (by kernel_rfl) (by kernel_rfl) rfl (by kernel_rfl) (fun _ _ _ _ h => h) ?_ ?_
              · (intro ev W hb hR hO hD; have hS := hF W hR; obtain ⟨hb1, hb2, hb3⟩ := hb; simp only [Free.AllDeps, Free.AllOuts, Free.At, al1, al2, al3, al4, al5, and_true] at hO hD; refine ⟨by simp [hD], ?_⟩; go_simp; refine yields_enter ?_; (with_reducible refine (within_any y 0 1000000 true _ H2.out).mono ?_); rintro e W2 ⟨rfl, rfl⟩; exact ⟨_, rfl, Free.Bel.refl _, rfl⟩)
              simp only [an1, an2]
              refine Free.Chain.exG ?_ [(13, 26), (7, 20)] [] 7 false 20 (by kernel_rfl) (by kernel_rfl) rfl (by kernel_rfl) Free.Bel.refl ?_ ?_
              rotate_left 2
              simp only [an1, an2]
              rotate_left
              rotate_left
              · (intro ev W hb hR hO hD; have hS := hF W hR; obtain ⟨hb1, hb2, hb3⟩ := hb; simp only [Free.AllDeps, Free.AllOuts, Free.At, al1, al2, al3, al4, al5, and_true] at hO hD; refine ⟨by simp [hD], ?_⟩; go_simp; rfl)
              refine Free.Chain.ex ?_ [(7, 20), (14, 27)] [] (by kernel_rfl) (by kernel_rfl) rfl Free.Bel.refl ?_ ?_
              rotate_left 2
              simp only [an1, an2]
              refine Free.Chain.ex ?_ [(15, 28), (13, 26)] [] (by kernel_rfl) (by kernel_rfl) rfl Free.Bel.refl ?_ ?_
              rotate_left 2
              simp only [an1, an2]
              rotate_left
              iterate 2 (rotate_left; intro ev W hb hR hO hD; have hS := hF W hR; obtain ⟨hb1, hb2, hb3⟩ := hb; simp only [Free.AllDeps, Free.AllOuts, Free.At, al1, al2, al3, al4, al5, and_true] at hO hD; go_simp; rfl)
              refine Free.Chain.exG ?_ [(16, 29)] [3] 16 false 29 (by kernel_rfl) (by kernel_rfl) rfl (by kernel_rfl) Free.Bel.refl ?_ ?_
              rotate_left 2
              simp only [an1, an2]
              refine Free.Chain.exG ?_ [(17, 30), (16, 29)] [] 16 false 29 (by kernel_rfl) (by kernel_rfl) rfl (by kernel_rfl) Free.Bel.refl ?_ ?_
              rotate_left 2
              simp only [an1, an2]
              refine Free.Chain.exG ?_ [(18, 31), (16, 29), (16, 29)] [] 16 false 29 (by kernel_rfl) (by kernel_rfl) rfl (by kernel_rfl) Free.Bel.refl ?_ ?_
              rotate_left 2
              simp only [an1, an2]
              rotate_left
              iterate 3 (rotate_left; intro ev W hb hR hO hD; have hS := hF W hR; obtain ⟨hb1, hb2, hb3⟩ := hb; simp only [Free.AllDeps, Free.AllOuts, Free.At, al1, al2, al3, al4, al5, and_true] at hO hD; refine ⟨by simp [hD], ?_⟩; go_simp; rfl)
              refine Free.Chain.no [(19, 32)] [0] 19 true 32 (by kernel_rfl) (by kernel_rfl) rfl (by kernel_rfl) ?_ ?_
              · (intro ev W hR hD; simp only [Free.AllDeps, Free.At, List.getElem?_cons_succ, List.getElem?_cons_zero, and_true] at hD; simp [hD])
              simp only [an1, an2]
              refine Free.Chain.no [(19, 32)] [3] 19 true 32 (by kernel_rfl) (by kernel_rfl) rfl (by kernel_rfl) ?_ ?_
              · (intro ev W hR hD; simp only [Free.AllDeps, Free.At, List.getElem?_cons_succ, List.getElem?_cons_zero, and_true] at hD; simp [hD])
              simp only [an1, an2]
              refine Free.Chain.no [(21, 34), (19, 32)] [] 19 true 32 (by kernel_rfl) (by kernel_rfl) rfl (by kernel_rfl) ?_ ?_
              · (intro ev W hR hD; simp only [Free.AllDeps, Free.At, List.getElem?_cons_succ, List.getElem?_cons_zero, and_true] at hD; simp [hD])
              simp only [an1, an2]
              refine Free.Chain.no [(20, 33), (22, 35), (19, 32)] [] 19 true 32 (by kernel_rfl) (by kernel_rfl) rfl (by kernel_rfl) ?_ ?_
              · (intro ev W hR hD; simp only [Free.AllDeps, Free.At, List.getElem?_cons_succ, List.getElem?_cons_zero, and_true] at hD; simp [hD])
              simp only [an1, an2]
              refine Free.Chain.no [(23, 36), (19, 32)] [] 19 true 32 (by kernel_rfl) (by kernel_rfl) rfl (by kernel_rfl) ?_ ?_
              · (intro ev W hR hD; simp only [Free.AllDeps, Free.At, List.getElem?_cons_succ, List.getElem?_cons_zero, and_true] at hD; simp [hD])
              simp only [an1, an2]
              refine Free.Chain.no [(24, 37), (19, 32)] [] 19 true 32 (by kernel_rfl) (by kernel_rfl) rfl (by kernel_rfl) ?_ ?_
              · (intro ev W hR hD; simp only [Free.AllDeps, Free.At, List.getElem?_cons_succ, List.getElem?_cons_zero, and_true] at hD; simp [hD])
              simp only [an1, an2]
              refine Free.Chain.no [(19, 32)] [0] 19 true 32 (by kernel_rfl) (by kernel_rfl) rfl (by kernel_rfl) ?_ ?_
              · (intro ev W hR hD; simp only [Free.AllDeps, Free.At, List.getElem?_cons_succ, List.getElem?_cons_zero, and_true] at hD; simp [hD])
              simp only [an1, an2]
              refine Free.Chain.no [(19, 32)] [3] 19 true 32 (by kernel_rfl) (by kernel_rfl) rfl (by kernel_rfl) ?_ ?_
              · (intro ev W hR hD; simp only [Free.AllDeps, Free.At, List.getElem?_cons_succ, List.getElem?_cons_zero, and_true] at hD; simp [hD])
              simp only [an1, an2]
              refine Free.Chain.no [(26, 39), (27, 40), (19, 32)] [] 19 true 32 (by kernel_rfl) (by kernel_rfl) rfl (by kernel_rfl) ?_ ?_
              · (intro ev W hR hD; simp only [Free.AllDeps, Free.At, List.getElem?_cons_succ, List.getElem?_cons_zero, and_true] at hD; simp [hD])
              simp only [an1, an2]
              refine Free.Chain.no [(28, 41), (19, 32)] [] 19 true 32 (by kernel_rfl) (by kernel_rfl) rfl (by kernel_rfl) ?_ ?_
              · (intro ev W hR hD; simp only [Free.AllDeps, Free.At, List.getElem?_cons_succ, List.getElem?_cons_zero, and_true] at hD; simp [hD])
              simp only [an1, an2]
              refine Free.Chain.no [(29, 42), (19, 32)] [] 19 true 32 (by kernel_rfl) (by kernel_rfl) rfl (by kernel_rfl) ?_ ?_
              · (intro ev W hR hD; simp only [Free.AllDeps, Free.At, List.getElem?_cons_succ, List.getElem?_cons_zero, and_true] at hD; simp [hD])
              simp only [an1, an2]
              refine Free.Chain.no [(25, 38), (30, 43), (19, 32)] [] 19 true 32 (by kernel_rfl) (by kernel_rfl) rfl (by kernel_rfl) ?_ ?_
              · (intro ev W hR hD; simp only [Free.AllDeps, Free.At, List.getElem?_cons_succ, List.getElem?_cons_zero, and_true] at hD; simp [hD])
              simp only [an1, an2]
              refine Free.Chain.no [(31, 44), (19, 32), (19, 32)] [] 19 true 32 (by kernel_rfl) (by kernel_rfl) rfl (by kernel_rfl) ?_ ?_
              · (intro ev W hR hD; simp only [Free.AllDeps, Free.At, List.getElem?_cons_succ, List.getElem?_cons_zero, and_true] at hD; simp [hD])
              simp only [an1, an2]
              refine Free.Chain.no [(32, 45)] [0] 32 false 45 (by kernel_rfl) (by kernel_rfl) rfl (by kernel_rfl) ?_ ?_
              · (intro ev W hR hD; simp only [Free.AllDeps, Free.At, List.getElem?_cons_succ, List.getElem?_cons_zero, and_true] at hD; simp [hD])
              simp only [an1, an2]
              refine Free.Chain.no [(32, 45)] [3] 32 false 45 (by kernel_rfl) (by kernel_rfl) rfl (by kernel_rfl) ?_ ?_
              · (intro ev W hR hD; simp only [Free.AllDeps, Free.At, List.getElem?_cons_succ, List.getElem?_cons_zero, and_true] at hD; simp [hD])
              simp only [an1, an2]
              refine Free.Chain.no [(34, 47), (32, 45)] [] 32 false 45 (by kernel_rfl) (by kernel_rfl) rfl (by kernel_rfl) ?_ ?_
              · (intro ev W hR hD; simp only [Free.AllDeps, Free.At, List.getElem?_cons_succ, List.getElem?_cons_zero, and_true] at hD; simp [hD])
              simp only [an1, an2]
              refine Free.Chain.no [(33, 46), (35, 48), (32, 45)] [] 32 false 45 (by kernel_rfl) (by kernel_rfl) rfl (by kernel_rfl) ?_ ?_
              · (intro ev W hR hD; simp only [Free.AllDeps, Free.At, List.getElem?_cons_succ, List.getElem?_cons_zero, and_true] at hD; simp [hD])
              simp only [an1, an2]
              refine Free.Chain.no [(36, 49), (32, 45)] [] 32 false 45 (by kernel_rfl) (by kernel_rfl) rfl (by kernel_rfl) ?_ ?_
              · (intro ev W hR hD; simp only [Free.AllDeps, Free.At, List.getElem?_cons_succ, List.getElem?_cons_zero, and_true] at hD; simp [hD])
              simp only [an1, an2]
              refine Free.Chain.no [(37, 50), (32, 45)] [] 32 false 45 (by kernel_rfl) (by kernel_rfl) rfl (by kernel_rfl) ?_ ?_
              · (intro ev W hR hD; simp only [Free.AllDeps, Free.At, List.getElem?_cons_succ, List.getElem?_cons_zero, and_true] at hD; simp [hD])
              simp only [an1, an2]
              refine Free.Chain.no [(32, 45)] [0] 32 false 45 (by kernel_rfl) (by kernel_rfl) rfl (by kernel_rfl) ?_ ?_
              · (intro ev W hR hD; simp only [Free.AllDeps, Free.At, List.getElem?_cons_succ, List.getElem?_cons_zero, and_true] at hD; simp [hD])
              simp only [an1, an2]
              refine Free.Chain.no [(32, 45)] [3] 32 false 45 (by kernel_rfl) (by kernel_rfl) rfl (by kernel_rfl) ?_ ?_
              · (intro ev W hR hD; simp only [Free.AllDeps, Free.At, List.getElem?_cons_succ, List.getElem?_cons_zero, and_true] at hD; simp [hD])
              simp only [an1, an2]
              refine Free.Chain.no [(39, 52), (40, 53), (32, 45)] [] 32 false 45 (by kernel_rfl) (by kernel_rfl) rfl (by kernel_rfl) ?_ ?_
              · (intro ev W hR hD; simp only [Free.AllDeps, Free.At, List.getElem?_cons_succ, List.getElem?_cons_zero, and_true] at hD; simp [hD])
              simp only [an1, an2]
              refine Free.Chain.no [(41, 54), (32, 45)] [] 32 false 45 (by kernel_rfl) (by kernel_rfl) rfl (by kernel_rfl) ?_ ?_
              · (intro ev W hR hD; simp only [Free.AllDeps, Free.At, List.getElem?_cons_succ, List.getElem?_cons_zero, and_true] at hD; simp [hD])
              simp only [an1, an2]
              refine Free.Chain.no [(42, 55), (32, 45)] [] 32 false 45 (by kernel_rfl) (by kernel_rfl) rfl (by kernel_rfl) ?_ ?_
              · (intro ev W hR hD; simp only [Free.AllDeps, Free.At, List.getElem?_cons_succ, List.getElem?_cons_zero, and_true] at hD; simp [hD])
              simp only [an1, an2]
              refine Free.Chain.no [(38, 51), (43, 56), (32, 45)] [] 32 false 45 (by kernel_rfl) (by kernel_rfl) rfl (by kernel_rfl) ?_ ?_
              · (intro ev W hR hD; simp only [Free.AllDeps, Free.At, List.getElem?_cons_succ, List.getElem?_cons_zero, and_true] at hD; simp [hD])
              simp only [an1, an2]
              refine Free.Chain.no [(32, 45), (44, 57), (19, 32)] [] 19 true 32 (by kernel_rfl) (by kernel_rfl) rfl (by kernel_rfl) ?_ ?_
              · (intro ev W hR hD; simp only [Free.AllDeps, Free.At, List.getElem?_cons_succ, List.getElem?_cons_zero, and_true] at hD; simp [hD])
              simp only [an1, an2]
              refine Free.Chain.exG ?_ [(19, 32), (45, 58), (16, 29)] [] 16 false 29 (by kernel_rfl) (by kernel_rfl) rfl (by kernel_rfl) Free.Bel.refl ?_ ?_
              rotate_left 2
              simp only [an1, an2]
              rotate_left
              rotate_left
              · (intro ev W hb hR hO hD; have hS := hF W hR; obtain ⟨hb1, hb2, hb3⟩ := hb; simp only [Free.AllDeps, Free.AllOuts, Free.At, al1, al2, al3, al4, al5, and_true] at hO hD; refine ⟨by simp [hD], ?_⟩; go_simp; rfl)
              refine Free.Chain.ex ?_ [(16, 29), (46, 59)] [] (by kernel_rfl) (by kernel_rfl) rfl Free.Bel.refl ?_ ?_
              rotate_left 2
              simp only [an1, an2]
              rotate_left
              rotate_left
              · (intro ev W hb hR hO hD; have hS := hF W hR; obtain ⟨hb1, hb2, hb3⟩ := hb; simp only [Free.AllDeps, Free.AllOuts, Free.At, al1, al2, al3, al4, al5, and_true] at hO hD; go_simp; rfl)
              intro xs w2 hR hV
              simp only [Free.AllV, Free.At, List.length_cons, List.length_nil, Nat.reduceAdd, List.getElem?_cons_succ, List.getElem?_cons_zero, true_and] at hV
              simp only [Free.putsFrom, Act.put, Nat.zero_add, Nat.reduceAdd, hV, List.setIfInBounds_toArray, List.set_cons_succ, List.set_cons_zero]
              have hB2 := bt hB (hK0 _ hR)
              clear hR hV hF hK0
              go_wp2_with fail
              go_roundw
              case rel => exact ⟨0 + 1, x, y, by omega, by go_num, by omega, by omega, hnext, fun h => by omega, fun j9 h9 e9 => (by obtain rfl : j9 = 0 := (by omega); exact HX.out), hB2⟩
              case measure => simp [intOf]; omega
            · obtain ⟨j, hj⟩ : ∃ j, j + 1 = k := ⟨k - 1, by omega⟩
              have hjl : j < xs.length := by omega
              have hjlt : (j : Int) < xs.length := by omega
              have hwj : IntKind.i64.wrap ((k : Int) - 1) = (j : Int) := by rw [IntWalk.i64_in _ (by omega)]; omega
              have hpr := HPR.out j hjl hj
              obtain ⟨d0, d1⟩ := HCS.out j hjl
              rw [hpr] at d0 d1
              have c2 := keepsB hB d0
              have c3 := keepsB hB d1
              have g0 : decide (0 < (k : Int)) = true := decide_eq_true (by omega)
              have hkp : 0 < k := by omega
              have HJ := Lib.hid hj
              clear hpr d0 d1 hj hk0
              by_cases h3 : x ≤ f
              · have hres : r = false := by
                  rw [← hst.out]
                  have : inB (f + 1) 100 [x] = false := by
                    simp [inB]; omega
                  rw [this]; rfl
                subst hres
                have g1 : decide (x ≤ f) = true := decide_eq_true h3
                have hF : ∀ W, Free.Bel wr.drew W → W.cell? ⟨b, off + k * 2, none⟩ = some (.int .i64 x) ∧ W.cell? ⟨b, off + k * 2 + 1, none⟩ = some (.int .i64 y) ∧ W.cell? ⟨b, off + j * 2, none⟩ = some (.int .i64 f) ∧ W.cell? ⟨b, off + j * 2 + 1, none⟩ = some (.int .i64 p) := fun W hW => ⟨keepsB (hK0 W hW) c0, keepsB (hK0 W hW) c1, keepsB (hK0 W hW) c2, keepsB (hK0 W hW) c3⟩
                go_wp2_with fail
                refine Free.wp_free (R := Free.Bel) (by kernel_rfl) (by kernel_rfl) Free.Bel.refl Free.Bel.trans ?_
                refine Free.Chain.ex ?_ [] [0] (by kernel_rfl) (by kernel_rfl) rfl Free.Bel.refl ?_ ?_
                rotate_left 2
                simp only [an1, an2]
                refine Free.Chain.ex ?_ [] [3] (by kernel_rfl) (by kernel_rfl) rfl Free.Bel.refl ?_ ?_
                rotate_left 2
                simp only [an1, an2]
                refine Free.Chain.ex ?_ [(0, 13), (1, 14)] [] (by kernel_rfl) (by kernel_rfl) rfl Free.Bel.refl ?_ ?_
                rotate_left 2
                simp only [an1, an2]
                refine Free.Chain.ex ?_ [(2, 15)] [] (by kernel_rfl) (by kernel_rfl) rfl Free.Bel.refl ?_ ?_
                rotate_left 2
                simp only [an1, an2]
                refine Free.Chain.ex ?_ [(3, 16)] [] (by kernel_rfl) (by kernel_rfl) rfl Free.Bel.refl ?_ ?_
                rotate_left 2
                simp only [an1, an2]
                rotate_left
                iterate 5 (rotate_left; intro ev W hb hR hO hD; have hS := hF W hR; obtain ⟨hb1, hb2, hb3⟩ := hb; simp only [Free.AllDeps, Free.AllOuts, Free.At, al1, al2, al3, al4, al5, and_true] at hO hD; go_simp; rfl)
                refine Free.Chain.pr (fun v _ => v = .bool true) [(4, 17)] [] (by kernel_rfl) (by kernel_rfl) rfl (fun _ _ _ _ h => h) ?_ ?_
                · (intro ev W hb hR hO hD; have hS := hF W hR; obtain ⟨hb1, hb2, hb3⟩ := hb; simp only [Free.AllDeps, Free.AllOuts, Free.At, al1, al2, al3, al4, al5, and_true] at hO hD; go_simp; refine yields_enter ?_; (with_reducible refine (within_any x 1 100 true _ H1.out).mono ?_); rintro e W2 ⟨rfl, rfl⟩; exact ⟨_, rfl, Free.Bel.refl _, rfl⟩)
                simp only [an1, an2]
                refine Free.Chain.ex ?_ [(5, 18)] [] (by kernel_rfl) (by kernel_rfl) rfl Free.Bel.refl ?_ ?_
                rotate_left 2
                simp only [an1, an2]
                refine Free.Chain.ex ?_ [(6, 19), (5, 18)] [] (by kernel_rfl) (by kernel_rfl) rfl Free.Bel.refl ?_ ?_
                rotate_left 2
                simp only [an1, an2]
                rotate_left
                iterate 2 (rotate_left; intro ev W hb hR hO hD; have hS := hF W hR; obtain ⟨hb1, hb2, hb3⟩ := hb; simp only [Free.AllDeps, Free.AllOuts, Free.At, al1, al2, al3, al4, al5, and_true] at hO hD; go_simp; rfl)
                refine Free.Chain.exG ?_ [(7, 20)] [0] 7 false 20 (by kernel_rfl) (by kernel_rfl) rfl (by kernel_rfl) Free.Bel.refl ?_ ?_
                rotate_left 2
                simp only [an1, an2]
                refine Free.Chain.exG ?_ [(7, 20)] [3] 7 false 20 (by kernel_rfl) (by kernel_rfl) rfl (by kernel_rfl) Free.Bel.refl ?_ ?_
                rotate_left 2
                simp only [an1, an2]
                refine Free.Chain.exG ?_ [(8, 21), (9, 22), (7, 20)] [] 7 false 20 (by kernel_rfl) (by kernel_rfl) rfl (by kernel_rfl) Free.Bel.refl ?_ ?_
                rotate_left 2
                simp only [an1, an2]
                refine Free.Chain.exG ?_ [(10, 23), (7, 20)] [] 7 false 20 (by kernel_rfl) (by kernel_rfl) rfl (by kernel_rfl) Free.Bel.refl ?_ ?_
                rotate_left 2
                simp only [an1, an2]
                refine Free.Chain.exG ?_ [(11, 24), (7, 20)] [] 7 false 20 (by kernel_rfl) (by kernel_rfl) rfl (by kernel_rfl) Free.Bel.refl ?_ ?_
                rotate_left 2
                simp only [an1, an2]
                rotate_left
                iterate 5 (rotate_left; intro ev W hb hR hO hD; have hS := hF W hR; obtain ⟨hb1, hb2, hb3⟩ := hb; simp only [Free.AllDeps, Free.AllOuts, Free.At, al1, al2, al3, al4, al5, and_true] at hO hD; refine ⟨by simp [hD, hkp], ?_⟩; go_simp; rfl)
                refine Free.Chain.prG (fun v _ => v = .bool true) [(12, 25), (7, 20), (7, 20)] [] 7 false 20 (by kernel_rfl) (by kernel_rfl) rfl (by kernel_rfl) (fun _ _ _ _ h => h) ?_ ?_
                · (intro ev W hb hR hO hD; have hS := hF W hR; obtain ⟨hb1, hb2, hb3⟩ := hb; simp only [Free.AllDeps, Free.AllOuts, Free.At, al1, al2, al3, al4, al5, and_true] at hO hD; refine ⟨by simp [hD, hkp], ?_⟩; go_simp; refine yields_enter ?_; (with_reducible refine (within_any y 0 1000000 true _ H2.out).mono ?_); rintro e W2 ⟨rfl, rfl⟩; exact ⟨_, rfl, Free.Bel.refl _, rfl⟩)
                simp only [an1, an2]
                refine Free.Chain.exG ?_ [(13, 26), (7, 20)] [] 7 false 20 (by kernel_rfl) (by kernel_rfl) rfl (by kernel_rfl) Free.Bel.refl ?_ ?_
                rotate_left 2
                simp only [an1, an2]
                rotate_left
                rotate_left
                · (intro ev W hb hR hO hD; have hS := hF W hR; obtain ⟨hb1, hb2, hb3⟩ := hb; simp only [Free.AllDeps, Free.AllOuts, Free.At, al1, al2, al3, al4, al5, and_true] at hO hD; refine ⟨by simp [hD, hkp], ?_⟩; go_simp; rfl)
                refine Free.Chain.ex ?_ [(7, 20), (14, 27)] [] (by kernel_rfl) (by kernel_rfl) rfl Free.Bel.refl ?_ ?_
                rotate_left 2
                simp only [an1, an2]
                refine Free.Chain.ex ?_ [(15, 28), (13, 26)] [] (by kernel_rfl) (by kernel_rfl) rfl Free.Bel.refl ?_ ?_
                rotate_left 2
                simp only [an1, an2]
                rotate_left
                iterate 2 (rotate_left; intro ev W hb hR hO hD; have hS := hF W hR; obtain ⟨hb1, hb2, hb3⟩ := hb; simp only [Free.AllDeps, Free.AllOuts, Free.At, al1, al2, al3, al4, al5, and_true] at hO hD; go_simp; rfl)
                refine Free.Chain.exG ?_ [(16, 29)] [3] 16 false 29 (by kernel_rfl) (by kernel_rfl) rfl (by kernel_rfl) Free.Bel.refl ?_ ?_
                rotate_left 2
                simp only [an1, an2]
                refine Free.Chain.exG ?_ [(17, 30), (16, 29)] [] 16 false 29 (by kernel_rfl) (by kernel_rfl) rfl (by kernel_rfl) Free.Bel.refl ?_ ?_
                rotate_left 2
                simp only [an1, an2]
                refine Free.Chain.exG ?_ [(18, 31), (16, 29), (16, 29)] [] 16 false 29 (by kernel_rfl) (by kernel_rfl) rfl (by kernel_rfl) Free.Bel.refl ?_ ?_
                rotate_left 2
                simp only [an1, an2]
                refine Free.Chain.exG ?_ [(19, 32)] [0] 19 true 32 (by kernel_rfl) (by kernel_rfl) rfl (by kernel_rfl) Free.Bel.refl ?_ ?_
                rotate_left 2
                simp only [an1, an2]
                refine Free.Chain.exG ?_ [(19, 32)] [3] 19 true 32 (by kernel_rfl) (by kernel_rfl) rfl (by kernel_rfl) Free.Bel.refl ?_ ?_
                rotate_left 2
                simp only [an1, an2]
                refine Free.Chain.exG ?_ [(21, 34), (19, 32)] [] 19 true 32 (by kernel_rfl) (by kernel_rfl) rfl (by kernel_rfl) Free.Bel.refl ?_ ?_
                rotate_left 2
                simp only [an1, an2]
                refine Free.Chain.exG ?_ [(20, 33), (22, 35), (19, 32)] [] 19 true 32 (by kernel_rfl) (by kernel_rfl) rfl (by kernel_rfl) Free.Bel.refl ?_ ?_
                rotate_left 2
                simp only [an1, an2]
                refine Free.Chain.exG ?_ [(23, 36), (19, 32)] [] 19 true 32 (by kernel_rfl) (by kernel_rfl) rfl (by kernel_rfl) Free.Bel.refl ?_ ?_
                rotate_left 2
                simp only [an1, an2]
                refine Free.Chain.exG ?_ [(24, 37), (19, 32)] [] 19 true 32 (by kernel_rfl) (by kernel_rfl) rfl (by kernel_rfl) Free.Bel.refl ?_ ?_
                rotate_left 2
                simp only [an1, an2]
                refine Free.Chain.exG ?_ [(19, 32)] [0] 19 true 32 (by kernel_rfl) (by kernel_rfl) rfl (by kernel_rfl) Free.Bel.refl ?_ ?_
                rotate_left 2
                simp only [an1, an2]
                refine Free.Chain.exG ?_ [(19, 32)] [3] 19 true 32 (by kernel_rfl) (by kernel_rfl) rfl (by kernel_rfl) Free.Bel.refl ?_ ?_
                rotate_left 2
                simp only [an1, an2]
                refine Free.Chain.exG ?_ [(26, 39), (27, 40), (19, 32)] [] 19 true 32 (by kernel_rfl) (by kernel_rfl) rfl (by kernel_rfl) Free.Bel.refl ?_ ?_
                rotate_left 2
                simp only [an1, an2]
                refine Free.Chain.exG ?_ [(28, 41), (19, 32)] [] 19 true 32 (by kernel_rfl) (by kernel_rfl) rfl (by kernel_rfl) Free.Bel.refl ?_ ?_
                rotate_left 2
                simp only [an1, an2]
                refine Free.Chain.exG ?_ [(29, 42), (19, 32)] [] 19 true 32 (by kernel_rfl) (by kernel_rfl) rfl (by kernel_rfl) Free.Bel.refl ?_ ?_
                rotate_left 2
                simp only [an1, an2]
                refine Free.Chain.exG ?_ [(25, 38), (30, 43), (19, 32)] [] 19 true 32 (by kernel_rfl) (by kernel_rfl) rfl (by kernel_rfl) Free.Bel.refl ?_ ?_
                rotate_left 2
                simp only [an1, an2]
                refine Free.Chain.exG ?_ [(31, 44), (19, 32), (19, 32)] [] 19 true 32 (by kernel_rfl) (by kernel_rfl) rfl (by kernel_rfl) Free.Bel.refl ?_ ?_
                rotate_left 2
                simp only [an1, an2]
                rotate_left
                iterate 16 (rotate_left; intro ev W hb hR hO hD; have hS := hF W hR; obtain ⟨hb1, hb2, hb3⟩ := hb; simp only [Free.AllDeps, Free.AllOuts, Free.At, al1, al2, al3, al4, al5, and_true] at hO hD; refine ⟨by simp [hD, hkp], ?_⟩; go_simp; rfl)
                refine Free.Chain.no [(32, 45)] [0] 32 false 45 (by kernel_rfl) (by kernel_rfl) rfl (by kernel_rfl) ?_ ?_
                · (intro ev W hR hD; simp only [Free.AllDeps, Free.At, List.getElem?_cons_succ, List.getElem?_cons_zero, and_true] at hD; simp [hD, hkp])
                simp only [an1, an2]
                refine Free.Chain.no [(32, 45)] [3] 32 false 45 (by kernel_rfl) (by kernel_rfl) rfl (by kernel_rfl) ?_ ?_
                · (intro ev W hR hD; simp only [Free.AllDeps, Free.At, List.getElem?_cons_succ, List.getElem?_cons_zero, and_true] at hD; simp [hD, hkp])
                simp only [an1, an2]
                refine Free.Chain.no [(34, 47), (32, 45)] [] 32 false 45 (by kernel_rfl) (by kernel_rfl) rfl (by kernel_rfl) ?_ ?_
                · (intro ev W hR hD; simp only [Free.AllDeps, Free.At, List.getElem?_cons_succ, List.getElem?_cons_zero, and_true] at hD; simp [hD, hkp])
                simp only [an1, an2]
                refine Free.Chain.no [(33, 46), (35, 48), (32, 45)] [] 32 false 45 (by kernel_rfl) (by kernel_rfl) rfl (by kernel_rfl) ?_ ?_
                · (intro ev W hR hD; simp only [Free.AllDeps, Free.At, List.getElem?_cons_succ, List.getElem?_cons_zero, and_true] at hD; simp [hD, hkp])
                simp only [an1, an2]
                refine Free.Chain.no [(36, 49), (32, 45)] [] 32 false 45 (by kernel_rfl) (by kernel_rfl) rfl (by kernel_rfl) ?_ ?_
                · (intro ev W hR hD; simp only [Free.AllDeps, Free.At, List.getElem?_cons_succ, List.getElem?_cons_zero, and_true] at hD; simp [hD, hkp])
                simp only [an1, an2]
                refine Free.Chain.no [(37, 50), (32, 45)] [] 32 false 45 (by kernel_rfl) (by kernel_rfl) rfl (by kernel_rfl) ?_ ?_
                · (intro ev W hR hD; simp only [Free.AllDeps, Free.At, List.getElem?_cons_succ, List.getElem?_cons_zero, and_true] at hD; simp [hD, hkp])
                simp only [an1, an2]
                refine Free.Chain.no [(32, 45)] [0] 32 false 45 (by kernel_rfl) (by kernel_rfl) rfl (by kernel_rfl) ?_ ?_
                · (intro ev W hR hD; simp only [Free.AllDeps, Free.At, List.getElem?_cons_succ, List.getElem?_cons_zero, and_true] at hD; simp [hD, hkp])
                simp only [an1, an2]
                refine Free.Chain.no [(32, 45)] [3] 32 false 45 (by kernel_rfl) (by kernel_rfl) rfl (by kernel_rfl) ?_ ?_
                · (intro ev W hR hD; simp only [Free.AllDeps, Free.At, List.getElem?_cons_succ, List.getElem?_cons_zero, and_true] at hD; simp [hD, hkp])
                simp only [an1, an2]
                refine Free.Chain.no [(39, 52), (40, 53), (32, 45)] [] 32 false 45 (by kernel_rfl) (by kernel_rfl) rfl (by kernel_rfl) ?_ ?_
                · (intro ev W hR hD; simp only [Free.AllDeps, Free.At, List.getElem?_cons_succ, List.getElem?_cons_zero, and_true] at hD; simp [hD, hkp])
                simp only [an1, an2]
                refine Free.Chain.no [(41, 54), (32, 45)] [] 32 false 45 (by kernel_rfl) (by kernel_rfl) rfl (by kernel_rfl) ?_ ?_
                · (intro ev W hR hD; simp only [Free.AllDeps, Free.At, List.getElem?_cons_succ, List.getElem?_cons_zero, and_true] at hD; simp [hD, hkp])
                simp only [an1, an2]
                refine Free.Chain.no [(42, 55), (32, 45)] [] 32 false 45 (by kernel_rfl) (by kernel_rfl) rfl (by kernel_rfl) ?_ ?_
                · (intro ev W hR hD; simp only [Free.AllDeps, Free.At, List.getElem?_cons_succ, List.getElem?_cons_zero, and_true] at hD; simp [hD, hkp])
                simp only [an1, an2]
                refine Free.Chain.no [(38, 51), (43, 56), (32, 45)] [] 32 false 45 (by kernel_rfl) (by kernel_rfl) rfl (by kernel_rfl) ?_ ?_
                · (intro ev W hR hD; simp only [Free.AllDeps, Free.At, List.getElem?_cons_succ, List.getElem?_cons_zero, and_true] at hD; simp [hD, hkp])
                simp only [an1, an2]
                refine Free.Chain.exG ?_ [(32, 45), (44, 57), (19, 32)] [] 19 true 32 (by kernel_rfl) (by kernel_rfl) rfl (by kernel_rfl) Free.Bel.refl ?_ ?_
                rotate_left 2
                simp only [an1, an2]
                refine Free.Chain.exG ?_ [(19, 32), (45, 58), (16, 29)] [] 16 false 29 (by kernel_rfl) (by kernel_rfl) rfl (by kernel_rfl) Free.Bel.refl ?_ ?_
                rotate_left 2
                simp only [an1, an2]
                rotate_left
                iterate 2 (rotate_left; intro ev W hb hR hO hD; have hS := hF W hR; obtain ⟨hb1, hb2, hb3⟩ := hb; simp only [Free.AllDeps, Free.AllOuts, Free.At, al1, al2, al3, al4, al5, and_true] at hO hD; refine ⟨by simp [hD, hkp], ?_⟩; go_simp; rfl)
                refine Free.Chain.ex ?_ [(16, 29), (46, 59)] [] (by kernel_rfl) (by kernel_rfl) rfl Free.Bel.refl ?_ ?_
                rotate_left 2
                simp only [an1, an2]
                rotate_left
                rotate_left
                · (intro ev W hb hR hO hD; have hS := hF W hR; obtain ⟨hb1, hb2, hb3⟩ := hb; simp only [Free.AllDeps, Free.AllOuts, Free.At, al1, al2, al3, al4, al5, and_true] at hO hD; go_simp; rfl)
                intro xs w2 hR hV
                simp only [Free.AllV, Free.At, List.length_cons, List.length_nil, Nat.reduceAdd, List.getElem?_cons_succ, List.getElem?_cons_zero, true_and] at hV
                simp only [Free.putsFrom, Act.put, Nat.zero_add, Nat.reduceAdd, hV, List.setIfInBounds_toArray, List.set_cons_succ, List.set_cons_zero]
                have hB2 := bt hB (hK0 _ hR)
                clear hR hV hF hK0
                go_wp2_with fail
                go_ret
                exact ⟨rfl, hB2⟩
              · have g1 : decide (x ≤ f) = false := decide_eq_false h3
                by_cases h4 : y < p
                · have hres : r = false := by
                    rw [← hst.out]
                    have : inB p 1000000 [y] = false := by
                      simp [inB]; omega
                    rw [this]; simp
                  subst hres
                  have g2 : decide (y < p) = true := decide_eq_true h4
                  have hF : ∀ W, Free.Bel wr.drew W → W.cell? ⟨b, off + k * 2, none⟩ = some (.int .i64 x) ∧ W.cell? ⟨b, off + k * 2 + 1, none⟩ = some (.int .i64 y) ∧ W.cell? ⟨b, off + j * 2, none⟩ = some (.int .i64 f) ∧ W.cell? ⟨b, off + j * 2 + 1, none⟩ = some (.int .i64 p) := fun W hW => ⟨keepsB (hK0 W hW) c0, keepsB (hK0 W hW) c1, keepsB (hK0 W hW) c2, keepsB (hK0 W hW) c3⟩
                  go_wp2_with fail
                  refine Free.wp_free (R := Free.Bel) (by kernel_rfl) (by kernel_rfl) Free.Bel.refl Free.Bel.trans ?_
                  refine Free.Chain.ex ?_ [] [0] (by kernel_rfl) (by kernel_rfl) rfl Free.Bel.refl ?_ ?_
                  rotate_left 2
                  simp only [an1, an2]
                  refine Free.Chain.ex ?_ [] [3] (by kernel_rfl) (by kernel_rfl) rfl Free.Bel.refl ?_ ?_
                  rotate_left 2
                  simp only [an1, an2]
                  refine Free.Chain.ex ?_ [(0, 13), (1, 14)] [] (by kernel_rfl) (by kernel_rfl) rfl Free.Bel.refl ?_ ?_
                  rotate_left 2
                  simp only [an1, an2]
                  refine Free.Chain.ex ?_ [(2, 15)] [] (by kernel_rfl) (by kernel_rfl) rfl Free.Bel.refl ?_ ?_
                  rotate_left 2
                  simp only [an1, an2]
                  refine Free.Chain.ex ?_ [(3, 16)] [] (by kernel_rfl) (by kernel_rfl) rfl Free.Bel.refl ?_ ?_
                  rotate_left 2
                  simp only [an1, an2]
                  rotate_left
                  iterate 5 (rotate_left; intro ev W hb hR hO hD; have hS := hF W hR; obtain ⟨hb1, hb2, hb3⟩ := hb; simp only [Free.AllDeps, Free.AllOuts, Free.At, al1, al2, al3, al4, al5, and_true] at hO hD; go_simp; rfl)
                  refine Free.Chain.pr (fun v _ => v = .bool true) [(4, 17)] [] (by kernel_rfl) (by kernel_rfl) rfl (fun _ _ _ _ h => h) ?_ ?_
                  · (intro ev W hb hR hO hD; have hS := hF W hR; obtain ⟨hb1, hb2, hb3⟩ := hb; simp only [Free.AllDeps, Free.AllOuts, Free.At, al1, al2, al3, al4, al5, and_true] at hO hD; go_simp; refine yields_enter ?_; (with_reducible refine (within_any x 1 100 true _ H1.out).mono ?_); rintro e W2 ⟨rfl, rfl⟩; exact ⟨_, rfl, Free.Bel.refl _, rfl⟩)
                  simp only [an1, an2]
                  refine Free.Chain.ex ?_ [(5, 18)] [] (by kernel_rfl) (by kernel_rfl) rfl Free.Bel.refl ?_ ?_
                  rotate_left 2
                  simp only [an1, an2]
                  refine Free.Chain.ex ?_ [(6, 19), (5, 18)] [] (by kernel_rfl) (by kernel_rfl) rfl Free.Bel.refl ?_ ?_
                  rotate_left 2
                  simp only [an1, an2]
                  rotate_left
                  iterate 2 (rotate_left; intro ev W hb hR hO hD; have hS := hF W hR; obtain ⟨hb1, hb2, hb3⟩ := hb; simp only [Free.AllDeps, Free.AllOuts, Free.At, al1, al2, al3, al4, al5, and_true] at hO hD; go_simp; rfl)
                  refine Free.Chain.exG ?_ [(7, 20)] [0] 7 false 20 (by kernel_rfl) (by kernel_rfl) rfl (by kernel_rfl) Free.Bel.refl ?_ ?_
                  rotate_left 2
                  simp only [an1, an2]
                  refine Free.Chain.exG ?_ [(7, 20)] [3] 7 false 20 (by kernel_rfl) (by kernel_rfl) rfl (by kernel_rfl) Free.Bel.refl ?_ ?_
                  rotate_left 2
                  simp only [an1, an2]
                  refine Free.Chain.exG ?_ [(8, 21), (9, 22), (7, 20)] [] 7 false 20 (by kernel_rfl) (by kernel_rfl) rfl (by kernel_rfl) Free.Bel.refl ?_ ?_
                  rotate_left 2
                  simp only [an1, an2]
                  refine Free.Chain.exG ?_ [(10, 23), (7, 20)] [] 7 false 20 (by kernel_rfl) (by kernel_rfl) rfl (by kernel_rfl) Free.Bel.refl ?_ ?_
                  rotate_left 2
                  simp only [an1, an2]
                  refine Free.Chain.exG ?_ [(11, 24), (7, 20)] [] 7 false 20 (by kernel_rfl) (by kernel_rfl) rfl (by kernel_rfl) Free.Bel.refl ?_ ?_
                  rotate_left 2
                  simp only [an1, an2]
                  rotate_left
                  iterate 5 (rotate_left; intro ev W hb hR hO hD; have hS := hF W hR; obtain ⟨hb1, hb2, hb3⟩ := hb; simp only [Free.AllDeps, Free.AllOuts, Free.At, al1, al2, al3, al4, al5, and_true] at hO hD; refine ⟨by simp [hD, hkp], ?_⟩; go_simp; rfl)
                  refine Free.Chain.prG (fun v _ => v = .bool true) [(12, 25), (7, 20), (7, 20)] [] 7 false 20 (by kernel_rfl) (by kernel_rfl) rfl (by kernel_rfl) (fun _ _ _ _ h => h) ?_ ?_
                  · (intro ev W hb hR hO hD; have hS := hF W hR; obtain ⟨hb1, hb2, hb3⟩ := hb; simp only [Free.AllDeps, Free.AllOuts, Free.At, al1, al2, al3, al4, al5, and_true] at hO hD; refine ⟨by simp [hD, hkp], ?_⟩; go_simp; refine yields_enter ?_; (with_reducible refine (within_any y 0 1000000 true _ H2.out).mono ?_); rintro e W2 ⟨rfl, rfl⟩; exact ⟨_, rfl, Free.Bel.refl _, rfl⟩)
                  simp only [an1, an2]
                  refine Free.Chain.exG ?_ [(13, 26), (7, 20)] [] 7 false 20 (by kernel_rfl) (by kernel_rfl) rfl (by kernel_rfl) Free.Bel.refl ?_ ?_
                  rotate_left 2
                  simp only [an1, an2]
                  rotate_left
                  rotate_left
                  · (intro ev W hb hR hO hD; have hS := hF W hR; obtain ⟨hb1, hb2, hb3⟩ := hb; simp only [Free.AllDeps, Free.AllOuts, Free.At, al1, al2, al3, al4, al5, and_true] at hO hD; refine ⟨by simp [hD, hkp], ?_⟩; go_simp; rfl)
                  refine Free.Chain.ex ?_ [(7, 20), (14, 27)] [] (by kernel_rfl) (by kernel_rfl) rfl Free.Bel.refl ?_ ?_
                  rotate_left 2
                  simp only [an1, an2]
                  refine Free.Chain.ex ?_ [(15, 28), (13, 26)] [] (by kernel_rfl) (by kernel_rfl) rfl Free.Bel.refl ?_ ?_
                  rotate_left 2
                  simp only [an1, an2]
                  rotate_left
                  iterate 2 (rotate_left; intro ev W hb hR hO hD; have hS := hF W hR; obtain ⟨hb1, hb2, hb3⟩ := hb; simp only [Free.AllDeps, Free.AllOuts, Free.At, al1, al2, al3, al4, al5, and_true] at hO hD; go_simp; rfl)
                  refine Free.Chain.exG ?_ [(16, 29)] [3] 16 false 29 (by kernel_rfl) (by kernel_rfl) rfl (by kernel_rfl) Free.Bel.refl ?_ ?_
                  rotate_left 2
                  simp only [an1, an2]
                  refine Free.Chain.exG ?_ [(17, 30), (16, 29)] [] 16 false 29 (by kernel_rfl) (by kernel_rfl) rfl (by kernel_rfl) Free.Bel.refl ?_ ?_
                  rotate_left 2
                  simp only [an1, an2]
                  refine Free.Chain.exG ?_ [(18, 31), (16, 29), (16, 29)] [] 16 false 29 (by kernel_rfl) (by kernel_rfl) rfl (by kernel_rfl) Free.Bel.refl ?_ ?_
                  rotate_left 2
                  simp only [an1, an2]
                  refine Free.Chain.exG ?_ [(19, 32)] [0] 19 true 32 (by kernel_rfl) (by kernel_rfl) rfl (by kernel_rfl) Free.Bel.refl ?_ ?_
                  rotate_left 2
                  simp only [an1, an2]
                  refine Free.Chain.exG ?_ [(19, 32)] [3] 19 true 32 (by kernel_rfl) (by kernel_rfl) rfl (by kernel_rfl) Free.Bel.refl ?_ ?_
                  rotate_left 2
                  simp only [an1, an2]
                  refine Free.Chain.exG ?_ [(21, 34), (19, 32)] [] 19 true 32 (by kernel_rfl) (by kernel_rfl) rfl (by kernel_rfl) Free.Bel.refl ?_ ?_
                  rotate_left 2
                  simp only [an1, an2]
                  refine Free.Chain.exG ?_ [(20, 33), (22, 35), (19, 32)] [] 19 true 32 (by kernel_rfl) (by kernel_rfl) rfl (by kernel_rfl) Free.Bel.refl ?_ ?_
                  rotate_left 2
                  simp only [an1, an2]
                  refine Free.Chain.exG ?_ [(23, 36), (19, 32)] [] 19 true 32 (by kernel_rfl) (by kernel_rfl) rfl (by kernel_rfl) Free.Bel.refl ?_ ?_
                  rotate_left 2
                  simp only [an1, an2]
                  refine Free.Chain.exG ?_ [(24, 37), (19, 32)] [] 19 true 32 (by kernel_rfl) (by kernel_rfl) rfl (by kernel_rfl) Free.Bel.refl ?_ ?_
                  rotate_left 2
                  simp only [an1, an2]
                  refine Free.Chain.exG ?_ [(19, 32)] [0] 19 true 32 (by kernel_rfl) (by kernel_rfl) rfl (by kernel_rfl) Free.Bel.refl ?_ ?_
                  rotate_left 2
                  simp only [an1, an2]
                  refine Free.Chain.exG ?_ [(19, 32)] [3] 19 true 32 (by kernel_rfl) (by kernel_rfl) rfl (by kernel_rfl) Free.Bel.refl ?_ ?_
                  rotate_left 2
                  simp only [an1, an2]
                  refine Free.Chain.exG ?_ [(26, 39), (27, 40), (19, 32)] [] 19 true 32 (by kernel_rfl) (by kernel_rfl) rfl (by kernel_rfl) Free.Bel.refl ?_ ?_
                  rotate_left 2
                  simp only [an1, an2]
                  refine Free.Chain.exG ?_ [(28, 41), (19, 32)] [] 19 true 32 (by kernel_rfl) (by kernel_rfl) rfl (by kernel_rfl) Free.Bel.refl ?_ ?_
                  rotate_left 2
                  simp only [an1, an2]
                  refine Free.Chain.exG ?_ [(29, 42), (19, 32)] [] 19 true 32 (by kernel_rfl) (by kernel_rfl) rfl (by kernel_rfl) Free.Bel.refl ?_ ?_
                  rotate_left 2
                  simp only [an1, an2]
                  refine Free.Chain.exG ?_ [(25, 38), (30, 43), (19, 32)] [] 19 true 32 (by kernel_rfl) (by kernel_rfl) rfl (by kernel_rfl) Free.Bel.refl ?_ ?_
                  rotate_left 2
                  simp only [an1, an2]
                  refine Free.Chain.exG ?_ [(31, 44), (19, 32), (19, 32)] [] 19 true 32 (by kernel_rfl) (by kernel_rfl) rfl (by kernel_rfl) Free.Bel.refl ?_ ?_
                  rotate_left 2
                  simp only [an1, an2]
                  refine Free.Chain.exG ?_ [(32, 45)] [0] 32 false 45 (by kernel_rfl) (by kernel_rfl) rfl (by kernel_rfl) Free.Bel.refl ?_ ?_
                  rotate_left 2
                  simp only [an1, an2]
                  refine Free.Chain.exG ?_ [(32, 45)] [3] 32 false 45 (by kernel_rfl) (by kernel_rfl) rfl (by kernel_rfl) Free.Bel.refl ?_ ?_
                  rotate_left 2
                  simp only [an1, an2]
                  refine Free.Chain.exG ?_ [(34, 47), (32, 45)] [] 32 false 45 (by kernel_rfl) (by kernel_rfl) rfl (by kernel_rfl) Free.Bel.refl ?_ ?_
                  rotate_left 2
                  simp only [an1, an2]
                  refine Free.Chain.exG ?_ [(33, 46), (35, 48), (32, 45)] [] 32 false 45 (by kernel_rfl) (by kernel_rfl) rfl (by kernel_rfl) Free.Bel.refl ?_ ?_
                  rotate_left 2
                  simp only [an1, an2]
                  refine Free.Chain.exG ?_ [(36, 49), (32, 45)] [] 32 false 45 (by kernel_rfl) (by kernel_rfl) rfl (by kernel_rfl) Free.Bel.refl ?_ ?_
                  rotate_left 2
                  simp only [an1, an2]
                  refine Free.Chain.exG ?_ [(37, 50), (32, 45)] [] 32 false 45 (by kernel_rfl) (by kernel_rfl) rfl (by kernel_rfl) Free.Bel.refl ?_ ?_
                  rotate_left 2
                  simp only [an1, an2]
                  refine Free.Chain.exG ?_ [(32, 45)] [0] 32 false 45 (by kernel_rfl) (by kernel_rfl) rfl (by kernel_rfl) Free.Bel.refl ?_ ?_
                  rotate_left 2
                  simp only [an1, an2]
                  refine Free.Chain.exG ?_ [(32, 45)] [3] 32 false 45 (by kernel_rfl) (by kernel_rfl) rfl (by kernel_rfl) Free.Bel.refl ?_ ?_
                  rotate_left 2
                  simp only [an1, an2]
                  refine Free.Chain.exG ?_ [(39, 52), (40, 53), (32, 45)] [] 32 false 45 (by kernel_rfl) (by kernel_rfl) rfl (by kernel_rfl) Free.Bel.refl ?_ ?_
                  rotate_left 2
                  simp only [an1, an2]
                  refine Free.Chain.exG ?_ [(41, 54), (32, 45)] [] 32 false 45 (by kernel_rfl) (by kernel_rfl) rfl (by kernel_rfl) Free.Bel.refl ?_ ?_
                  rotate_left 2
                  simp only [an1, an2]
                  refine Free.Chain.exG ?_ [(42, 55), (32, 45)] [] 32 false 45 (by kernel_rfl) (by kernel_rfl) rfl (by kernel_rfl) Free.Bel.refl ?_ ?_
                  rotate_left 2
                  simp only [an1, an2]
                  refine Free.Chain.exG ?_ [(38, 51), (43, 56), (32, 45)] [] 32 false 45 (by kernel_rfl) (by kernel_rfl) rfl (by kernel_rfl) Free.Bel.refl ?_ ?_
                  rotate_left 2
                  simp only [an1, an2]
                  refine Free.Chain.exG ?_ [(32, 45), (44, 57), (19, 32)] [] 19 true 32 (by kernel_rfl) (by kernel_rfl) rfl (by kernel_rfl) Free.Bel.refl ?_ ?_
                  rotate_left 2
                  simp only [an1, an2]
                  refine Free.Chain.exG ?_ [(19, 32), (45, 58), (16, 29)] [] 16 false 29 (by kernel_rfl) (by kernel_rfl) rfl (by kernel_rfl) Free.Bel.refl ?_ ?_
                  rotate_left 2
                  simp only [an1, an2]
                  rotate_left
                  iterate 30 (rotate_left; intro ev W hb hR hO hD; have hS := hF W hR; obtain ⟨hb1, hb2, hb3⟩ := hb; simp only [Free.AllDeps, Free.AllOuts, Free.At, al1, al2, al3, al4, al5, and_true] at hO hD; refine ⟨by simp [hD, hkp], ?_⟩; go_simp; rfl)
                  refine Free.Chain.ex ?_ [(16, 29), (46, 59)] [] (by kernel_rfl) (by kernel_rfl) rfl Free.Bel.refl ?_ ?_
                  rotate_left 2
                  simp only [an1, an2]
                  rotate_left
                  rotate_left
                  · (intro ev W hb hR hO hD; have hS := hF W hR; obtain ⟨hb1, hb2, hb3⟩ := hb; simp only [Free.AllDeps, Free.AllOuts, Free.At, al1, al2, al3, al4, al5, and_true] at hO hD; go_simp; rfl)
                  intro xs w2 hR hV
                  simp only [Free.AllV, Free.At, List.length_cons, List.length_nil, Nat.reduceAdd, List.getElem?_cons_succ, List.getElem?_cons_zero, true_and] at hV
                  simp only [Free.putsFrom, Act.put, Nat.zero_add, Nat.reduceAdd, hV, List.setIfInBounds_toArray, List.set_cons_succ, List.set_cons_zero]
                  have hB2 := bt hB (hK0 _ hR)
                  clear hR hV hF hK0
                  go_wp2_with fail
                  go_ret
                  exact ⟨rfl, hB2⟩
                · have g2 : decide (y < p) = false := decide_eq_false h4
                  have hnext : Hid (agreedFrom x y (xs.drop (k + 1)) = r) := by
                    show _ = _
                    rw [← hst.out]
                    have i1 : inB (f + 1) 100 [x] = true := by simp [inB]; omega
                    have i2 : inB p 1000000 [y] = true := by simp [inB]; omega
                    rw [i1, i2]; rfl
                  have hF : ∀ W, Free.Bel wr.drew W → W.cell? ⟨b, off + k * 2, none⟩ = some (.int .i64 x) ∧ W.cell? ⟨b, off + k * 2 + 1, none⟩ = some (.int .i64 y) ∧ W.cell? ⟨b, off + j * 2, none⟩ = some (.int .i64 f) ∧ W.cell? ⟨b, off + j * 2 + 1, none⟩ = some (.int .i64 p) := fun W hW => ⟨keepsB (hK0 W hW) c0, keepsB (hK0 W hW) c1, keepsB (hK0 W hW) c2, keepsB (hK0 W hW) c3⟩
                  go_wp2_with fail
                  refine Free.wp_free (R := Free.Bel) (by kernel_rfl) (by kernel_rfl) Free.Bel.refl Free.Bel.trans ?_
                  refine Free.Chain.ex ?_ [] [0] (by kernel_rfl) (by kernel_rfl) rfl Free.Bel.refl ?_ ?_
                  rotate_left 2
                  simp only [an1, an2]
                  refine Free.Chain.ex ?_ [] [3] (by kernel_rfl) (by kernel_rfl) rfl Free.Bel.refl ?_ ?_
                  rotate_left 2
                  simp only [an1, an2]
                  refine Free.Chain.ex ?_ [(0, 13), (1, 14)] [] (by kernel_rfl) (by kernel_rfl) rfl Free.Bel.refl ?_ ?_
                  rotate_left 2
                  simp only [an1, an2]
                  refine Free.Chain.ex ?_ [(2, 15)] [] (by kernel_rfl) (by kernel_rfl) rfl Free.Bel.refl ?_ ?_
                  rotate_left 2
                  simp only [an1, an2]
                  refine Free.Chain.ex ?_ [(3, 16)] [] (by kernel_rfl) (by kernel_rfl) rfl Free.Bel.refl ?_ ?_
                  rotate_left 2
                  simp only [an1, an2]
                  rotate_left
                  iterate 5 (rotate_left; intro ev W hb hR hO hD; have hS := hF W hR; obtain ⟨hb1, hb2, hb3⟩ := hb; simp only [Free.AllDeps, Free.AllOuts, Free.At, al1, al2, al3, al4, al5, and_true] at hO hD; go_simp; rfl)
                  refine Free.Chain.pr (fun v _ => v = .bool true) [(4, 17)] [] (by kernel_rfl) (by kernel_rfl) rfl (fun _ _ _ _ h => h) ?_ ?_
                  · (intro ev W hb hR hO hD; have hS := hF W hR; obtain ⟨hb1, hb2, hb3⟩ := hb; simp only [Free.AllDeps, Free.AllOuts, Free.At, al1, al2, al3, al4, al5, and_true] at hO hD; go_simp; refine yields_enter ?_; (with_reducible refine (within_any x 1 100 true _ H1.out).mono ?_); rintro e W2 ⟨rfl, rfl⟩; exact ⟨_, rfl, Free.Bel.refl _, rfl⟩)
                  simp only [an1, an2]
                  refine Free.Chain.ex ?_ [(5, 18)] [] (by kernel_rfl) (by kernel_rfl) rfl Free.Bel.refl ?_ ?_
                  rotate_left 2
                  simp only [an1, an2]
                  refine Free.Chain.ex ?_ [(6, 19), (5, 18)] [] (by kernel_rfl) (by kernel_rfl) rfl Free.Bel.refl ?_ ?_
                  rotate_left 2
                  simp only [an1, an2]
                  rotate_left
                  iterate 2 (rotate_left; intro ev W hb hR hO hD; have hS := hF W hR; obtain ⟨hb1, hb2, hb3⟩ := hb; simp only [Free.AllDeps, Free.AllOuts, Free.At, al1, al2, al3, al4, al5, and_true] at hO hD; go_simp; rfl)
                  refine Free.Chain.exG ?_ [(7, 20)] [0] 7 false 20 (by kernel_rfl) (by kernel_rfl) rfl (by kernel_rfl) Free.Bel.refl ?_ ?_
                  rotate_left 2
                  simp only [an1, an2]
                  refine Free.Chain.exG ?_ [(7, 20)] [3] 7 false 20 (by kernel_rfl) (by kernel_rfl) rfl (by kernel_rfl) Free.Bel.refl ?_ ?_
                  rotate_left 2
                  simp only [an1, an2]
                  refine Free.Chain.exG ?_ [(8, 21), (9, 22), (7, 20)] [] 7 false 20 (by kernel_rfl) (by kernel_rfl) rfl (by kernel_rfl) Free.Bel.refl ?_ ?_
                  rotate_left 2
                  simp only [an1, an2]
                  refine Free.Chain.exG ?_ [(10, 23), (7, 20)] [] 7 false 20 (by kernel_rfl) (by kernel_rfl) rfl (by kernel_rfl) Free.Bel.refl ?_ ?_
                  rotate_left 2
                  simp only [an1, an2]
                  refine Free.Chain.exG ?_ [(11, 24), (7, 20)] [] 7 false 20 (by kernel_rfl) (by kernel_rfl) rfl (by kernel_rfl) Free.Bel.refl ?_ ?_
                  rotate_left 2
                  simp only [an1, an2]
                  rotate_left
                  iterate 5 (rotate_left; intro ev W hb hR hO hD; have hS := hF W hR; obtain ⟨hb1, hb2, hb3⟩ := hb; simp only [Free.AllDeps, Free.AllOuts, Free.At, al1, al2, al3, al4, al5, and_true] at hO hD; refine ⟨by simp [hD, hkp], ?_⟩; go_simp; rfl)
                  refine Free.Chain.prG (fun v _ => v = .bool true) [(12, 25), (7, 20), (7, 20)] [] 7 false 20 (by kernel_rfl) (by kernel_rfl) rfl (by kernel_rfl) (fun _ _ _ _ h => h) ?_ ?_
                  · (intro ev W hb hR hO hD; have hS := hF W hR; obtain ⟨hb1, hb2, hb3⟩ := hb; simp only [Free.AllDeps, Free.AllOuts, Free.At, al1, al2, al3, al4, al5, and_true] at hO hD; refine ⟨by simp [hD, hkp], ?_⟩; go_simp; refine yields_enter ?_; (with_reducible refine (within_any y 0 1000000 true _ H2.out).mono ?_); rintro e W2 ⟨rfl, rfl⟩; exact ⟨_, rfl, Free.Bel.refl _, rfl⟩)
                  simp only [an1, an2]
                  refine Free.Chain.exG ?_ [(13, 26), (7, 20)] [] 7 false 20 (by kernel_rfl) (by kernel_rfl) rfl (by kernel_rfl) Free.Bel.refl ?_ ?_
                  rotate_left 2
                  simp only [an1, an2]
                  rotate_left
                  rotate_left
                  · (intro ev W hb hR hO hD; have hS := hF W hR; obtain ⟨hb1, hb2, hb3⟩ := hb; simp only [Free.AllDeps, Free.AllOuts, Free.At, al1, al2, al3, al4, al5, and_true] at hO hD; refine ⟨by simp [hD, hkp], ?_⟩; go_simp; rfl)
                  refine Free.Chain.ex ?_ [(7, 20), (14, 27)] [] (by kernel_rfl) (by kernel_rfl) rfl Free.Bel.refl ?_ ?_
                  rotate_left 2
                  simp only [an1, an2]
                  refine Free.Chain.ex ?_ [(15, 28), (13, 26)] [] (by kernel_rfl) (by kernel_rfl) rfl Free.Bel.refl ?_ ?_
                  rotate_left 2
                  simp only [an1, an2]
                  rotate_left
                  iterate 2 (rotate_left; intro ev W hb hR hO hD; have hS := hF W hR; obtain ⟨hb1, hb2, hb3⟩ := hb; simp only [Free.AllDeps, Free.AllOuts, Free.At, al1, al2, al3, al4, al5, and_true] at hO hD; go_simp; rfl)
                  refine Free.Chain.exG ?_ [(16, 29)] [3] 16 false 29 (by kernel_rfl) (by kernel_rfl) rfl (by kernel_rfl) Free.Bel.refl ?_ ?_
                  rotate_left 2
                  simp only [an1, an2]
                  refine Free.Chain.exG ?_ [(17, 30), (16, 29)] [] 16 false 29 (by kernel_rfl) (by kernel_rfl) rfl (by kernel_rfl) Free.Bel.refl ?_ ?_
                  rotate_left 2
                  simp only [an1, an2]
                  refine Free.Chain.exG ?_ [(18, 31), (16, 29), (16, 29)] [] 16 false 29 (by kernel_rfl) (by kernel_rfl) rfl (by kernel_rfl) Free.Bel.refl ?_ ?_
                  rotate_left 2
                  simp only [an1, an2]
                  refine Free.Chain.exG ?_ [(19, 32)] [0] 19 true 32 (by kernel_rfl) (by kernel_rfl) rfl (by kernel_rfl) Free.Bel.refl ?_ ?_
                  rotate_left 2
                  simp only [an1, an2]
                  refine Free.Chain.exG ?_ [(19, 32)] [3] 19 true 32 (by kernel_rfl) (by kernel_rfl) rfl (by kernel_rfl) Free.Bel.refl ?_ ?_
                  rotate_left 2
                  simp only [an1, an2]
                  refine Free.Chain.exG ?_ [(21, 34), (19, 32)] [] 19 true 32 (by kernel_rfl) (by kernel_rfl) rfl (by kernel_rfl) Free.Bel.refl ?_ ?_
                  rotate_left 2
                  simp only [an1, an2]
                  refine Free.Chain.exG ?_ [(20, 33), (22, 35), (19, 32)] [] 19 true 32 (by kernel_rfl) (by kernel_rfl) rfl (by kernel_rfl) Free.Bel.refl ?_ ?_
                  rotate_left 2
                  simp only [an1, an2]
                  refine Free.Chain.exG ?_ [(23, 36), (19, 32)] [] 19 true 32 (by kernel_rfl) (by kernel_rfl) rfl (by kernel_rfl) Free.Bel.refl ?_ ?_
                  rotate_left 2
                  simp only [an1, an2]
                  refine Free.Chain.exG ?_ [(24, 37), (19, 32)] [] 19 true 32 (by kernel_rfl) (by kernel_rfl) rfl (by kernel_rfl) Free.Bel.refl ?_ ?_
                  rotate_left 2
                  simp only [an1, an2]
                  refine Free.Chain.exG ?_ [(19, 32)] [0] 19 true 32 (by kernel_rfl) (by kernel_rfl) rfl (by kernel_rfl) Free.Bel.refl ?_ ?_
                  rotate_left 2
                  simp only [an1, an2]
                  refine Free.Chain.exG ?_ [(19, 32)] [3] 19 true 32 (by kernel_rfl) (by kernel_rfl) rfl (by kernel_rfl) Free.Bel.refl ?_ ?_
                  rotate_left 2
                  simp only [an1, an2]
                  refine Free.Chain.exG ?_ [(26, 39), (27, 40), (19, 32)] [] 19 true 32 (by kernel_rfl) (by kernel_rfl) rfl (by kernel_rfl) Free.Bel.refl ?_ ?_
                  rotate_left 2
                  simp only [an1, an2]
                  refine Free.Chain.exG ?_ [(28, 41), (19, 32)] [] 19 true 32 (by kernel_rfl) (by kernel_rfl) rfl (by kernel_rfl) Free.Bel.refl ?_ ?_
                  rotate_left 2
                  simp only [an1, an2]
                  refine Free.Chain.exG ?_ [(29, 42), (19, 32)] [] 19 true 32 (by kernel_rfl) (by kernel_rfl) rfl (by kernel_rfl) Free.Bel.refl ?_ ?_
                  rotate_left 2
                  simp only [an1, an2]
                  refine Free.Chain.exG ?_ [(25, 38), (30, 43), (19, 32)] [] 19 true 32 (by kernel_rfl) (by kernel_rfl) rfl (by kernel_rfl) Free.Bel.refl ?_ ?_
                  rotate_left 2
                  simp only [an1, an2]
                  refine Free.Chain.exG ?_ [(31, 44), (19, 32), (19, 32)] [] 19 true 32 (by kernel_rfl) (by kernel_rfl) rfl (by kernel_rfl) Free.Bel.refl ?_ ?_
                  rotate_left 2
                  simp only [an1, an2]
                  refine Free.Chain.exG ?_ [(32, 45)] [0] 32 false 45 (by kernel_rfl) (by kernel_rfl) rfl (by kernel_rfl) Free.Bel.refl ?_ ?_
                  rotate_left 2
                  simp only [an1, an2]
                  refine Free.Chain.exG ?_ [(32, 45)] [3] 32 false 45 (by kernel_rfl) (by kernel_rfl) rfl (by kernel_rfl) Free.Bel.refl ?_ ?_
                  rotate_left 2
                  simp only [an1, an2]
                  refine Free.Chain.exG ?_ [(34, 47), (32, 45)] [] 32 false 45 (by kernel_rfl) (by kernel_rfl) rfl (by kernel_rfl) Free.Bel.refl ?_ ?_
                  rotate_left 2
                  simp only [an1, an2]
                  refine Free.Chain.exG ?_ [(33, 46), (35, 48), (32, 45)] [] 32 false 45 (by kernel_rfl) (by kernel_rfl) rfl (by kernel_rfl) Free.Bel.refl ?_ ?_
                  rotate_left 2
                  simp only [an1, an2]
                  refine Free.Chain.exG ?_ [(36, 49), (32, 45)] [] 32 false 45 (by kernel_rfl) (by kernel_rfl) rfl (by kernel_rfl) Free.Bel.refl ?_ ?_
                  rotate_left 2
                  simp only [an1, an2]
                  refine Free.Chain.exG ?_ [(37, 50), (32, 45)] [] 32 false 45 (by kernel_rfl) (by kernel_rfl) rfl (by kernel_rfl) Free.Bel.refl ?_ ?_
                  rotate_left 2
                  simp only [an1, an2]
                  refine Free.Chain.exG ?_ [(32, 45)] [0] 32 false 45 (by kernel_rfl) (by kernel_rfl) rfl (by kernel_rfl) Free.Bel.refl ?_ ?_
                  rotate_left 2
                  simp only [an1, an2]
                  refine Free.Chain.exG ?_ [(32, 45)] [3] 32 false 45 (by kernel_rfl) (by kernel_rfl) rfl (by kernel_rfl) Free.Bel.refl ?_ ?_
                  rotate_left 2
                  simp only [an1, an2]
                  refine Free.Chain.exG ?_ [(39, 52), (40, 53), (32, 45)] [] 32 false 45 (by kernel_rfl) (by kernel_rfl) rfl (by kernel_rfl) Free.Bel.refl ?_ ?_
                  rotate_left 2
                  simp only [an1, an2]
                  refine Free.Chain.exG ?_ [(41, 54), (32, 45)] [] 32 false 45 (by kernel_rfl) (by kernel_rfl) rfl (by kernel_rfl) Free.Bel.refl ?_ ?_
                  rotate_left 2
                  simp only [an1, an2]
                  refine Free.Chain.exG ?_ [(42, 55), (32, 45)] [] 32 false 45 (by kernel_rfl) (by kernel_rfl) rfl (by kernel_rfl) Free.Bel.refl ?_ ?_
                  rotate_left 2
                  simp only [an1, an2]
                  refine Free.Chain.exG ?_ [(38, 51), (43, 56), (32, 45)] [] 32 false 45 (by kernel_rfl) (by kernel_rfl) rfl (by kernel_rfl) Free.Bel.refl ?_ ?_
                  rotate_left 2
                  simp only [an1, an2]
                  refine Free.Chain.exG ?_ [(32, 45), (44, 57), (19, 32)] [] 19 true 32 (by kernel_rfl) (by kernel_rfl) rfl (by kernel_rfl) Free.Bel.refl ?_ ?_
                  rotate_left 2
                  simp only [an1, an2]
                  refine Free.Chain.exG ?_ [(19, 32), (45, 58), (16, 29)] [] 16 false 29 (by kernel_rfl) (by kernel_rfl) rfl (by kernel_rfl) Free.Bel.refl ?_ ?_
                  rotate_left 2
                  simp only [an1, an2]
                  rotate_left
                  iterate 30 (rotate_left; intro ev W hb hR hO hD; have hS := hF W hR; obtain ⟨hb1, hb2, hb3⟩ := hb; simp only [Free.AllDeps, Free.AllOuts, Free.At, al1, al2, al3, al4, al5, and_true] at hO hD; refine ⟨by simp [hD, hkp], ?_⟩; go_simp; rfl)
                  refine Free.Chain.ex ?_ [(16, 29), (46, 59)] [] (by kernel_rfl) (by kernel_rfl) rfl Free.Bel.refl ?_ ?_
                  rotate_left 2
                  simp only [an1, an2]
                  rotate_left
                  rotate_left
                  · (intro ev W hb hR hO hD; have hS := hF W hR; obtain ⟨hb1, hb2, hb3⟩ := hb; simp only [Free.AllDeps, Free.AllOuts, Free.At, al1, al2, al3, al4, al5, and_true] at hO hD; go_simp; rfl)
                  intro xs w2 hR hV
                  simp only [Free.AllV, Free.At, List.length_cons, List.length_nil, Nat.reduceAdd, List.getElem?_cons_succ, List.getElem?_cons_zero, true_and] at hV
                  simp only [Free.putsFrom, Act.put, Nat.zero_add, Nat.reduceAdd, hV, List.setIfInBounds_toArray, List.set_cons_succ, List.set_cons_zero]
                  have hB2 := bt hB (hK0 _ hR)
                  clear hR hV hF hK0
                  go_wp2_with fail
                  go_roundw
                  case rel => exact ⟨k + 1, x, y, by omega, by go_num, by omega, by omega, hnext, fun h => by omega, fun j9 h9 e9 => (by obtain rfl : j9 = k := (by omega); exact HX.out), hB2⟩
                  case measure => simp [intOf]; omega
      · obtain rfl : k = xs.length := by omega
        have hrt : r = true := by
          rw [← HAG.out, List.drop_length]; rfl
        subst hrt
        have k9 : decide ((xs.length : Int) < xs.length) = false := decide_eq_false (by omega)
        go_wp2_with fail
        go_ret
        exact ⟨rfl, hB⟩
  · have k0 : decide (5 < (xs.length : Int)) = true := decide_eq_true (by omega)
    have hrf : r = false := by
      rw [← hr.out, agreedE]
      cases h : agreedFrom 0 0 xs
      · simp
      · have h5 : decide ((xs.length : Int) ≤ 5) = false := decide_eq_false (by omega)
        simp [unlessV, h5]
    subst hrf
    go_enter Tryd.func35, Tryd.ntmps35
    go_wp2_with fail
    go_ret
    exact ⟨rfl, Below.refl _ _⟩
end Go.Proofs.YtdiclofeggkjcaaDoor

/- Double rules lie between two rules. No walk here. -/
namespace Go.Proofs.YtdiclofeggkjcaaDoor
set_option linter.unusedSimpArgs false
set_option linter.unusedVariables false
open Go.RowKit Go.Proofs.YtdiclofeggkjcaaDoor.ML Go.Proofs.YtdiclofeggkjcaaDoor.Samp

theorem restI_le (N D F A S T : Int) (k : Nat) (h0 : 0 ≤ D) (h1 : D ≤ N) (hF : 0 ≤ F ∧ F ≤ N) (hS : 0 ≤ S) (hw : waysI N D F k ≠ 0) : 0 ≤ restI N D F A S T k ∧ restI N D F A S T k ≤ chI (N - F) S := by
  have h := ways_ne N D F k h0 h1 hw
  unfold restI
  split
  · exact ⟨(chI_pow (N - F) S (by omega)).1, Int.le_refl _⟩
  · exact fewI_le (N - F) (D - k) S (by omega) (by omega) hS _
/-- What a double rule accepts is at most what its last number does. -/
theorem accI_few (N D F A S T : Int) (h0 : 0 ≤ D) (h1 : D ≤ N) (hF : 0 ≤ F ∧ F ≤ N) (hS : 0 ≤ S) : ∀ k : Nat, 0 ≤ accI N D F A S T k ∧ accI N D F A S T k ≤ fewI N D F k * chI (N - F) S
  | 0 => by simp [accI, fewI, midI]
  | k + 1 => by
    obtain ⟨a1, a2⟩ := accI_few N D F A S T h0 h1 hF hS k
    have hw := waysI_nonneg N D F k h0 h1
    rw [accI, fewI_succ, Int.add_mul]
    by_cases h : waysI N D F k = 0
    · rw [h]; simp; omega
    · have hr := restI_le N D F A S T k h0 h1 hF hS h
      have m1 := Int.mul_nonneg hw hr.1
      have m2 := Int.mul_le_mul_of_nonneg_left hr.2 hw
      omega
/-- .. and at least what its first number does. -/
theorem accI_least (N D F A S T : Int) (h0 : 0 ≤ D) (h1 : D ≤ N) (hF : 0 ≤ F ∧ F ≤ N) (hS : 0 ≤ S) : ∀ k : Nat, fewI N D F (min k (A + 1).toNat) * chI (N - F) S ≤ accI N D F A S T k
  | 0 => by simp [accI, fewI, midI]
  | k + 1 => by
    have ih := accI_least N D F A S T h0 h1 hF hS k
    have hw := waysI_nonneg N D F k h0 h1
    rw [accI]
    by_cases hk : (k : Int) ≤ A
    · rw [show min (k + 1) (A + 1).toNat = k + 1 by omega, fewI_succ, Int.add_mul]
      rw [show min k (A + 1).toNat = k by omega] at ih
      have : restI N D F A S T k = chI (N - F) S := by rw [restI, if_pos hk]
      rw [this]; omega
    · rw [show min (k + 1) (A + 1).toNat = min k (A + 1).toNat by omega]
      by_cases h : waysI N D F k = 0
      · rw [h]; simp; exact ih
      · have hr := restI_le N D F A S T k h0 h1 hF hS h
        have m1 := Int.mul_nonneg hw hr.1
        omega
/-- Without second bags. -/
theorem accI_zero (N D F A T : Int) (h0 : 0 ≤ D) (h1 : D ≤ N) (hF : 0 ≤ F ∧ F ≤ N) (hA : 0 ≤ A) (hAT : A ≤ T) : ∀ k : Nat, accI N D F A 0 T k = fewI N D F (min k (T + 1).toNat)
  | 0 => by simp [accI, fewI, midI]
  | k + 1 => by
    rw [accI, accI_zero N D F A T h0 h1 hF hA hAT k]
    by_cases h : waysI N D F k = 0
    · rw [h, Int.zero_mul, Int.add_zero]
      by_cases hk : (k : Int) ≤ T
      · rw [show min (k + 1) (T + 1).toNat = k + 1 by omega, fewI_succ, h, show min k (T + 1).toNat = k by omega]; omega
      · rw [show min (k + 1) (T + 1).toNat = min k (T + 1).toNat by omega]
    · have hn := ways_ne N D F k h0 h1 h
      have hr : restI N D F A 0 T k = if (k : Int) ≤ T then 1 else 0 := by
        unfold restI
        by_cases hk : (k : Int) ≤ A
        · rw [if_pos hk, if_pos (by omega), chI_zero]
        · rw [if_neg hk]
          by_cases hk2 : (k : Int) ≤ T
          · rw [if_pos hk2, show (min 0 (T - (k : Int)) + 1).toNat = 0 + 1 by omega, fewI_succ]
            simp [fewI, midI, waysI, chI_zero]
          · rw [if_neg hk2, show (min 0 (T - (k : Int)) + 1).toNat = 0 by omega]
            simp [fewI, midI]
      rw [hr]
      by_cases hk : (k : Int) ≤ T
      · rw [if_pos hk, show min (k + 1) (T + 1).toNat = k + 1 by omega, fewI_succ, show min k (T + 1).toNat = k by omega]; omega
      · rw [if_neg hk, show min (k + 1) (T + 1).toNat = min k (T + 1).toNat by omega]; omega
theorem low_spec (m all p q : Int) (h0 : 0 ≤ m) (h2 : 0 < all) (hv : partV m.toNat all.toNat = i2 p q) : ∃ g, 0 < g ∧ m = g * p ∧ all = g * q ∧ 1 ≤ q ∧ q ≤ all ∧ 0 ≤ p ∧ p ≤ m := by
  obtain ⟨a, rfl⟩ := Int.eq_ofNat_of_zero_le h0
  obtain ⟨b, rfl⟩ := Int.eq_ofNat_of_zero_le (Int.le_of_lt h2)
  simp only [partV, lowest, Int.toNat_natCast, i2, Value.agg.injEq, Array.mk.injEq, List.cons.injEq, Value.int.injEq, true_and, and_true] at hv
  obtain ⟨rfl, rfl⟩ := hv
  have hb : 0 < b := by omega
  have hg : 0 < Nat.gcd a b := Nat.gcd_pos_of_pos_right a hb
  have hd1 := Nat.gcd_dvd_left a b
  have hd2 := Nat.gcd_dvd_right a b
  generalize hge : Nat.gcd a b = g at *
  obtain ⟨x, rfl⟩ := hd1
  obtain ⟨y, rfl⟩ := hd2
  rw [Nat.mul_div_cancel_left _ hg, Nat.mul_div_cancel_left _ hg]
  have hy : 0 < y := Nat.pos_of_mul_pos_left hb
  have hgy : y ≤ g * y := Nat.le_mul_of_pos_left y hg
  have hgx : x ≤ g * x := Nat.le_mul_of_pos_left x hg
  exact ⟨g, by omega, by simp, by simp, by omega, by exact_mod_cast hgy, by omega, by exact_mod_cast hgx⟩
theorem low_le {a b c d p q r s : Int} (ha : 0 ≤ a) (hb : 0 < b) (hc : 0 ≤ c) (hd : 0 < d) (h1 : partV a.toNat b.toNat = i2 p q) (h2 : partV c.toNat d.toNat = i2 r s) (h : a * d ≤ c * b) : p * s ≤ r * q := by
  obtain ⟨g, g1, rfl, rfl, _⟩ := low_spec a b p q ha hb h1
  obtain ⟨k, k1, rfl, rfl, _⟩ := low_spec c d r s hc hd h2
  refine Int.le_of_mul_le_mul_left ?_ (Int.mul_pos g1 k1)
  have e1 : g * k * (p * s) = g * p * (k * s) := by ac_rfl
  have e2 : g * k * (r * q) = k * r * (g * q) := by ac_rfl
  rw [e1, e2]
  exact h
theorem partV_one (n : Int) (h : 0 ≤ n) : partV n.toNat (1 : Int).toNat = i2 n 1 := by
  simp [partV, lowest, Nat.gcd_one_right]
  omega
theorem twice_math (N D F a R S T : Int) (hN : 1 ≤ N ∧ N ≤ 36) (hD : 0 ≤ D ∧ D ≤ N) (hF : 0 ≤ F ∧ F ≤ N) (hS : 0 ≤ S ∧ S ≤ N - F) (ha : 0 ≤ a ∧ a ≤ F) (hR : a + 1 ≤ R ∧ R ≤ F + 1) (hT : a ≤ T) :
    ∃ lp lq hp hq pp pq op oq np nq : Int, mostV N D F a = i2 lp lq ∧ mostV N D F (R - 1) = i2 hp hq ∧ twiceV1 N D F a R S T = i2 pp pq ∧ twiceV2 N D F a R S = i2 op oq ∧ mostV N D F (min (min T R) (R - 1)) = i2 np nq ∧ twiceV1 N D F a R 0 (min T R) = i2 np nq ∧ twiceV2 N D F a R 0 = i2 F 1 ∧
      (lp * pq ≤ pp * lq ∧ pp * hq ≤ hp * pq ∧ F * oq ≤ op * 1 ∧ op * 1 ≤ (F + S) * oq) ∧ ((0 ≤ lp ∧ lp ≤ 9000000000000000000) ∧ 1 ≤ lq ∧ lq ≤ 9000000000000000000) ∧ ((0 ≤ hp ∧ hp ≤ 9000000000000000000) ∧ 1 ≤ hq ∧ hq ≤ 9000000000000000000) ∧ ((0 ≤ pp ∧ pp ≤ 9000000000000000000) ∧ 1 ≤ pq ∧ pq ≤ 9000000000000000000) ∧ ((0 ≤ op ∧ op ≤ 9000000000000000000) ∧ 1 ≤ oq ∧ oq ≤ 9000000000000000000) := by
  have cN := chI_pos N F (by omega) (by omega) (by omega) (by omega)
  have cS := chI_pos (N - F) S (by omega) (by omega) (by omega) (by omega)
  have h33 := chI_three N F S (by omega) (by omega) (by omega)
  have hc12 : 0 < chI N F * chI (N - F) S := Int.mul_pos (by omega) (by omega)
  have hac := accI_few N D F a S T (by omega) (by omega) (by omega) (by omega) R.toNat
  have hal := accI_least N D F a S T (by omega) (by omega) (by omega) (by omega) R.toNat
  have hag := againI_le N D F a (by omega) (by omega) R.toNat
  have hfl := fewI_le N D F (by omega) (by omega) (by omega) R.toNat
  have ea : mostI N D F a = fewI N D F (min R.toNat (a + 1).toNat) := by rw [mostI_few N D F a (by omega) (by omega), show min R.toNat (a + 1).toNat = (a + 1).toNat by omega]
  have er : mostI N D F (R - 1) = fewI N D F R.toNat := by rw [mostI_few N D F (R - 1) (by omega) (by omega), show R - 1 + 1 = R by omega]
  have ml := mostI_le N D F a (by omega) (by omega) (by omega) (by omega)
  have mh := mostI_le N D F (R - 1) (by omega) (by omega) (by omega) (by omega)
  rw [← ea] at hal
  rw [← er] at hac hag hfl
  have hz := accI_zero N D F a (min T R) (by omega) (by omega) (by omega) (by omega) (by omega) R.toNat
  have ez : mostI N D F (min (min T R) (R - 1)) = accI N D F a 0 (min T R) R.toNat := by rw [hz, mostI_few N D F _ (by omega) (by omega)]; congr 1; omega
  obtain ⟨lp, lq, hlp⟩ : ∃ p q, mostV N D F a = i2 p q := ⟨_, _, rfl⟩
  obtain ⟨hp, hq, hhp⟩ : ∃ p q, mostV N D F (R - 1) = i2 p q := ⟨_, _, rfl⟩
  obtain ⟨pp, pq, hpp⟩ : ∃ p q, twiceV1 N D F a R S T = i2 p q := ⟨_, _, rfl⟩
  obtain ⟨op, oq, hop⟩ : ∃ p q, twiceV2 N D F a R S = i2 p q := ⟨_, _, rfl⟩
  obtain ⟨np, nq, hnp⟩ : ∃ p q, mostV N D F (min (min T R) (R - 1)) = i2 p q := ⟨_, _, rfl⟩
  have hnp2 : twiceV1 N D F a R 0 (min T R) = i2 np nq := by rw [← hnp, twiceV1, mostV, ez, chI_zero, Int.mul_one]
  have hsame : twiceV2 N D F a R 0 = i2 F 1 := by
    rw [twiceV2, Int.zero_mul, Int.add_zero, ← partV_one F (by omega)]
    exact partV_cross _ _ _ _ (Int.mul_nonneg (by omega) (by omega)) (by omega) (by omega) (by omega) (by rw [Int.mul_one])
  have k1 : lp * pq ≤ pp * lq := low_le ml.1 (by omega) hac.1 hc12 hlp hpp (by
    have := Int.mul_le_mul_of_nonneg_right hal (show 0 ≤ chI N F by omega)
    have e : mostI N D F a * (chI N F * chI (N - F) S) = mostI N D F a * chI (N - F) S * chI N F := by ac_rfl
    rw [e]; exact this)
  have k2 : pp * hq ≤ hp * pq := low_le hac.1 hc12 mh.1 (by omega) hpp hhp (by
    have := Int.mul_le_mul_of_nonneg_right hac.2 (show 0 ≤ chI N F by omega)
    have e : mostI N D F (R - 1) * (chI N F * chI (N - F) S) = mostI N D F (R - 1) * chI (N - F) S * chI N F := by ac_rfl
    rw [e]; exact this)
  have hsa := Int.mul_nonneg (show (0 : Int) ≤ S by omega) hag.1
  have hsb : S * againI N D F a R.toNat ≤ S * chI N F := Int.mul_le_mul_of_nonneg_left (by omega) (by omega)
  have hfc : 0 ≤ F * chI N F := Int.mul_nonneg (by omega) (by omega)
  have k3 : F * oq ≤ op * 1 := low_le (a := F) (b := 1) (by omega) (by omega) (show 0 ≤ F * chI N F + S * againI N D F a R.toNat by omega) (by omega) (partV_one F (by omega)) hop (by rw [Int.mul_one]; omega)
  have k4 : op * 1 ≤ (F + S) * oq := low_le (c := F + S) (d := 1) (show 0 ≤ F * chI N F + S * againI N D F a R.toNat by omega) (by omega) (by omega) (by omega) hop (partV_one (F + S) (by omega)) (by rw [Int.mul_one, Int.add_mul]; omega)
  obtain ⟨_, _, _, _, l1, l2, l3, l4⟩ := low_spec _ _ lp lq ml.1 (by omega) hlp
  obtain ⟨_, _, _, _, g1, g2, g3, g4⟩ := low_spec _ _ hp hq mh.1 (by omega) hhp
  obtain ⟨_, _, _, _, p1, p2, p3, p4⟩ := low_spec _ _ pp pq hac.1 hc12 hpp
  obtain ⟨_, _, _, _, o1, o2, o3, o4⟩ := low_spec _ _ op oq (show 0 ≤ F * chI N F + S * againI N D F a R.toNat by omega) (by omega) hop
  have hfb : F * chI N F ≤ 36 * 68719476736 := Int.mul_le_mul (by omega) (by omega) (by omega) (by omega)
  have hsc : S * chI N F ≤ 36 * 68719476736 := Int.mul_le_mul (by omega) (by omega) (by omega) (by omega)
  have hab : accI N D F a S T R.toNat ≤ 150094635296999121 := by
    have h1 := Int.mul_le_mul_of_nonneg_right mh.2 (show 0 ≤ chI (N - F) S by omega)
    omega
  have bl : (0 ≤ lp ∧ lp ≤ 9000000000000000000) ∧ 1 ≤ lq ∧ lq ≤ 9000000000000000000 := by omega
  have bh : (0 ≤ hp ∧ hp ≤ 9000000000000000000) ∧ 1 ≤ hq ∧ hq ≤ 9000000000000000000 := by omega
  have bp : (0 ≤ pp ∧ pp ≤ 9000000000000000000) ∧ 1 ≤ pq ∧ pq ≤ 9000000000000000000 := by omega
  have bo : (0 ≤ op ∧ op ≤ 9000000000000000000) ∧ 1 ≤ oq ∧ oq ≤ 9000000000000000000 := by omega
  exact ⟨lp, lq, hp, hq, pp, pq, op, oq, np, nq, hlp, hhp, hpp, hop, hnp, hnp2, hsame, ⟨k1, k2, k3, k4⟩, bl, bh, bp, bo⟩
end Go.Proofs.YtdiclofeggkjcaaDoor

/- What is taken off in the middle: Fair. -/
namespace Go.Proofs.YtdiclofeggkjcaaDoor
set_option linter.unusedSimpArgs false
set_option linter.unusedVariables false
open Go.RowKit Go.Proofs.YtdiclofeggkjcaaDoor.ML Go.Proofs.YtdiclofeggkjcaaDoor.Samp

/-- The error of what is asked. -/
def fairE (N lo hi D o : Int) (xs : List (Int × Int)) : Int := firstE [unlessV (inB lo hi [D]) 2, agreedE xs, unlessV (inB 0 N [o]) 2]
def fairAll (N lo hi D o : Int) (xs : List (Int × Int)) : Value :=
  .tuple (if cargoB N lo hi = false then #[zeroPart, .int .i64 10] else if fairE N lo hi D o xs ≠ 0 then #[zeroPart, .int .i64 (fairE N lo hi D o xs)] else #[partV (midI N D o (fun k => offV xs o k) (o + 1).toNat).toNat (chI N o).toNat, .int .i64 0])
theorem offR_cons (o k : Int) (x : Int × Int × Int) (l : List (Int × Int × Int)) : offR o k (x :: l) = if offB o k x.2 = true then x.2.2 else offR o k l := by
  unfold offR
  rw [List.find?_cons]
  cases offB o k x.2 <;> simp
theorem offV_bound (xs : List (Int × Int)) (o f : Int) (h : ∀ t ∈ xs, 0 ≤ t.2 ∧ t.2 ≤ 1000000) : 0 ≤ offV xs o f ∧ offV xs o f ≤ 1000000 := by
  have key : ∀ l : List (Int × Int × Int), (∀ x ∈ l, 0 ≤ x.2.2 ∧ x.2.2 ≤ 1000000) → 0 ≤ offR o f l ∧ offR o f l ≤ 1000000 := by
    intro l
    induction l with
    | nil => intro _; simp [offR]
    | cons x l ih =>
      intro hl
      rw [offR_cons]
      split
      · exact hl x (by simp)
      · exact ih fun y hy => hl y (by simp [hy])
  exact key _ fun x hx => h _ (revT_mem xs _ (Nat.le_refl _) x hx)
theorem agreedFrom_pence : ∀ (xs : List (Int × Int)) (a b : Int), 0 ≤ b → agreedFrom a b xs = true → ∀ t ∈ xs, 0 ≤ t.2 ∧ t.2 ≤ 1000000
  | [], _, _, _, _, t, ht => by cases ht
  | x :: r, a, b, hb, h, t, ht => by
    simp [agreedFrom, inB] at h
    rcases List.mem_cons.1 ht with rfl | ht
    · omega
    · exact agreedFrom_pence r x.1 x.2 (by omega) h.2.2 t ht
theorem agreedE_pence {xs : List (Int × Int)} (h : agreedE xs = 0) : ∀ t ∈ xs, 0 ≤ t.2 ∧ t.2 ≤ 1000000 := by
  unfold agreedE at h
  split at h
  · cases h
  · rename_i h1
    exact agreedFrom_pence xs 0 0 (by omega) (by simpa using h1)

set_option maxRecDepth 100000 in
set_option maxHeartbeats 1000000 in
theorem fair1_any (xs : List (Int × Int)) (v : Value) (o k : Int) (b1 b2 : Nat) (w : World) (hv : PL xs v w) (h1 : w.cell? ⟨b1, 0, none⟩ = some v) (h2 : w.cell? ⟨b2, 0, none⟩ = some (.int .i64 o)) (hxs : ∀ t ∈ xs, 0 ≤ t.1 ∧ t.1 ≤ 100) (ho : 0 ≤ o ∧ o ≤ 36) (hk : 0 ≤ k ∧ k ≤ 36) :
    Calls Tryd.prog 71 #[.int .i64 k, .pointer (some ⟨b1, 0, none⟩), .pointer (some ⟨b2, 0, none⟩)] w fun e w' => e = .returned (.int .i64 (offV xs o k)) ∧ Below w.heap.size w w' := by
  have h0 := Lib.hid (off_any xs v o k w hv hxs ho hk)
  obtain ⟨pp, cap, rfl, hm, hcells⟩ := hv
  clear hcells
  go_enter Tryd.func71, Tryd.ntmps71
  go_wp2_with fail
  refine h0.out.mono ?_
  rintro e w1 ⟨rfl, hB⟩
  go_wp2_with fail
  go_ret
  exact ⟨rfl, hB⟩

set_option maxRecDepth 100000 in
set_option maxHeartbeats 4000000 in
theorem fair_a (N lo hi D o : Int) (ts : List (Int × Int)) (pp : Option Addr) (cap : Nat) (w : World) (hv : PL ts (.slice pp ts.length cap) w) (hc : cargoB N lo hi = false) :
    Calls Tryd.prog 36 #[.agg #[.int .i64 N, .int .i64 lo, .int .i64 hi], .int .i64 D, .int .i64 o, .slice pp ts.length cap] w fun e w' => e = .returned (.tuple #[.agg #[.int .i64 0, .int .i64 0], .int .i64 10]) ∧ Below w.heap.size w w' := by
  have HV := Lib.hid hv
  clear hv
  have hB0 : Below w.heap.size w ((((w.alloc (.cells #[.int .i64 N, .int .i64 lo, .int .i64 hi] 26)).alloc (.cells #[.int .i64 o] 3)).alloc (.cells #[(.slice pp ts.length cap)] 65)).alloc (.cells #[.int .i64 0, .int .i64 0] 29)) := ((((Below.refl _ w).alloc (Nat.le_refl _) _).alloc (by simp) _).alloc (by simp; omega) _).alloc (by simp; omega) _
  have c0_0 : ((((w.alloc (.cells #[.int .i64 N, .int .i64 lo, .int .i64 hi] 26)).alloc (.cells #[.int .i64 o] 3)).alloc (.cells #[(.slice pp ts.length cap)] 65)).alloc (.cells #[.int .i64 0, .int .i64 0] 29)).cell? ⟨w.heap.size, 0, none⟩ = some (.int .i64 N) := by simp [go_sem]
  have c0_1 : ((((w.alloc (.cells #[.int .i64 N, .int .i64 lo, .int .i64 hi] 26)).alloc (.cells #[.int .i64 o] 3)).alloc (.cells #[(.slice pp ts.length cap)] 65)).alloc (.cells #[.int .i64 0, .int .i64 0] 29)).cell? ⟨w.heap.size, 1, none⟩ = some (.int .i64 lo) := by simp [go_sem]
  have c0_2 : ((((w.alloc (.cells #[.int .i64 N, .int .i64 lo, .int .i64 hi] 26)).alloc (.cells #[.int .i64 o] 3)).alloc (.cells #[(.slice pp ts.length cap)] 65)).alloc (.cells #[.int .i64 0, .int .i64 0] 29)).cell? ⟨w.heap.size, 2, none⟩ = some (.int .i64 hi) := by simp [go_sem]
  have c1_0 : ((((w.alloc (.cells #[.int .i64 N, .int .i64 lo, .int .i64 hi] 26)).alloc (.cells #[.int .i64 o] 3)).alloc (.cells #[(.slice pp ts.length cap)] 65)).alloc (.cells #[.int .i64 0, .int .i64 0] 29)).cell? ⟨w.heap.size + 1, 0, none⟩ = some (.int .i64 o) := by simp [go_sem]
  have c2_0 : ((((w.alloc (.cells #[.int .i64 N, .int .i64 lo, .int .i64 hi] 26)).alloc (.cells #[.int .i64 o] 3)).alloc (.cells #[(.slice pp ts.length cap)] 65)).alloc (.cells #[.int .i64 0, .int .i64 0] 29)).cell? ⟨w.heap.size + 1 + 1, 0, none⟩ = some ((.slice pp ts.length cap)) := by simp [go_sem]
  have c3_0 : ((((w.alloc (.cells #[.int .i64 N, .int .i64 lo, .int .i64 hi] 26)).alloc (.cells #[.int .i64 o] 3)).alloc (.cells #[(.slice pp ts.length cap)] 65)).alloc (.cells #[.int .i64 0, .int .i64 0] 29)).cell? ⟨w.heap.size + 1 + 1 + 1, 0, none⟩ = some (.int .i64 0) := by simp [go_sem]
  have c3_1 : ((((w.alloc (.cells #[.int .i64 N, .int .i64 lo, .int .i64 hi] 26)).alloc (.cells #[.int .i64 o] 3)).alloc (.cells #[(.slice pp ts.length cap)] 65)).alloc (.cells #[.int .i64 0, .int .i64 0] 29)).cell? ⟨w.heap.size + 1 + 1 + 1, 1, none⟩ = some (.int .i64 0) := by simp [go_sem]
  have f3_0 : ((((w.alloc (.cells #[.int .i64 N, .int .i64 lo, .int .i64 hi] 26)).alloc (.cells #[.int .i64 o] 3)).alloc (.cells #[(.slice pp ts.length cap)] 65)).alloc (.cells #[.int .i64 0, .int .i64 0] 29)).frozen? ⟨w.heap.size + 1 + 1 + 1, 0, none⟩ = false := by simp [go_sem]
  have f3_1 : ((((w.alloc (.cells #[.int .i64 N, .int .i64 lo, .int .i64 hi] 26)).alloc (.cells #[.int .i64 o] 3)).alloc (.cells #[(.slice pp ts.length cap)] 65)).alloc (.cells #[.int .i64 0, .int .i64 0] 29)).frozen? ⟨w.heap.size + 1 + 1 + 1, 1, none⟩ = false := by simp [go_sem]
  go_enter Tryd.func36, Tryd.ntmps36
  go_wp2_with fail
  refine (begun_bad N lo hi _ hc).mono ?_
  rintro e w1 ⟨rfl, hB1⟩
  have K_w1 : Free.Bel ((((w.alloc (.cells #[.int .i64 N, .int .i64 lo, .int .i64 hi] 26)).alloc (.cells #[.int .i64 o] 3)).alloc (.cells #[(.slice pp ts.length cap)] 65)).alloc (.cells #[.int .i64 0, .int .i64 0] 29)) w1 := hB1
  clear hB1
  have hq : w.heap.size + 4 = ((((w.alloc (.cells #[.int .i64 N, .int .i64 lo, .int .i64 hi] 26)).alloc (.cells #[.int .i64 o] 3)).alloc (.cells #[(.slice pp ts.length cap)] 65)).alloc (.cells #[.int .i64 0, .int .i64 0] 29)).heap.size := by simp
  generalize ((((w.alloc (.cells #[.int .i64 N, .int .i64 lo, .int .i64 hi] 26)).alloc (.cells #[.int .i64 o] 3)).alloc (.cells #[(.slice pp ts.length cap)] 65)).alloc (.cells #[.int .i64 0, .int .i64 0] 29)) = W0 at *
  generalize hbb : w.heap.size = bb at *
  have HBB := Lib.hid hbb
  clear hbb
  have HB0 := Lib.hid hB0
  have hq0 : bb + 4 ≤ W0.heap.size := by omega
  clear hB0 hq
  have FA : ∀ W, Free.Bel W0 W → W.cell? ⟨bb, 0, none⟩ = some (.int .i64 N) ∧ W.cell? ⟨bb, 1, none⟩ = some (.int .i64 lo) ∧ W.cell? ⟨bb, 2, none⟩ = some (.int .i64 hi) ∧ W.cell? ⟨bb + 1, 0, none⟩ = some (.int .i64 o) ∧ W.cell? ⟨bb + 1 + 1, 0, none⟩ = some ((.slice pp ts.length cap)) ∧ W.cell? ⟨bb + 1 + 1 + 1, 0, none⟩ = some (.int .i64 0) ∧ W.cell? ⟨bb + 1 + 1 + 1, 1, none⟩ = some (.int .i64 0) ∧ W.frozen? ⟨bb + 1 + 1 + 1, 0, none⟩ = false ∧ W.frozen? ⟨bb + 1 + 1 + 1, 1, none⟩ = false ∧ bb + 4 ≤ W.heap.size := fun W hW => ⟨keepsB hW c0_0, keepsB hW c0_1, keepsB hW c0_2, keepsB hW c1_0, keepsB hW c2_0, keepsB hW c3_0, keepsB hW c3_1, (hW.frozen (p := ⟨bb + 1 + 1 + 1, 0, none⟩) (by simp; omega)).trans f3_0, (hW.frozen (p := ⟨bb + 1 + 1 + 1, 1, none⟩) (by simp; omega)).trans f3_1, Nat.le_trans hq0 hW.size⟩
  clear c0_0 c0_1 c0_2 c1_0 c2_0 c3_0 c3_1 f3_0 f3_1
  go_wp2_with fail
  have hz := FA w1 K_w1
  have n3 := noop2 (w := w1) (b := bb + 1 + 1 + 1) (x := .int .i64 0) (y := .int .i64 0) (by simp [hz]) (by simp [hz])
  rw [n3]
  have hbb := HBB.out
  subst hbb
  exact bodyPost_ret (v := .tuple #[.agg #[.int .i64 0, .int .i64 0], .int .i64 10]) (by simp [results, Tryd.results36, go_sem, hz]) rfl ⟨rfl, HB0.out.trans (K_w1.mono (by omega))⟩

set_option maxRecDepth 100000 in
set_option maxHeartbeats 4000000 in
theorem fair_b (N lo hi D o : Int) (ts : List (Int × Int)) (pp : Option Addr) (cap : Nat) (w : World) (hv : PL ts (.slice pp ts.length cap) w) (hc : cargoB N lo hi = true) (x y u : Int) (q : Bool) (hx : Hid (unlessV (inB lo hi [D]) 2 = x)) (hy : Hid (agreedE ts = y)) (hq : Hid (inB 0 N [o] = q)) (hzz : Hid (unlessV q 2 = u)) (z : Int) (hz : Hid (firstE [x, y, u] = z)) (hz0 : (z != 0) = true) :
    Calls Tryd.prog 36 #[.agg #[.int .i64 N, .int .i64 lo, .int .i64 hi], .int .i64 D, .int .i64 o, .slice pp ts.length cap] w fun e w' => e = .returned (.tuple #[.agg #[.int .i64 0, .int .i64 0], .int .i64 z]) ∧ Below w.heap.size w w' := by
  have HV := Lib.hid hv
  clear hv
  have hB0 : Below w.heap.size w ((((w.alloc (.cells #[.int .i64 N, .int .i64 lo, .int .i64 hi] 26)).alloc (.cells #[.int .i64 o] 3)).alloc (.cells #[(.slice pp ts.length cap)] 65)).alloc (.cells #[.int .i64 0, .int .i64 0] 29)) := ((((Below.refl _ w).alloc (Nat.le_refl _) _).alloc (by simp) _).alloc (by simp; omega) _).alloc (by simp; omega) _
  have c0_0 : ((((w.alloc (.cells #[.int .i64 N, .int .i64 lo, .int .i64 hi] 26)).alloc (.cells #[.int .i64 o] 3)).alloc (.cells #[(.slice pp ts.length cap)] 65)).alloc (.cells #[.int .i64 0, .int .i64 0] 29)).cell? ⟨w.heap.size, 0, none⟩ = some (.int .i64 N) := by simp [go_sem]
  have c0_1 : ((((w.alloc (.cells #[.int .i64 N, .int .i64 lo, .int .i64 hi] 26)).alloc (.cells #[.int .i64 o] 3)).alloc (.cells #[(.slice pp ts.length cap)] 65)).alloc (.cells #[.int .i64 0, .int .i64 0] 29)).cell? ⟨w.heap.size, 1, none⟩ = some (.int .i64 lo) := by simp [go_sem]
  have c0_2 : ((((w.alloc (.cells #[.int .i64 N, .int .i64 lo, .int .i64 hi] 26)).alloc (.cells #[.int .i64 o] 3)).alloc (.cells #[(.slice pp ts.length cap)] 65)).alloc (.cells #[.int .i64 0, .int .i64 0] 29)).cell? ⟨w.heap.size, 2, none⟩ = some (.int .i64 hi) := by simp [go_sem]
  have c1_0 : ((((w.alloc (.cells #[.int .i64 N, .int .i64 lo, .int .i64 hi] 26)).alloc (.cells #[.int .i64 o] 3)).alloc (.cells #[(.slice pp ts.length cap)] 65)).alloc (.cells #[.int .i64 0, .int .i64 0] 29)).cell? ⟨w.heap.size + 1, 0, none⟩ = some (.int .i64 o) := by simp [go_sem]
  have c2_0 : ((((w.alloc (.cells #[.int .i64 N, .int .i64 lo, .int .i64 hi] 26)).alloc (.cells #[.int .i64 o] 3)).alloc (.cells #[(.slice pp ts.length cap)] 65)).alloc (.cells #[.int .i64 0, .int .i64 0] 29)).cell? ⟨w.heap.size + 1 + 1, 0, none⟩ = some ((.slice pp ts.length cap)) := by simp [go_sem]
  have c3_0 : ((((w.alloc (.cells #[.int .i64 N, .int .i64 lo, .int .i64 hi] 26)).alloc (.cells #[.int .i64 o] 3)).alloc (.cells #[(.slice pp ts.length cap)] 65)).alloc (.cells #[.int .i64 0, .int .i64 0] 29)).cell? ⟨w.heap.size + 1 + 1 + 1, 0, none⟩ = some (.int .i64 0) := by simp [go_sem]
  have c3_1 : ((((w.alloc (.cells #[.int .i64 N, .int .i64 lo, .int .i64 hi] 26)).alloc (.cells #[.int .i64 o] 3)).alloc (.cells #[(.slice pp ts.length cap)] 65)).alloc (.cells #[.int .i64 0, .int .i64 0] 29)).cell? ⟨w.heap.size + 1 + 1 + 1, 1, none⟩ = some (.int .i64 0) := by simp [go_sem]
  have f3_0 : ((((w.alloc (.cells #[.int .i64 N, .int .i64 lo, .int .i64 hi] 26)).alloc (.cells #[.int .i64 o] 3)).alloc (.cells #[(.slice pp ts.length cap)] 65)).alloc (.cells #[.int .i64 0, .int .i64 0] 29)).frozen? ⟨w.heap.size + 1 + 1 + 1, 0, none⟩ = false := by simp [go_sem]
  have f3_1 : ((((w.alloc (.cells #[.int .i64 N, .int .i64 lo, .int .i64 hi] 26)).alloc (.cells #[.int .i64 o] 3)).alloc (.cells #[(.slice pp ts.length cap)] 65)).alloc (.cells #[.int .i64 0, .int .i64 0] 29)).frozen? ⟨w.heap.size + 1 + 1 + 1, 1, none⟩ = false := by simp [go_sem]
  go_enter Tryd.func36, Tryd.ntmps36
  go_wp2_with fail
  refine (begun_ok N lo hi _ hc).mono ?_
  rintro e w1 ⟨hb, mb, kb, cb, rfl, hH, hmb, hhb, hB1⟩
  have K_w1 : Free.Bel ((((w.alloc (.cells #[.int .i64 N, .int .i64 lo, .int .i64 hi] 26)).alloc (.cells #[.int .i64 o] 3)).alloc (.cells #[(.slice pp ts.length cap)] 65)).alloc (.cells #[.int .i64 0, .int .i64 0] 29)) w1 := hB1
  have HHB := Lib.hid hhb
  clear hB1 hhb
  have hq : w.heap.size + 4 = ((((w.alloc (.cells #[.int .i64 N, .int .i64 lo, .int .i64 hi] 26)).alloc (.cells #[.int .i64 o] 3)).alloc (.cells #[(.slice pp ts.length cap)] 65)).alloc (.cells #[.int .i64 0, .int .i64 0] 29)).heap.size := by simp
  generalize ((((w.alloc (.cells #[.int .i64 N, .int .i64 lo, .int .i64 hi] 26)).alloc (.cells #[.int .i64 o] 3)).alloc (.cells #[(.slice pp ts.length cap)] 65)).alloc (.cells #[.int .i64 0, .int .i64 0] 29)) = W0 at *
  generalize hbb : w.heap.size = bb at *
  have HBB := Lib.hid hbb
  clear hbb
  have HB0 := Lib.hid hB0
  have hq0 : bb + 4 ≤ W0.heap.size := by omega
  clear hB0 hq
  have FA : ∀ W, Free.Bel W0 W → W.cell? ⟨bb, 0, none⟩ = some (.int .i64 N) ∧ W.cell? ⟨bb, 1, none⟩ = some (.int .i64 lo) ∧ W.cell? ⟨bb, 2, none⟩ = some (.int .i64 hi) ∧ W.cell? ⟨bb + 1, 0, none⟩ = some (.int .i64 o) ∧ W.cell? ⟨bb + 1 + 1, 0, none⟩ = some ((.slice pp ts.length cap)) ∧ W.cell? ⟨bb + 1 + 1 + 1, 0, none⟩ = some (.int .i64 0) ∧ W.cell? ⟨bb + 1 + 1 + 1, 1, none⟩ = some (.int .i64 0) ∧ W.frozen? ⟨bb + 1 + 1 + 1, 0, none⟩ = false ∧ W.frozen? ⟨bb + 1 + 1 + 1, 1, none⟩ = false ∧ bb + 4 ≤ W.heap.size := fun W hW => ⟨keepsB hW c0_0, keepsB hW c0_1, keepsB hW c0_2, keepsB hW c1_0, keepsB hW c2_0, keepsB hW c3_0, keepsB hW c3_1, (hW.frozen (p := ⟨bb + 1 + 1 + 1, 0, none⟩) (by simp; omega)).trans f3_0, (hW.frozen (p := ⟨bb + 1 + 1 + 1, 1, none⟩) (by simp; omega)).trans f3_1, Nat.le_trans hq0 hW.size⟩
  clear c0_0 c0_1 c0_2 c1_0 c2_0 c3_0 c3_1 f3_0 f3_1
  obtain ⟨a0_0, a0_1, a0_2, a1_0, a2_0, a3_0, a3_1, b3_0, b3_1, aq⟩ := FA w1 K_w1
  have hm0 : W0.heap.size ≤ mb := hmb
  have HH1 := Lib.hid hH
  have HHo : ∀ W, Kept mb w1 W → Hold hb N lo hi mb kb cb W := fun W hW => HH1.out.kept hW
  have HC : ∀ W, Kept mb w1 W → W.cell? ⟨hb, 0, none⟩ = some (.int .i64 N) ∧ W.cell? ⟨hb, 1, none⟩ = some (.int .i64 lo) ∧ W.cell? ⟨hb, 2, none⟩ = some (.int .i64 hi) ∧ W.cell? ⟨hb, 3, none⟩ = some (setsV kb cb) ∧ mb < W.heap.size ∧ hb < W.heap.size := fun W hW => ⟨(HHo W hW).bags, (HHo W hW).lo, (HHo W hW).hi, (HHo W hW).sets, (by obtain ⟨l, hl, _⟩ := (HHo W hW).ctr.memo; exact hl.lt), lt_of_cell (HHo W hW).bags⟩
  have FB : ∀ W, Kept mb w1 W → W.cell? ⟨bb, 0, none⟩ = some (.int .i64 N) ∧ W.cell? ⟨bb, 1, none⟩ = some (.int .i64 lo) ∧ W.cell? ⟨bb, 2, none⟩ = some (.int .i64 hi) ∧ W.cell? ⟨bb + 1, 0, none⟩ = some (.int .i64 o) ∧ W.cell? ⟨bb + 1 + 1, 0, none⟩ = some ((.slice pp ts.length cap)) ∧ W.cell? ⟨bb + 1 + 1 + 1, 0, none⟩ = some (.int .i64 0) ∧ W.cell? ⟨bb + 1 + 1 + 1, 1, none⟩ = some (.int .i64 0) ∧ W.frozen? ⟨bb + 1 + 1 + 1, 0, none⟩ = false ∧ W.frozen? ⟨bb + 1 + 1 + 1, 1, none⟩ = false ∧ bb + 4 ≤ W.heap.size := fun W hW => ⟨hW.cell a0_0 (by show _ ≠ mb; simp; omega), hW.cell a0_1 (by show _ ≠ mb; simp; omega), hW.cell a0_2 (by show _ ≠ mb; simp; omega), hW.cell a1_0 (by show _ ≠ mb; simp; omega), hW.cell a2_0 (by show _ ≠ mb; simp; omega), hW.cell a3_0 (by show _ ≠ mb; simp; omega), hW.cell a3_1 (by show _ ≠ mb; simp; omega), (World.frozen?_of_block (w := w1) (a := ⟨bb + 1 + 1 + 1, 0, none⟩) (hW.block _ (by simp; omega) (by simp; omega))).trans b3_0, (World.frozen?_of_block (w := w1) (a := ⟨bb + 1 + 1 + 1, 1, none⟩) (hW.block _ (by simp; omega) (by simp; omega))).trans b3_1, Nat.le_trans aq hW.size⟩
  have HBE := Lib.hid (fun (W : World) (hW : Kept mb w1 W) => HB0.out.trans ((hW.below K_w1 hm0).mono (by omega)))
  have HK : Kept mb w1 w1 := Kept.refl _ _
  have HM := Lib.hid hm0
  clear a0_0 a0_1 a0_2 a1_0 a2_0 a3_0 a3_1 b3_0 b3_1 aq FA hH hmb K_w1
  go_wp2_with fail
  have HV0 := Lib.hid (fun (W : World) (hW : Kept mb w1 W) => HV.out.keeps (HBB.out.symm ▸ HBE.out W hW))
  have hF : ∀ W, Free.Bel w1.drew W → Kept mb w1 W := fun W hW => (HK.drew).trans (.of_below hW)
  refine Free.wp_free (R := Free.Bel) (by kernel_rfl) (by kernel_rfl) Free.Bel.refl Free.Bel.trans ?_
  refine Free.Chain.ex ?_ [] [10] (by kernel_rfl) (by kernel_rfl) rfl Free.Bel.refl ?_ ?_
  rotate_left 2
  simp only [an1, an2]
  refine Free.Chain.ex ?_ [] [1] (by kernel_rfl) (by kernel_rfl) rfl Free.Bel.refl ?_ ?_
  rotate_left 2
  simp only [an1, an2]
  rotate_left
  iterate 2 (rotate_left; intro ev W hb hR hO hD; have hS := hF W hR; obtain ⟨hb1, hb2, hb3⟩ := hb; simp only [Free.AllDeps, Free.AllOuts, Free.At, al1, al2, al3, al4, al5, and_true] at hO hD; go_simp; rfl)
  refine Free.Chain.pr (SlI [D]) [(1, 23)] [] (by kernel_rfl) (by kernel_rfl) rfl (SlI.stable _) ?_ ?_
  · (intro ev W hb hR hO hD; have hS := hF W hR; obtain ⟨hb1, hb2, hb3⟩ := hb; simp only [Free.AllDeps, Free.AllOuts, Free.At, al1, al2, al3, al4, al5, and_true] at hO hD; go_simp; exact ⟨belAlloc _ _, SlI.one _ _ _⟩)
  simp only [an1, an2]
  refine Free.Chain.pr (fun v _ => v = .int .i64 x) [(0, 22), (2, 24)] [] (by kernel_rfl) (by kernel_rfl) rfl (fun _ _ _ _ h => h) ?_ ?_
  · (intro ev W hb hR hO hD; have hS := hF W hR; obtain ⟨hb1, hb2, hb3⟩ := hb; simp only [Free.AllDeps, Free.AllOuts, Free.At, al1, al2, al3, al4, al5, and_true] at hO hD; go_simp; refine yields_enter ?_; (with_reducible refine (may_any hb lo hi [D] _ x _ (by simp [maxLen]) (HHo _ hS).lo (HHo _ hS).hi hD.2 hx.out).mono ?_); rintro e W2 ⟨rfl, hB2⟩; exact ⟨_, rfl, hB2, rfl⟩)
  simp only [an1, an2]
  refine Free.Chain.ex ?_ [] [7] (by kernel_rfl) (by kernel_rfl) rfl Free.Bel.refl ?_ ?_
  rotate_left 2
  simp only [an1, an2]
  rotate_left
  rotate_left
  · (intro ev W hb hR hO hD; have hS := hF W hR; obtain ⟨hb1, hb2, hb3⟩ := hb; simp only [Free.AllDeps, Free.AllOuts, Free.At, al1, al2, al3, al4, al5, and_true] at hO hD; go_simp; rfl)
  refine Free.Chain.pr (fun v _ => v = .int .i64 y) [(4, 26), (3, 25)] [] (by kernel_rfl) (by kernel_rfl) rfl (fun _ _ _ _ h => h) ?_ ?_
  · (intro ev W hb hR hO hD; have hS := hF W hR; obtain ⟨hb1, hb2, hb3⟩ := hb; simp only [Free.AllDeps, Free.AllOuts, Free.At, al1, al2, al3, al4, al5, and_true] at hO hD; go_simp; refine yields_enter ?_; (with_reducible refine (agreed_v ts (.slice pp ts.length cap) _ (HV0.out _ hS) y hy).mono ?_); rintro e W2 ⟨rfl, hB2⟩; exact ⟨_, rfl, hB2, rfl⟩)
  simp only [an1, an2]
  refine Free.Chain.ex ?_ [] [10] (by kernel_rfl) (by kernel_rfl) rfl Free.Bel.refl ?_ ?_
  rotate_left 2
  simp only [an1, an2]
  refine Free.Chain.ex ?_ [(6, 28)] [] (by kernel_rfl) (by kernel_rfl) rfl Free.Bel.refl ?_ ?_
  rotate_left 2
  simp only [an1, an2]
  refine Free.Chain.ex ?_ [(7, 29)] [] (by kernel_rfl) (by kernel_rfl) rfl Free.Bel.refl ?_ ?_
  rotate_left 2
  simp only [an1, an2]
  refine Free.Chain.ex ?_ [(8, 30)] [] (by kernel_rfl) (by kernel_rfl) rfl Free.Bel.refl ?_ ?_
  rotate_left 2
  simp only [an1, an2]
  refine Free.Chain.ex ?_ [(9, 31)] [] (by kernel_rfl) (by kernel_rfl) rfl Free.Bel.refl ?_ ?_
  rotate_left 2
  simp only [an1, an2]
  refine Free.Chain.ex ?_ [] [6] (by kernel_rfl) (by kernel_rfl) rfl Free.Bel.refl ?_ ?_
  rotate_left 2
  simp only [an1, an2]
  rotate_left
  iterate 6 (rotate_left; intro ev W hb hR hO hD; have hS := hF W hR; obtain ⟨hb1, hb2, hb3⟩ := hb; simp only [Free.AllDeps, Free.AllOuts, Free.At, al1, al2, al3, al4, al5, and_true] at hO hD; go_simp; rfl)
  refine Free.Chain.pr (SlI [o]) [(11, 33)] [] (by kernel_rfl) (by kernel_rfl) rfl (SlI.stable _) ?_ ?_
  · (intro ev W hb hR hO hD; have hS := hF W hR; obtain ⟨hb1, hb2, hb3⟩ := hb; simp only [Free.AllDeps, Free.AllOuts, Free.At, al1, al2, al3, al4, al5, and_true] at hO hD; go_simp; exact ⟨belAlloc _ _, SlI.one _ _ _⟩)
  simp only [an1, an2]
  refine Free.Chain.pr (fun v _ => v = .bool q) [(10, 32), (12, 34), (5, 27)] [] (by kernel_rfl) (by kernel_rfl) rfl (fun _ _ _ _ h => h) ?_ ?_
  · (intro ev W hb hR hO hD; have hS := hF W hR; obtain ⟨hb1, hb2, hb3⟩ := hb; simp only [Free.AllDeps, Free.AllOuts, Free.At, al1, al2, al3, al4, al5, and_true] at hO hD; go_simp; refine yields_enter ?_; (with_reducible refine (in_sl _ _ [o] q _ _ (by simp [maxLen]) hq.out hD.2.1).mono ?_); rintro e W2 ⟨rfl, hB2⟩; exact ⟨_, rfl, hB2, rfl⟩)
  simp only [an1, an2]
  refine Free.Chain.pr (fun v _ => v = .int .i64 u) [(13, 35), (13, 35)] [] (by kernel_rfl) (by kernel_rfl) rfl (fun _ _ _ _ h => h) ?_ ?_
  · (intro ev W hb hR hO hD; have hS := hF W hR; obtain ⟨hb1, hb2, hb3⟩ := hb; simp only [Free.AllDeps, Free.AllOuts, Free.At, al1, al2, al3, al4, al5, and_true] at hO hD; go_simp; refine yields_enter ?_; (with_reducible refine (unless_any q 2 u _ hzz.out).mono ?_); rintro e W2 ⟨rfl, rfl⟩; exact ⟨_, rfl, Free.Bel.refl _, rfl⟩)
  simp only [an1, an2]
  refine Free.Chain.pr (SlI [x, y, u]) [(3, 25), (5, 27), (14, 36)] [] (by kernel_rfl) (by kernel_rfl) rfl (SlI.stable _) ?_ ?_
  · (intro ev W hb hR hO hD; have hS := hF W hR; obtain ⟨hb1, hb2, hb3⟩ := hb; simp only [Free.AllDeps, Free.AllOuts, Free.At, al1, al2, al3, al4, al5, and_true] at hO hD; go_simp; exact ⟨belAlloc _ _, SlI.three _ _ _ _ _⟩)
  simp only [an1, an2]
  refine Free.Chain.pr (fun v _ => v = .int .i64 z) [(15, 37), (14, 36)] [] (by kernel_rfl) (by kernel_rfl) rfl (fun _ _ _ _ h => h) ?_ ?_
  · (intro ev W hb hR hO hD; have hS := hF W hR; obtain ⟨hb1, hb2, hb3⟩ := hb; simp only [Free.AllDeps, Free.AllOuts, Free.At, al1, al2, al3, al4, al5, and_true] at hO hD; go_simp; refine yields_enter ?_; (with_reducible refine (first_sl [x, y, u] z _ _ (by simp [maxLen]) hz.out hD.1).mono ?_); rintro e W2 ⟨rfl, rfl⟩; exact ⟨_, rfl, Free.Bel.refl _, rfl⟩)
  simp only [an1, an2]
  refine Free.Chain.ex ?_ [(16, 38), (16, 38), (0, 22), (1, 23), (2, 24), (3, 25), (4, 26), (5, 27), (6, 28), (7, 29), (8, 30), (9, 31), (10, 32), (11, 33), (12, 34), (13, 35), (14, 36), (15, 37), (16, 38)] [] (by kernel_rfl) (by kernel_rfl) rfl Free.Bel.refl ?_ ?_
  rotate_left 2
  simp only [an1, an2]
  rotate_left
  rotate_left
  · (intro ev W hb hR hO hD; have hS := hF W hR; obtain ⟨hb1, hb2, hb3⟩ := hb; simp only [Free.AllDeps, Free.AllOuts, Free.At, al1, al2, al3, al4, al5, and_true] at hO hD; go_simp; rfl)
  intro xs w2 hR hV
  simp only [Free.AllV, Free.At, List.length_cons, List.length_nil, Nat.reduceAdd, List.getElem?_cons_succ, List.getElem?_cons_zero, true_and] at hV
  simp only [Free.putsFrom, Act.put, Nat.zero_add, Nat.reduceAdd, hV, List.setIfInBounds_toArray, List.set_cons_succ, List.set_cons_zero]
  have HK2 := hF w2 hR
  clear hR hV hF HK
  go_wp2_with fail
  have hz9 := FB w2 HK2
  have n3 := noop2 (w := w2) (b := bb + 1 + 1 + 1) (x := .int .i64 0) (y := .int .i64 0) (by simp [hz9]) (by simp [hz9])
  rw [n3]
  have hbb := HBB.out
  subst hbb
  exact bodyPost_ret (v := .tuple #[.agg #[.int .i64 0, .int .i64 0], .int .i64 z]) (by simp [results, Tryd.results36, go_sem, hz9]) rfl ⟨rfl, HBE.out _ HK2⟩

set_option maxRecDepth 100000 in
set_option maxHeartbeats 4000000 in
theorem fair_c (N lo hi D o : Int) (ts : List (Int × Int)) (pp : Option Addr) (cap : Nat) (w : World) (hv : PL ts (.slice pp ts.length cap) w) (hc : cargoB N lo hi = true) (hx : Hid (unlessV (inB lo hi [D]) 2 = 0)) (hy : Hid (agreedE ts = 0)) (hq : Hid (inB 0 N [o] = true)) (hzz : Hid (unlessV true 2 = 0)) (hz : Hid (firstE [0, 0, 0] = 0)) (hD : lo ≤ D ∧ D ≤ hi) (ho : 0 ≤ o ∧ o ≤ N) (px py : Int) (hp : Hid (partV (midI N D o (fun k => offV ts o k) (o + 1).toNat).toNat (chI N o).toNat = .agg #[.int .i64 px, .int .i64 py])) :
    Calls Tryd.prog 36 #[.agg #[.int .i64 N, .int .i64 lo, .int .i64 hi], .int .i64 D, .int .i64 o, .slice pp ts.length cap] w fun e w' => e = .returned (.tuple #[.agg #[.int .i64 px, .int .i64 py], .int .i64 0]) ∧ Below w.heap.size w w' := by
  have hN := (cargoB_iff N lo hi).1 hc
  have HV := Lib.hid hv
  clear hv
  have hB0 : Below w.heap.size w ((((w.alloc (.cells #[.int .i64 N, .int .i64 lo, .int .i64 hi] 26)).alloc (.cells #[.int .i64 o] 3)).alloc (.cells #[(.slice pp ts.length cap)] 65)).alloc (.cells #[.int .i64 0, .int .i64 0] 29)) := ((((Below.refl _ w).alloc (Nat.le_refl _) _).alloc (by simp) _).alloc (by simp; omega) _).alloc (by simp; omega) _
  have c0_0 : ((((w.alloc (.cells #[.int .i64 N, .int .i64 lo, .int .i64 hi] 26)).alloc (.cells #[.int .i64 o] 3)).alloc (.cells #[(.slice pp ts.length cap)] 65)).alloc (.cells #[.int .i64 0, .int .i64 0] 29)).cell? ⟨w.heap.size, 0, none⟩ = some (.int .i64 N) := by simp [go_sem]
  have c0_1 : ((((w.alloc (.cells #[.int .i64 N, .int .i64 lo, .int .i64 hi] 26)).alloc (.cells #[.int .i64 o] 3)).alloc (.cells #[(.slice pp ts.length cap)] 65)).alloc (.cells #[.int .i64 0, .int .i64 0] 29)).cell? ⟨w.heap.size, 1, none⟩ = some (.int .i64 lo) := by simp [go_sem]
  have c0_2 : ((((w.alloc (.cells #[.int .i64 N, .int .i64 lo, .int .i64 hi] 26)).alloc (.cells #[.int .i64 o] 3)).alloc (.cells #[(.slice pp ts.length cap)] 65)).alloc (.cells #[.int .i64 0, .int .i64 0] 29)).cell? ⟨w.heap.size, 2, none⟩ = some (.int .i64 hi) := by simp [go_sem]
  have c1_0 : ((((w.alloc (.cells #[.int .i64 N, .int .i64 lo, .int .i64 hi] 26)).alloc (.cells #[.int .i64 o] 3)).alloc (.cells #[(.slice pp ts.length cap)] 65)).alloc (.cells #[.int .i64 0, .int .i64 0] 29)).cell? ⟨w.heap.size + 1, 0, none⟩ = some (.int .i64 o) := by simp [go_sem]
  have c2_0 : ((((w.alloc (.cells #[.int .i64 N, .int .i64 lo, .int .i64 hi] 26)).alloc (.cells #[.int .i64 o] 3)).alloc (.cells #[(.slice pp ts.length cap)] 65)).alloc (.cells #[.int .i64 0, .int .i64 0] 29)).cell? ⟨w.heap.size + 1 + 1, 0, none⟩ = some ((.slice pp ts.length cap)) := by simp [go_sem]
  have c3_0 : ((((w.alloc (.cells #[.int .i64 N, .int .i64 lo, .int .i64 hi] 26)).alloc (.cells #[.int .i64 o] 3)).alloc (.cells #[(.slice pp ts.length cap)] 65)).alloc (.cells #[.int .i64 0, .int .i64 0] 29)).cell? ⟨w.heap.size + 1 + 1 + 1, 0, none⟩ = some (.int .i64 0) := by simp [go_sem]
  have c3_1 : ((((w.alloc (.cells #[.int .i64 N, .int .i64 lo, .int .i64 hi] 26)).alloc (.cells #[.int .i64 o] 3)).alloc (.cells #[(.slice pp ts.length cap)] 65)).alloc (.cells #[.int .i64 0, .int .i64 0] 29)).cell? ⟨w.heap.size + 1 + 1 + 1, 1, none⟩ = some (.int .i64 0) := by simp [go_sem]
  have f3_0 : ((((w.alloc (.cells #[.int .i64 N, .int .i64 lo, .int .i64 hi] 26)).alloc (.cells #[.int .i64 o] 3)).alloc (.cells #[(.slice pp ts.length cap)] 65)).alloc (.cells #[.int .i64 0, .int .i64 0] 29)).frozen? ⟨w.heap.size + 1 + 1 + 1, 0, none⟩ = false := by simp [go_sem]
  have f3_1 : ((((w.alloc (.cells #[.int .i64 N, .int .i64 lo, .int .i64 hi] 26)).alloc (.cells #[.int .i64 o] 3)).alloc (.cells #[(.slice pp ts.length cap)] 65)).alloc (.cells #[.int .i64 0, .int .i64 0] 29)).frozen? ⟨w.heap.size + 1 + 1 + 1, 1, none⟩ = false := by simp [go_sem]
  go_enter Tryd.func36, Tryd.ntmps36
  go_wp2_with fail
  refine (begun_ok N lo hi _ hc).mono ?_
  rintro e w1 ⟨hb, mb, kb, cb, rfl, hH, hmb, hhb, hB1⟩
  have K_w1 : Free.Bel ((((w.alloc (.cells #[.int .i64 N, .int .i64 lo, .int .i64 hi] 26)).alloc (.cells #[.int .i64 o] 3)).alloc (.cells #[(.slice pp ts.length cap)] 65)).alloc (.cells #[.int .i64 0, .int .i64 0] 29)) w1 := hB1
  have HHB := Lib.hid hhb
  clear hB1 hhb
  have hq : w.heap.size + 4 = ((((w.alloc (.cells #[.int .i64 N, .int .i64 lo, .int .i64 hi] 26)).alloc (.cells #[.int .i64 o] 3)).alloc (.cells #[(.slice pp ts.length cap)] 65)).alloc (.cells #[.int .i64 0, .int .i64 0] 29)).heap.size := by simp
  generalize ((((w.alloc (.cells #[.int .i64 N, .int .i64 lo, .int .i64 hi] 26)).alloc (.cells #[.int .i64 o] 3)).alloc (.cells #[(.slice pp ts.length cap)] 65)).alloc (.cells #[.int .i64 0, .int .i64 0] 29)) = W0 at *
  generalize hbb : w.heap.size = bb at *
  have HBB := Lib.hid hbb
  clear hbb
  have HB0 := Lib.hid hB0
  have hq0 : bb + 4 ≤ W0.heap.size := by omega
  clear hB0 hq
  have FA : ∀ W, Free.Bel W0 W → W.cell? ⟨bb, 0, none⟩ = some (.int .i64 N) ∧ W.cell? ⟨bb, 1, none⟩ = some (.int .i64 lo) ∧ W.cell? ⟨bb, 2, none⟩ = some (.int .i64 hi) ∧ W.cell? ⟨bb + 1, 0, none⟩ = some (.int .i64 o) ∧ W.cell? ⟨bb + 1 + 1, 0, none⟩ = some ((.slice pp ts.length cap)) ∧ W.cell? ⟨bb + 1 + 1 + 1, 0, none⟩ = some (.int .i64 0) ∧ W.cell? ⟨bb + 1 + 1 + 1, 1, none⟩ = some (.int .i64 0) ∧ W.frozen? ⟨bb + 1 + 1 + 1, 0, none⟩ = false ∧ W.frozen? ⟨bb + 1 + 1 + 1, 1, none⟩ = false ∧ bb + 4 ≤ W.heap.size := fun W hW => ⟨keepsB hW c0_0, keepsB hW c0_1, keepsB hW c0_2, keepsB hW c1_0, keepsB hW c2_0, keepsB hW c3_0, keepsB hW c3_1, (hW.frozen (p := ⟨bb + 1 + 1 + 1, 0, none⟩) (by simp; omega)).trans f3_0, (hW.frozen (p := ⟨bb + 1 + 1 + 1, 1, none⟩) (by simp; omega)).trans f3_1, Nat.le_trans hq0 hW.size⟩
  clear c0_0 c0_1 c0_2 c1_0 c2_0 c3_0 c3_1 f3_0 f3_1
  obtain ⟨a0_0, a0_1, a0_2, a1_0, a2_0, a3_0, a3_1, b3_0, b3_1, aq⟩ := FA w1 K_w1
  have hm0 : W0.heap.size ≤ mb := hmb
  have HH1 := Lib.hid hH
  have HHo : ∀ W, Kept mb w1 W → Hold hb N lo hi mb kb cb W := fun W hW => HH1.out.kept hW
  have HC : ∀ W, Kept mb w1 W → W.cell? ⟨hb, 0, none⟩ = some (.int .i64 N) ∧ W.cell? ⟨hb, 1, none⟩ = some (.int .i64 lo) ∧ W.cell? ⟨hb, 2, none⟩ = some (.int .i64 hi) ∧ W.cell? ⟨hb, 3, none⟩ = some (setsV kb cb) ∧ mb < W.heap.size ∧ hb < W.heap.size := fun W hW => ⟨(HHo W hW).bags, (HHo W hW).lo, (HHo W hW).hi, (HHo W hW).sets, (by obtain ⟨l, hl, _⟩ := (HHo W hW).ctr.memo; exact hl.lt), lt_of_cell (HHo W hW).bags⟩
  have FB : ∀ W, Kept mb w1 W → W.cell? ⟨bb, 0, none⟩ = some (.int .i64 N) ∧ W.cell? ⟨bb, 1, none⟩ = some (.int .i64 lo) ∧ W.cell? ⟨bb, 2, none⟩ = some (.int .i64 hi) ∧ W.cell? ⟨bb + 1, 0, none⟩ = some (.int .i64 o) ∧ W.cell? ⟨bb + 1 + 1, 0, none⟩ = some ((.slice pp ts.length cap)) ∧ W.cell? ⟨bb + 1 + 1 + 1, 0, none⟩ = some (.int .i64 0) ∧ W.cell? ⟨bb + 1 + 1 + 1, 1, none⟩ = some (.int .i64 0) ∧ W.frozen? ⟨bb + 1 + 1 + 1, 0, none⟩ = false ∧ W.frozen? ⟨bb + 1 + 1 + 1, 1, none⟩ = false ∧ bb + 4 ≤ W.heap.size := fun W hW => ⟨hW.cell a0_0 (by show _ ≠ mb; simp; omega), hW.cell a0_1 (by show _ ≠ mb; simp; omega), hW.cell a0_2 (by show _ ≠ mb; simp; omega), hW.cell a1_0 (by show _ ≠ mb; simp; omega), hW.cell a2_0 (by show _ ≠ mb; simp; omega), hW.cell a3_0 (by show _ ≠ mb; simp; omega), hW.cell a3_1 (by show _ ≠ mb; simp; omega), (World.frozen?_of_block (w := w1) (a := ⟨bb + 1 + 1 + 1, 0, none⟩) (hW.block _ (by simp; omega) (by simp; omega))).trans b3_0, (World.frozen?_of_block (w := w1) (a := ⟨bb + 1 + 1 + 1, 1, none⟩) (hW.block _ (by simp; omega) (by simp; omega))).trans b3_1, Nat.le_trans aq hW.size⟩
  have HBE := Lib.hid (fun (W : World) (hW : Kept mb w1 W) => HB0.out.trans ((hW.below K_w1 hm0).mono (by omega)))
  have HK : Kept mb w1 w1 := Kept.refl _ _
  have HM := Lib.hid hm0
  clear a0_0 a0_1 a0_2 a1_0 a2_0 a3_0 a3_1 b3_0 b3_1 aq FA hH hmb K_w1
  go_wp2_with fail
  have HV0 := Lib.hid (fun (W : World) (hW : Kept mb w1 W) => HV.out.keeps (HBB.out.symm ▸ HBE.out W hW))
  have hF : ∀ W, Free.Bel w1.drew W → Kept mb w1 W := fun W hW => (HK.drew).trans (.of_below hW)
  refine Free.wp_free (R := Free.Bel) (by kernel_rfl) (by kernel_rfl) Free.Bel.refl Free.Bel.trans ?_
  refine Free.Chain.ex ?_ [] [10] (by kernel_rfl) (by kernel_rfl) rfl Free.Bel.refl ?_ ?_
  rotate_left 2
  simp only [an1, an2]
  refine Free.Chain.ex ?_ [] [1] (by kernel_rfl) (by kernel_rfl) rfl Free.Bel.refl ?_ ?_
  rotate_left 2
  simp only [an1, an2]
  rotate_left
  iterate 2 (rotate_left; intro ev W hb hR hO hD; have hS := hF W hR; obtain ⟨hb1, hb2, hb3⟩ := hb; simp only [Free.AllDeps, Free.AllOuts, Free.At, al1, al2, al3, al4, al5, and_true] at hO hD; go_simp; rfl)
  refine Free.Chain.pr (SlI [D]) [(1, 23)] [] (by kernel_rfl) (by kernel_rfl) rfl (SlI.stable _) ?_ ?_
  · (intro ev W hb hR hO hD; have hS := hF W hR; obtain ⟨hb1, hb2, hb3⟩ := hb; simp only [Free.AllDeps, Free.AllOuts, Free.At, al1, al2, al3, al4, al5, and_true] at hO hD; go_simp; exact ⟨belAlloc _ _, SlI.one _ _ _⟩)
  simp only [an1, an2]
  refine Free.Chain.pr (fun v _ => v = .int .i64 0) [(0, 22), (2, 24)] [] (by kernel_rfl) (by kernel_rfl) rfl (fun _ _ _ _ h => h) ?_ ?_
  · (intro ev W hb hR hO hD; have hS := hF W hR; obtain ⟨hb1, hb2, hb3⟩ := hb; simp only [Free.AllDeps, Free.AllOuts, Free.At, al1, al2, al3, al4, al5, and_true] at hO hD; go_simp; refine yields_enter ?_; (with_reducible refine (may_any hb lo hi [D] _ 0 _ (by simp [maxLen]) (HHo _ hS).lo (HHo _ hS).hi hD.2 hx.out).mono ?_); rintro e W2 ⟨rfl, hB2⟩; exact ⟨_, rfl, hB2, rfl⟩)
  simp only [an1, an2]
  refine Free.Chain.ex ?_ [] [7] (by kernel_rfl) (by kernel_rfl) rfl Free.Bel.refl ?_ ?_
  rotate_left 2
  simp only [an1, an2]
  rotate_left
  rotate_left
  · (intro ev W hb hR hO hD; have hS := hF W hR; obtain ⟨hb1, hb2, hb3⟩ := hb; simp only [Free.AllDeps, Free.AllOuts, Free.At, al1, al2, al3, al4, al5, and_true] at hO hD; go_simp; rfl)
  refine Free.Chain.pr (fun v _ => v = .int .i64 0) [(4, 26), (3, 25)] [] (by kernel_rfl) (by kernel_rfl) rfl (fun _ _ _ _ h => h) ?_ ?_
  · (intro ev W hb hR hO hD; have hS := hF W hR; obtain ⟨hb1, hb2, hb3⟩ := hb; simp only [Free.AllDeps, Free.AllOuts, Free.At, al1, al2, al3, al4, al5, and_true] at hO hD; go_simp; refine yields_enter ?_; (with_reducible refine (agreed_v ts (.slice pp ts.length cap) _ (HV0.out _ hS) 0 hy).mono ?_); rintro e W2 ⟨rfl, hB2⟩; exact ⟨_, rfl, hB2, rfl⟩)
  simp only [an1, an2]
  refine Free.Chain.ex ?_ [] [10] (by kernel_rfl) (by kernel_rfl) rfl Free.Bel.refl ?_ ?_
  rotate_left 2
  simp only [an1, an2]
  refine Free.Chain.ex ?_ [(6, 28)] [] (by kernel_rfl) (by kernel_rfl) rfl Free.Bel.refl ?_ ?_
  rotate_left 2
  simp only [an1, an2]
  refine Free.Chain.ex ?_ [(7, 29)] [] (by kernel_rfl) (by kernel_rfl) rfl Free.Bel.refl ?_ ?_
  rotate_left 2
  simp only [an1, an2]
  refine Free.Chain.ex ?_ [(8, 30)] [] (by kernel_rfl) (by kernel_rfl) rfl Free.Bel.refl ?_ ?_
  rotate_left 2
  simp only [an1, an2]
  refine Free.Chain.ex ?_ [(9, 31)] [] (by kernel_rfl) (by kernel_rfl) rfl Free.Bel.refl ?_ ?_
  rotate_left 2
  simp only [an1, an2]
  refine Free.Chain.ex ?_ [] [6] (by kernel_rfl) (by kernel_rfl) rfl Free.Bel.refl ?_ ?_
  rotate_left 2
  simp only [an1, an2]
  rotate_left
  iterate 6 (rotate_left; intro ev W hb hR hO hD; have hS := hF W hR; obtain ⟨hb1, hb2, hb3⟩ := hb; simp only [Free.AllDeps, Free.AllOuts, Free.At, al1, al2, al3, al4, al5, and_true] at hO hD; go_simp; rfl)
  refine Free.Chain.pr (SlI [o]) [(11, 33)] [] (by kernel_rfl) (by kernel_rfl) rfl (SlI.stable _) ?_ ?_
  · (intro ev W hb hR hO hD; have hS := hF W hR; obtain ⟨hb1, hb2, hb3⟩ := hb; simp only [Free.AllDeps, Free.AllOuts, Free.At, al1, al2, al3, al4, al5, and_true] at hO hD; go_simp; exact ⟨belAlloc _ _, SlI.one _ _ _⟩)
  simp only [an1, an2]
  refine Free.Chain.pr (fun v _ => v = .bool true) [(10, 32), (12, 34), (5, 27)] [] (by kernel_rfl) (by kernel_rfl) rfl (fun _ _ _ _ h => h) ?_ ?_
  · (intro ev W hb hR hO hD; have hS := hF W hR; obtain ⟨hb1, hb2, hb3⟩ := hb; simp only [Free.AllDeps, Free.AllOuts, Free.At, al1, al2, al3, al4, al5, and_true] at hO hD; go_simp; refine yields_enter ?_; (with_reducible refine (in_sl _ _ [o] true _ _ (by simp [maxLen]) hq.out hD.2.1).mono ?_); rintro e W2 ⟨rfl, hB2⟩; exact ⟨_, rfl, hB2, rfl⟩)
  simp only [an1, an2]
  refine Free.Chain.pr (fun v _ => v = .int .i64 0) [(13, 35), (13, 35)] [] (by kernel_rfl) (by kernel_rfl) rfl (fun _ _ _ _ h => h) ?_ ?_
  · (intro ev W hb hR hO hD; have hS := hF W hR; obtain ⟨hb1, hb2, hb3⟩ := hb; simp only [Free.AllDeps, Free.AllOuts, Free.At, al1, al2, al3, al4, al5, and_true] at hO hD; go_simp; refine yields_enter ?_; (with_reducible refine (unless_any true 2 0 _ hzz.out).mono ?_); rintro e W2 ⟨rfl, rfl⟩; exact ⟨_, rfl, Free.Bel.refl _, rfl⟩)
  simp only [an1, an2]
  refine Free.Chain.pr (SlI [0, 0, 0]) [(3, 25), (5, 27), (14, 36)] [] (by kernel_rfl) (by kernel_rfl) rfl (SlI.stable _) ?_ ?_
  · (intro ev W hb hR hO hD; have hS := hF W hR; obtain ⟨hb1, hb2, hb3⟩ := hb; simp only [Free.AllDeps, Free.AllOuts, Free.At, al1, al2, al3, al4, al5, and_true] at hO hD; go_simp; exact ⟨belAlloc _ _, SlI.three _ _ _ _ _⟩)
  simp only [an1, an2]
  refine Free.Chain.pr (fun v _ => v = .int .i64 0) [(15, 37), (14, 36)] [] (by kernel_rfl) (by kernel_rfl) rfl (fun _ _ _ _ h => h) ?_ ?_
  · (intro ev W hb hR hO hD; have hS := hF W hR; obtain ⟨hb1, hb2, hb3⟩ := hb; simp only [Free.AllDeps, Free.AllOuts, Free.At, al1, al2, al3, al4, al5, and_true] at hO hD; go_simp; refine yields_enter ?_; (with_reducible refine (first_sl [0, 0, 0] 0 _ _ (by simp [maxLen]) hz.out hD.1).mono ?_); rintro e W2 ⟨rfl, rfl⟩; exact ⟨_, rfl, Free.Bel.refl _, rfl⟩)
  simp only [an1, an2]
  refine Free.Chain.ex ?_ [(16, 38), (16, 38), (0, 22), (1, 23), (2, 24), (3, 25), (4, 26), (5, 27), (6, 28), (7, 29), (8, 30), (9, 31), (10, 32), (11, 33), (12, 34), (13, 35), (14, 36), (15, 37), (16, 38)] [] (by kernel_rfl) (by kernel_rfl) rfl Free.Bel.refl ?_ ?_
  rotate_left 2
  simp only [an1, an2]
  rotate_left
  rotate_left
  · (intro ev W hb hR hO hD; have hS := hF W hR; obtain ⟨hb1, hb2, hb3⟩ := hb; simp only [Free.AllDeps, Free.AllOuts, Free.At, al1, al2, al3, al4, al5, and_true] at hO hD; go_simp; rfl)
  intro xs w2 hR hV
  simp only [Free.AllV, Free.At, List.length_cons, List.length_nil, Nat.reduceAdd, List.getElem?_cons_succ, List.getElem?_cons_zero, true_and] at hV
  simp only [Free.putsFrom, Act.put, Nat.zero_add, Nat.reduceAdd, hV, List.setIfInBounds_toArray, List.set_cons_succ, List.set_cons_zero]
  have HK2 := hF w2 hR
  clear hR hV hF HK
  go_wp2_with fail
  have hbx := FB w2 HK2
  have hm2 : ∀ W, Kept mb w2 W → Kept mb w1 W := fun W hW => HK2.trans hW
  have h90 := Lib.hid (agreedE_mem hy.out)
  have h91 := Lib.hid (agreedE_pence hy.out)
  have MID := Lib.hid (middle_any hb N lo hi D o mb kb cb 71 #[.pointer (some ⟨bb + 1 + 1, 0, none⟩), .pointer (some ⟨bb + 1, 0, none⟩)] (fun k => offV ts o k) w2 (HHo _ HK2) (by omega) (by omega) (by omega) ho (fun k _ _ => offV_bound ts o k h91.out)
    ⟨enters_of Tryd.func71 (by kernel_rfl) rfl, fun W k hW h0 h1 => (fair1_any ts _ o k (bb + 1 + 1) (bb + 1) W (HV0.out W (hm2 W hW)) (by simp [FB W (hm2 W hW)]) (by simp [FB W (hm2 W hW)]) h90.out (by omega) (by omega)).mono fun e W' h => ⟨h.1, .of_below h.2⟩⟩)
  rw [hp.out] at MID
  clear hbx hm2
  refine MID.out.mono ?_
  rintro e w3 ⟨rfl, hK3⟩
  have HK3 : Kept mb w1 w3 := HK2.trans hK3
  have hz9 := FB w3 HK3
  obtain ⟨s0, s1⟩ := two_stores (w := w3) (b := bb + 1 + 1 + 1) (x := .int .i64 0) (y := .int .i64 0) (.int .i64 px) (.int .i64 py) (by simp [hz9]) (by simp [hz9])
  have hB9 := Lib.hid (((HBE.out _ HK3).setCell (p := ⟨bb + 1 + 1 + 1, 0, none⟩) (by show bb ≤ bb + 1 + 1 + 1; omega) (.int .i64 px)).setCell (p := ⟨bb + 1 + 1 + 1, 1, none⟩) (by show bb ≤ bb + 1 + 1 + 1; omega) (.int .i64 py))
  clear hK3 MID HK2
  go_wp2_with fail
  have hbb := HBB.out
  subst hbb
  exact bodyPost_ret (v := .tuple #[.agg #[.int .i64 px, .int .i64 py], .int .i64 0]) (by simp [results, Tryd.results36, go_sem, s0, s1]) rfl ⟨rfl, hB9.out⟩

theorem fair_any (N lo hi D o : Int) (xs : List (Int × Int)) (v : Value) (w : World) (hv : PL xs v w) :
    Calls Tryd.prog 36 #[.agg #[.int .i64 N, .int .i64 lo, .int .i64 hi], .int .i64 D, .int .i64 o, v] w fun e w' => e = .returned (fairAll N lo hi D o xs) ∧ Below w.heap.size w w' := by
  have hv' := hv
  obtain ⟨pp, cap, rfl, _, _⟩ := hv'
  cases hc : cargoB N lo hi
  · have := fair_a N lo hi D o xs pp cap w hv hc
    rw [fairAll, hc, if_pos rfl]
    exact this
  · rw [fairAll, hc, if_neg (by simp)]
    by_cases hz : fairE N lo hi D o xs = 0
    · have hm : inB lo hi [D] = true := by
        cases h : inB lo hi [D]
        · simp [fairE, h, unlessV, firstE] at hz
        · rfl
      have ha : agreedE xs = 0 := by
        by_cases h : agreedE xs = 0
        · exact h
        · simp [fairE, hm, unlessV, firstE, h] at hz
      have hq : inB 0 N [o] = true := by
        cases h : inB 0 N [o]
        · simp [fairE, hm, h, ha, unlessV, firstE] at hz
        · rfl
      rw [if_neg (by simp [hz])]
      obtain ⟨px, py, hp⟩ : ∃ px py : Int, partV (midI N D o (fun k => offV xs o k) (o + 1).toNat).toNat (chI N o).toNat = .agg #[.int .i64 px, .int .i64 py] := ⟨_, _, rfl⟩
      rw [hp]
      exact fair_c N lo hi D o xs pp cap w hv hc (by show _ = _; simp [hm, unlessV]) ha hq (by show _ = _; simp [unlessV]) (by show _ = _; simp [firstE]) (by simpa [inB] using hm) (by simpa [inB] using hq) px py hp
    · rw [if_pos hz]
      exact fair_b N lo hi D o xs pp cap w hv hc _ _ _ _ rfl rfl rfl rfl _ rfl (by simpa using hz)
end Go.Proofs.YtdiclofeggkjcaaDoor

/- What is taken off in the middle lies between what can be taken off: the numbers. -/
namespace Go.Proofs.YtdiclofeggkjcaaDoor
set_option linter.unusedSimpArgs false
set_option linter.unusedVariables false
open Go.RowKit Go.Proofs.YtdiclofeggkjcaaDoor.ML Go.Proofs.YtdiclofeggkjcaaDoor.Samp

theorem offB_mono {o k k' : Int} {x : Int × Int} (hk : k ≤ k') (h : offB o k x = true) : offB o k' x = true := by
  simp only [offB, Bool.and_eq_true, decide_eq_true_eq] at h ⊢
  omega
theorem offR_le (o k M : Int) (h0 : 0 ≤ M) : ∀ l : List (Int × Int × Int), (∀ x ∈ l, x.2.2 ≤ M) → offR o k l ≤ M
  | [], _ => by simpa [offR] using h0
  | x :: l, h => by
    rw [offR_cons]
    split
    · exact h x (by simp)
    · exact offR_le o k M h0 l fun y hy => h y (by simp [hy])
theorem offR_mono (o k k' : Int) (hk : k ≤ k') : ∀ l : List (Int × Int × Int), l.Pairwise (fun x y => y.2.2 ≤ x.2.2) → (∀ x ∈ l, 0 ≤ x.2.2) → offR o k l ≤ offR o k' l
  | [], _, _ => by simp [offR]
  | x :: l, hp, h0 => by
    rw [offR_cons, offR_cons]
    rw [List.pairwise_cons] at hp
    by_cases h1 : offB o k x.2 = true
    · rw [if_pos h1, if_pos (offB_mono hk h1)]; exact Int.le_refl _
    · rw [if_neg h1]
      split
      · exact offR_le o k _ (h0 x (by simp)) l hp.1
      · exact offR_mono o k k' hk l hp.2 fun y hy => h0 y (by simp [hy])
theorem agreed_rise : ∀ (xs : List (Int × Int)) (f p : Int), agreedFrom f p xs = true → (∀ x ∈ xs, p ≤ x.2) ∧ xs.Pairwise (fun x y => x.2 ≤ y.2)
  | [], _, _, _ => ⟨(fun _ h => by cases h), List.Pairwise.nil⟩
  | x :: r, f, p, h => by
    simp only [agreedFrom, Bool.and_eq_true] at h
    have h2 : p ≤ x.2 ∧ x.2 ≤ 1000000 := by simpa [inB] using h.2.1
    obtain ⟨h3, h4⟩ := agreed_rise r x.1 x.2 h.2.2
    refine ⟨fun y hy => ?_, List.pairwise_cons.2 ⟨h3, h4⟩⟩
    rcases List.mem_cons.1 hy with rfl | hy
    · exact h2.1
    · have := h3 y hy; omega
theorem revT_at (xs : List (Int × Int)) : ∀ k, k ≤ xs.length → ∀ x ∈ revT xs k, ∃ i, ∃ h : i < xs.length, xs.length - k ≤ i ∧ x.2 = xs[i]
  | 0, _, x, h => by simp [revT] at h
  | k + 1, hk, x, h => by
    rcases List.mem_append.1 h with h | h
    · obtain ⟨i, hi, h1, h2⟩ := revT_at xs k (by omega) x h
      exact ⟨i, hi, by omega, h2⟩
    · simp at h
      subst h
      have hl : xs.length - (k + 1) < xs.length := by omega
      refine ⟨_, hl, Nat.le_refl _, ?_⟩
      simp only [List.getD_eq_getElem?_getD, List.getElem?_eq_getElem hl, Option.getD_some]
theorem revT_fall (xs : List (Int × Int)) (h : xs.Pairwise (fun x y => x.2 ≤ y.2)) : ∀ k, k ≤ xs.length → (revT xs k).Pairwise (fun x y => y.2.2 ≤ x.2.2)
  | 0, _ => List.Pairwise.nil
  | k + 1, hk => by
    rw [revT, List.pairwise_append]
    refine ⟨revT_fall xs h k (by omega), List.pairwise_singleton _ _, fun x hx y hy => ?_⟩
    obtain ⟨i, hi, h1, h2⟩ := revT_at xs k (by omega) x hx
    have hl : xs.length - (k + 1) < xs.length := by omega
    have hy2 : y.2 = xs[xs.length - (k + 1)] := by
      simp at hy
      subst hy
      simp only [List.getD_eq_getElem?_getD, List.getElem?_eq_getElem hl, Option.getD_some]
    rw [h2, hy2]
    exact List.pairwise_iff_getElem.1 h _ _ hl hi (by omega)
theorem offV_mono (xs : List (Int × Int)) (o k k' : Int) (h : agreedE xs = 0) (hk : k ≤ k') : offV xs o k ≤ offV xs o k' := by
  have hf : agreedFrom 0 0 xs = true := by
    unfold agreedE at h
    split at h
    · cases h
    · rename_i h1; simpa using h1
  refine offR_mono o k k' hk _ (revT_fall xs (agreed_rise xs 0 0 hf).2 _ (Nat.le_refl _)) fun x hx => ?_
  exact (agreedE_pence h _ (revT_mem xs _ (Nat.le_refl _) x hx)).1

theorem mid_ge (N D o L : Int) (of : Int → Int) (h0 : 0 ≤ D) (h1 : D ≤ N) (ho : 0 ≤ o) : ∀ n : Nat, (∀ k : Nat, k < n → 0 < waysI N D o k → L ≤ of k) → L * fewI N D o n ≤ midI N D o of n
  | 0, _ => by simp [fewI, midI]
  | n + 1, h => by
    have ih := mid_ge N D o L of h0 h1 ho n fun k hk => h k (by omega)
    have hw := waysI_le N D o n h0 h1 ho (by omega)
    rw [fewI_succ, midI, Int.mul_add]
    by_cases hp : 0 < waysI N D o n
    · have := Int.mul_le_mul_of_nonneg_right (h n (by omega) hp) hw.1
      omega
    · have hz : waysI N D o n = 0 := by omega
      rw [hz, Int.mul_zero, Int.mul_zero]
      omega
theorem mid_le (N D o M : Int) (of : Int → Int) (h0 : 0 ≤ D) (h1 : D ≤ N) (ho : 0 ≤ o) : ∀ n : Nat, (∀ k : Nat, k < n → 0 < waysI N D o k → of k ≤ M) → midI N D o of n ≤ M * fewI N D o n
  | 0, _ => by simp [fewI, midI]
  | n + 1, h => by
    have ih := mid_le N D o M of h0 h1 ho n fun k hk => h k (by omega)
    have hw := waysI_le N D o n h0 h1 ho (by omega)
    rw [fewI_succ, midI, Int.mul_add]
    by_cases hp : 0 < waysI N D o n
    · have := Int.mul_le_mul_of_nonneg_right (h n (by omega) hp) hw.1
      omega
    · have hz : waysI N D o n = 0 := by omega
      rw [hz, Int.mul_zero, Int.mul_zero]
      omega
theorem few_all2 (N D o : Int) (h0 : 0 ≤ D) (h1 : D ≤ N) (ho : 0 ≤ o) : fewI N D o (o + 1).toNat = chI N o := by
  rw [show (o + 1).toNat = o.toNat + 1 by omega, fewI_natT N D o _ h0 h1 ho (Nat.le_refl _), chI_natT N o (by omega) ho]
  congr 1
  have := ways_all D.toNat (N.toNat - D.toNat) o.toNat
  rw [show D.toNat + (N.toNat - D.toNat) = N.toNat by omega] at this
  exact this
theorem fair_math (N D o : Int) (xs : List (Int × Int)) (hN : 1 ≤ N ∧ N ≤ 36) (hD : 0 ≤ D ∧ D ≤ N) (ho : 0 ≤ o ∧ o ≤ N) (hx : agreedE xs = 0) :
    ∃ p q : Int, partV (midI N D o (fun k => offV xs o k) (o + 1).toNat).toNat (chI N o).toNat = i2 p q ∧ ((0 ≤ p ∧ p ≤ 9000000000000000000) ∧ 1 ≤ q ∧ q ≤ 9000000000000000000) ∧
      offV xs o (max 0 (o - (N - D))) * q ≤ p * 1 ∧ p * 1 ≤ offV xs o (min o D) * q := by
  have hp := agreedE_pence hx
  have hb := midI_bound N D o (fun k => offV xs o k) hN.2 hD.1 hD.2 (o + 1).toNat fun k _ => offV_bound xs o k hp
  have hcp := chI_pos N o (by omega) (by omega) ho.1 ho.2
  have hcq : 0 < chI N o := by omega
  have hall := few_all2 N D o hD.1 hD.2 ho.1
  have hge := mid_ge N D o (offV xs o (max 0 (o - (N - D)))) (fun k => offV xs o k) hD.1 hD.2 ho.1 (o + 1).toNat fun k hk hw => offV_mono xs o _ _ hx (by
    have := (waysI_pos N D o k hD.1 hD.2 (by omega) (by omega)).1 hw
    omega)
  have hle := mid_le N D o (offV xs o (min o D)) (fun k => offV xs o k) hD.1 hD.2 ho.1 (o + 1).toNat fun k hk hw => offV_mono xs o _ _ hx (by
    have := (waysI_pos N D o k hD.1 hD.2 (by omega) (by omega)).1 hw
    omega)
  rw [hall] at hge hle
  obtain ⟨m, hm⟩ : ∃ m, midI N D o (fun k => offV xs o k) (o + 1).toNat = m := ⟨_, rfl⟩
  rw [hm] at hb hge hle ⊢
  have hn : (((o + 1).toNat : Nat) : Int) ≤ 37 := by omega
  have hm2 : m ≤ 2542620639232000000 := by
    have := Int.mul_le_mul_of_nonneg_right hn (show (0 : Int) ≤ 68719476736000000 by decide)
    omega
  obtain ⟨p, q, hpq⟩ : ∃ p q : Int, partV m.toNat (chI N o).toNat = i2 p q := ⟨_, _, rfl⟩
  obtain ⟨g, hg0, hg1, hg2, hq1, hq2, hp1, hp2⟩ := low_spec m (chI N o) p q hb.1 hcq hpq
  have h36 := hcp.2
  have l0 := offV_bound xs o (max 0 (o - (N - D))) hp
  have m0 := offV_bound xs o (min o D) hp
  refine ⟨p, q, hpq, ⟨⟨hp1, by omega⟩, hq1, by omega⟩, ?_, ?_⟩
  · exact low_le l0.1 (by decide) hb.1 hcq (partV_one _ l0.1) hpq (by rw [Int.mul_one]; exact hge)
  · exact low_le hb.1 hcq m0.1 (by decide) hpq (partV_one _ m0.1) (by rw [Int.mul_one]; exact hle)
end Go.Proofs.YtdiclofeggkjcaaDoor

/- The law about what is fair: its walk. -/
namespace Go.Proofs.YtdiclofeggkjcaaDoor
set_option linter.unusedSimpArgs false
set_option linter.unusedVariables false
open Go.RowKit Go.Proofs.YtdiclofeggkjcaaDoor.ML Go.Proofs.YtdiclofeggkjcaaDoor.Samp

theorem fair_ok (N lo hi D o p q : Int) (xs : List (Int × Int)) (v : Value) (w : World) (hv : PL xs v w) (hc : 1 ≤ N ∧ N ≤ 36 ∧ 0 ≤ lo ∧ lo ≤ hi ∧ hi ≤ N) (hD : lo ≤ D ∧ D ≤ hi) (ho : 0 ≤ o ∧ o ≤ N) (hx : Hid (agreedE xs = 0))
    (hp : Hid (partV (midI N D o (fun k => offV xs o k) (o + 1).toNat).toNat (chI N o).toNat = i2 p q)) :
    Calls Tryd.prog 36 #[.agg #[.int .i64 N, .int .i64 lo, .int .i64 hi], .int .i64 D, .int .i64 o, v] w fun e w' => e = .returned (.tuple #[i2 p q, .int .i64 0]) ∧ Below w.heap.size w w' := by
  have h := fair_any N lo hi D o xs v w hv
  have h1 : inB lo hi [D] = true := by simp [inB]; omega
  have h2 : inB 0 N [o] = true := by simp [inB]; omega
  rw [fairAll, if_neg (by simp [cargoB_ok hc]), if_neg (by simp [fairE, h1, h2, hx.out, unlessV, firstE]), hp.out] at h
  exact h
theorem off_ok (o k m : Int) (xs : List (Int × Int)) (v : Value) (w : World) (hv : PL xs v w) (ho : 0 ≤ o ∧ o ≤ 36) (hk : 0 ≤ k ∧ k ≤ o) (hx : Hid (agreedE xs = 0)) (hm : Hid (offV xs o k = m)) :
    Calls Tryd.prog 37 #[v, i2 o k] w fun e w' => e = .returned (.tuple #[.int .i64 m, .int .i64 0]) ∧ Below w.heap.size w w' := by
  have h := offA_any xs v o k w hv
  have h1 : drawB 36 o k = true := by simp [drawB, inB]; omega
  rw [offAll, if_neg (by simp [offE, h1, hx.out, unlessV, firstE]), hm.out] at h
  exact h
/-- What the loop has found: the least, the most, the last. -/
def leastF (xs : List (Int × Int)) (o a : Int) (j : Nat) : Int := if (j : Int) ≤ a then -1 else offV xs o a
def mostF (xs : List (Int × Int)) (o a b : Int) (j : Nat) : Int := if (j : Int) ≤ a then 0 else offV xs o (min (j - 1) b)
def lastF (xs : List (Int × Int)) (o : Int) (j : Nat) : Int := if j = 0 then 0 else offV xs o (j - 1)
theorem last_step (xs : List (Int × Int)) (o : Int) (j : Nat) : lastF xs o (j + 1) = offV xs o j := by
  rw [lastF, if_neg (by omega)]; congr 1; omega
theorem last_le (xs : List (Int × Int)) (o : Int) (j : Nat) (hx : agreedE xs = 0) : lastF xs o j ≤ offV xs o j := by
  unfold lastF
  split
  · exact (offV_bound xs o j (agreedE_pence hx)).1
  · exact offV_mono xs o _ _ hx (by omega)
theorem least_here (xs : List (Int × Int)) (o a : Int) (j : Nat) (h : (j : Int) = a) : leastF xs o a (j + 1) = offV xs o j := by
  rw [leastF, if_neg (by omega), h]
theorem least_stay (xs : List (Int × Int)) (o a : Int) (j : Nat) (h : (j : Int) ≠ a) : leastF xs o a (j + 1) = leastF xs o a j := by
  unfold leastF
  by_cases h1 : (j : Int) ≤ a
  · rw [if_pos (by omega), if_pos h1]
  · rw [if_neg (by omega), if_neg h1]
theorem most_here (xs : List (Int × Int)) (o a b : Int) (j : Nat) (h : a ≤ j ∧ (j : Int) ≤ b) : mostF xs o a b (j + 1) = offV xs o j := by
  rw [mostF, if_neg (by omega), show min (((j + 1 : Nat) : Int) - 1) b = (j : Int) by omega]
theorem most_stay (xs : List (Int × Int)) (o a b : Int) (j : Nat) (hab : a ≤ b) (h : ¬ (a ≤ j ∧ (j : Int) ≤ b)) : mostF xs o a b (j + 1) = mostF xs o a b j := by
  unfold mostF
  by_cases h1 : (j : Int) < a
  · rw [if_pos (by omega), if_pos (by omega)]
  · rw [if_neg (by omega), if_neg (by omega), show min (((j + 1 : Nat) : Int) - 1) b = b by omega, show min ((j : Int) - 1) b = b by omega]

set_option maxRecDepth 100000 in
set_option maxHeartbeats 8000000 in
theorem fairL_walk (N lo hi x e : Int) (ts : List (Int × Int)) (pp : Option Addr) (cap : Nat) (w : World) (hT : TabD w) (hv : PL ts (.slice pp ts.length cap) w) (hx : 0 ≤ x ∧ x ≤ 255) (he : 0 ≤ e ∧ e ≤ 255) :
    Calls Tryd.prog 10 #[.agg #[.int .i64 N, .int .i64 lo, .int .i64 hi], .slice pp ts.length cap, .int .u8 x, .int .u8 e] w fun e w' => e = .returned (.bool true) ∧ Below w.heap.size w w' := by
  have HV := Lib.hid hv
  clear hv
  have hB0 : Below w.heap.size w (w.alloc (.cells #[.int .i64 N, .int .i64 lo, .int .i64 hi] 26)) := (Below.refl _ w).alloc (Nat.le_refl _) _
  have c0_0 : (w.alloc (.cells #[.int .i64 N, .int .i64 lo, .int .i64 hi] 26)).cell? ⟨w.heap.size, 0, none⟩ = some (.int .i64 N) := by simp [go_sem]
  have c0_1 : (w.alloc (.cells #[.int .i64 N, .int .i64 lo, .int .i64 hi] 26)).cell? ⟨w.heap.size, 1, none⟩ = some (.int .i64 lo) := by simp [go_sem]
  have c0_2 : (w.alloc (.cells #[.int .i64 N, .int .i64 lo, .int .i64 hi] 26)).cell? ⟨w.heap.size, 2, none⟩ = some (.int .i64 hi) := by simp [go_sem]
  have t0 := keepsB hB0 hT.1
  have t1 := keepsB hB0 hT.2.1
  have t2 := keepsB hB0 hT.2.2
  clear hT
  go_enter Tryd.func10, Tryd.ntmps10
  go_wp2_with fail
  refine (alive_any _ (tabD_mk t0 t1 t2)).mono ?_
  rintro e w1 ⟨rfl, hB1⟩
  have hBz : Below w.heap.size w w1 := hB0.trans (hB1.mono (by simp))
  have hzz : w.heap.size ≤ w1.heap.size := hBz.size
  have hzn : w.heap.size + 1 ≤ w1.heap.size := by have := hB1.size; simp at this; omega
  have kc0_0 := keepsB hB1 c0_0
  have kc0_1 := keepsB hB1 c0_1
  have kc0_2 := keepsB hB1 c0_2
  have kt0 := keepsB hB1 t0
  have kt1 := keepsB hB1 t1
  have kt2 := keepsB hB1 t2
  clear hB0 hB1 t0 t1 t2 c0_0 c0_1 c0_2
  generalize hbb : w.heap.size = bb at *
  have HBB := Lib.hid hbb
  clear hbb
  have HB_w1 := Lib.hid (show Below bb w w1 from hBz)
  have hz_w1 : bb ≤ w1.heap.size := hzz
  have FA : ∀ W, Free.Bel w1 W → W.cell? ⟨0, 0, none⟩ = some (dblF 130) ∧ W.cell? ⟨0, 1, none⟩ = some (dblF 131) ∧ W.cell? ⟨0, 2, none⟩ = some (dblF 132) ∧ W.cell? ⟨bb, 0, none⟩ = some (.int .i64 N) ∧ W.cell? ⟨bb, 1, none⟩ = some (.int .i64 lo) ∧ W.cell? ⟨bb, 2, none⟩ = some (.int .i64 hi) ∧ bb + 1 ≤ W.heap.size ∧ bb ≤ W.heap.size := fun W hW => ⟨keepsB hW kt0, keepsB hW kt1, keepsB hW kt2, keepsB hW kc0_0, keepsB hW kc0_1, keepsB hW kc0_2, Nat.le_trans hzn hW.size, Nat.le_trans hz_w1 hW.size⟩
  have KR : Free.Bel w1 w1 := Free.Bel.refl _
  clear hBz hzz kt0 kt1 kt2 kc0_0 kc0_1 kc0_2 hzn
  have FN : ∀ W, Free.Bel w1 W → W.cell? ⟨0, 0, none⟩ = some (dblF 130) ∧ W.cell? ⟨0, 1, none⟩ = some (dblF 131) ∧ W.cell? ⟨0, 2, none⟩ = some (dblF 132) ∧ W.cell? ⟨bb, 0, none⟩ = some (.int .i64 N) ∧ W.cell? ⟨bb, 1, none⟩ = some (.int .i64 lo) ∧ W.cell? ⟨bb, 2, none⟩ = some (.int .i64 hi) ∧ bb + 1 ≤ W.heap.size ∧ bb ≤ W.heap.size ∧ PL ts (.slice pp ts.length cap) W := fun W hW => by
    obtain ⟨a0, a1, a2, a3, a4, a5, a6, a7⟩ := FA W hW
    exact ⟨a0, a1, a2, a3, a4, a5, a6, a7, HV.out.keeps (HBB.out.symm ▸ HB_w1.out.trans (hW.mono hz_w1))⟩
  clear FA
  have FA := FN
  clear FN
  go_wp2_with fail
  cases hc0 : cargoB N lo hi
  · have HC0 := hc0
    refine (cargoR_any N lo hi false _ hc0).mono ?_
    rintro e w2 ⟨rfl, hB⟩
    have HB_w2 := Lib.hid (HB_w1.out.trans ((hB).mono hz_w1))
    have hz_w2 : bb ≤ w2.heap.size := Nat.le_trans hz_w1 (hB).size
    have FN := fun (W : World) (hW : Free.Bel w2 W) => FA W (bt (hB) hW)
    clear FA HB_w1 hz_w1 KR
    have FA := FN
    clear FN
    have KR := Free.Bel.refl w2
    clear hB
    go_wp2_with fail
    go_ret
    have hbb := HBB.out
    subst hbb
    exact ⟨rfl, HB_w2.out⟩
  · have hc := (cargoB_iff N lo hi).1 hc0
    refine (cargoR_any N lo hi true _ hc0).mono ?_
    rintro e w3 ⟨rfl, hB⟩
    have HB_w3 := Lib.hid (HB_w1.out.trans ((hB).mono hz_w1))
    have hz_w3 : bb ≤ w3.heap.size := Nat.le_trans hz_w1 (hB).size
    have FN := fun (W : World) (hW : Free.Bel w3 W) => FA W (bt (hB) hW)
    clear FA HB_w1 hz_w1 KR
    have FA := FN
    clear FN
    have KR := Free.Bel.refl w3
    clear hB
    clear hc0
    go_wp2_with fail
    by_cases hag : agreedE ts = 0
    rotate_left
    · have HAF : Hid (decide (agreedE ts = 0) = false) := decide_eq_false hag
      clear hag
      refine (terms_v ts (.slice pp ts.length cap) _ (FA w3 (Free.Bel.refl _)).2.2.2.2.2.2.2.2 false HAF).mono ?_
      rintro e w4 ⟨rfl, hB⟩
      have HB_w4 := Lib.hid (HB_w3.out.trans ((hB).mono hz_w3))
      have hz_w4 : bb ≤ w4.heap.size := Nat.le_trans hz_w3 (hB).size
      have FN := fun (W : World) (hW : Free.Bel w4 W) => FA W (bt (hB) hW)
      clear FA HB_w3 hz_w3 KR
      have FA := FN
      clear FN
      have KR := Free.Bel.refl w4
      clear hB
      go_wp2_with fail
      go_ret
      have hbb := HBB.out
      subst hbb
      exact ⟨rfl, HB_w4.out⟩
    · have HAG := Lib.hid hag
      have HAT : Hid (decide (agreedE ts = 0) = true) := decide_eq_true hag
      clear hag
      refine (terms_v ts (.slice pp ts.length cap) _ (FA w3 (Free.Bel.refl _)).2.2.2.2.2.2.2.2 true HAT).mono ?_
      rintro e w5 ⟨rfl, hB⟩
      have HB_w5 := Lib.hid (HB_w3.out.trans ((hB).mono hz_w3))
      have hz_w5 : bb ≤ w5.heap.size := Nat.le_trans hz_w3 (hB).size
      have FN := fun (W : World) (hW : Free.Bel w5 W) => FA W (bt (hB) hW)
      clear FA HB_w3 hz_w3 KR
      have FA := FN
      clear FN
      have KR := Free.Bel.refl w5
      clear hB
      obtain ⟨D, HD, hD⟩ := some_bounds lo hi x (by omega)
      have v1 : IntKind.i64.wrap (N + 1) = N + 1 := IntWalk.i64_in _ (by omega)
      have v2 : (N + 1 != 0) = true := by simp; omega
      have v2b : ¬ (N + 1 = 0) := by omega
      have mo0 : 0 ≤ e % (N + 1) := Int.emod_nonneg _ (by omega)
      have mo1 : e % (N + 1) < (N + 1) := Int.emod_lt_of_pos _ (by omega)
      have co : IntKind.i64.wrap e = e := IntWalk.i64_in _ (by omega)
      have do_ : e.tmod (N + 1) = e % (N + 1) := Int.tmod_eq_emod_of_nonneg (by omega)
      obtain ⟨o, ho⟩ : ∃ v9, e % (N + 1) = v9 := ⟨_, rfl⟩
      rw [ho] at mo0 mo1 do_
      clear ho
      have eo : IntKind.i64.wrap o = o := IntWalk.i64_in _ (by omega)
      go_wp2_with fail
      have hF : ∀ W, Free.Bel w5.drew W → Free.Bel w5 W := fun W hW => bt (Bel.drewT (Free.Bel.refl _)) hW
      refine Free.wp_free (R := Free.Bel) (by kernel_rfl) (by kernel_rfl) Free.Bel.refl Free.Bel.trans ?_
      refine Free.Chain.ex ?_ [] [4] (by kernel_rfl) (by kernel_rfl) rfl Free.Bel.refl ?_ ?_
      rotate_left 2
      simp only [an1, an2]
      refine Free.Chain.ex ?_ [] [2] (by kernel_rfl) (by kernel_rfl) rfl Free.Bel.refl ?_ ?_
      rotate_left 2
      simp only [an1, an2]
      rotate_left
      iterate 2 (rotate_left; intro ev W hb hR hO hD; have hS := hF W hR; obtain ⟨hb1, hb2, hb3⟩ := hb; simp only [Free.AllDeps, Free.AllOuts, Free.At, al1, al2, al3, al4, al5, and_true] at hO hD; go_simp; rfl)
      refine Free.Chain.pr (fun v _ => v = .int .i64 D) [(0, 34), (1, 35)] [] (by kernel_rfl) (by kernel_rfl) rfl (fun _ _ _ _ h => h) ?_ ?_
      · (intro ev W hb hR hO hD; have hS := hF W hR; obtain ⟨hb1, hb2, hb3⟩ := hb; simp only [Free.AllDeps, Free.AllOuts, Free.At, al1, al2, al3, al4, al5, and_true] at hO hD; go_simp; refine yields_enter ?_; (with_reducible refine (some_v N lo hi x D _ ⟨hc.2.2.1, hc.2.2.2.1, Int.le_trans hc.2.2.2.2 hc.2.1⟩ hx HD).mono ?_); rintro e W2 ⟨rfl, hB2⟩; exact ⟨_, rfl, hB2, rfl⟩)
      simp only [an1, an2]
      refine Free.Chain.ex ?_ [] [3] (by kernel_rfl) (by kernel_rfl) rfl Free.Bel.refl ?_ ?_
      rotate_left 2
      simp only [an1, an2]
      refine Free.Chain.ex ?_ [(3, 37)] [] (by kernel_rfl) (by kernel_rfl) rfl Free.Bel.refl ?_ ?_
      rotate_left 2
      simp only [an1, an2]
      refine Free.Chain.ex ?_ [] [4] (by kernel_rfl) (by kernel_rfl) rfl Free.Bel.refl ?_ ?_
      rotate_left 2
      simp only [an1, an2]
      refine Free.Chain.ex ?_ [(5, 39)] [] (by kernel_rfl) (by kernel_rfl) rfl Free.Bel.refl ?_ ?_
      rotate_left 2
      simp only [an1, an2]
      refine Free.Chain.ex ?_ [(6, 40)] [] (by kernel_rfl) (by kernel_rfl) rfl Free.Bel.refl ?_ ?_
      rotate_left 2
      simp only [an1, an2]
      refine Free.Chain.ex ?_ [(4, 38), (7, 41)] [] (by kernel_rfl) (by kernel_rfl) rfl Free.Bel.refl ?_ ?_
      rotate_left 2
      simp only [an1, an2]
      refine Free.Chain.ex ?_ [(2, 36), (2, 36), (0, 34), (1, 35), (2, 36)] [] (by kernel_rfl) (by kernel_rfl) rfl Free.Bel.refl ?_ ?_
      rotate_left 2
      simp only [an1, an2]
      refine Free.Chain.ex ?_ [(8, 42), (9, 10), (0, 34), (1, 35), (2, 36), (3, 37), (4, 38), (5, 39), (6, 40), (7, 41), (8, 42), (9, 10)] [] (by kernel_rfl) (by kernel_rfl) rfl Free.Bel.refl ?_ ?_
      rotate_left 2
      simp only [an1, an2]
      rotate_left
      iterate 8 (rotate_left; intro ev W hb hR hO hD; have hS := hF W hR; obtain ⟨hb1, hb2, hb3⟩ := hb; simp only [Free.AllDeps, Free.AllOuts, Free.At, al1, al2, al3, al4, al5, and_true] at hO hD; go_simp; rfl)
      intro xs w6 hR hV
      simp only [Free.AllV, Free.At, List.length_cons, List.length_nil, Nat.reduceAdd, List.getElem?_cons_succ, List.getElem?_cons_zero, true_and, and_true] at hV
      simp only [Free.putsFrom, Act.put, Nat.zero_add, Nat.reduceAdd, hV, List.setIfInBounds_toArray, List.set_cons_succ, List.set_cons_zero]
      have hN := hF w6 hR
      clear hR hF
      have HB_w6 := Lib.hid (HB_w5.out.trans ((hN).mono hz_w5))
      have hz_w6 : bb ≤ w6.heap.size := Nat.le_trans hz_w5 (hN).size
      have FN := fun (W : World) (hW : Free.Bel w6 W) => FA W (bt (hN) hW)
      clear FA HB_w5 hz_w5 KR
      have FA := FN
      clear FN
      have KR := Free.Bel.refl w6
      clear hN hV
      go_wp2_with fail
      have hob : 0 ≤ o ∧ o ≤ N := by omega
      obtain ⟨p, q, hpq, bpq, hle, hge⟩ := fair_math N D o ts ⟨hc.1, hc.2.1⟩ (by omega) hob HAG.out
      have HPQ := Lib.hid hpq
      have hpb : (0 ≤ p ∧ p ≤ 9000000000000000000) ∧ 1 ≤ q ∧ q ≤ 9000000000000000000 := bpq
      obtain ⟨a, ha⟩ : ∃ a, max 0 (o - (N - D)) = a := ⟨_, rfl⟩
      obtain ⟨b, hb⟩ : ∃ b, min o D = b := ⟨_, rfl⟩
      rw [ha] at hle
      rw [hb] at hge
      have hab : 0 ≤ a ∧ a ≤ b ∧ b ≤ o := by omega
      have hpos : ∀ j : Int, 0 ≤ j → (j ≤ D ∧ o - j ≤ N - D ↔ a ≤ j ∧ j ≤ b) ∨ o < j := fun j hj => by omega
      have HPOS := Lib.hid hpos
      obtain ⟨L, hL⟩ : ∃ L, offV ts o a = L := ⟨_, rfl⟩
      obtain ⟨M, hM⟩ : ∃ M, offV ts o b = M := ⟨_, rfl⟩
      have hLb := offV_bound ts o a (agreedE_pence HAG.out)
      have hMb := offV_bound ts o b (agreedE_pence HAG.out)
      rw [hL] at hle hLb
      rw [hM] at hge hMb
      have HL9 := Lib.hid hL
      have HM9 := Lib.hid hM
      have HKL := Lib.hid (And.intro (decide_eq_true hle) (decide_eq_true hge))
      have b1 : decide (q < 1) = false := decide_eq_false (by omega)
      have b2 : decide (p < 0) = false := decide_eq_false (by omega)
      clear hpq bpq hle hge hpos ha hb hL hM
      refine (fair_ok N lo hi D o p q ts (.slice pp ts.length cap) _ (FA w6 (Free.Bel.refl _)).2.2.2.2.2.2.2.2 hc hD hob HAG HPQ).mono ?_
      rintro e w7 ⟨rfl, hB⟩
      have HB_w7 := Lib.hid (HB_w6.out.trans ((hB).mono hz_w6))
      have hz_w7 : bb ≤ w7.heap.size := Nat.le_trans hz_w6 (hB).size
      have FN := fun (W : World) (hW : Free.Bel w7 W) => FA W (bt (hB) hW)
      clear FA HB_w6 hz_w6 KR
      have FA := FN
      clear FN
      have KR := Free.Bel.refl w7
      clear hB
      have y1 : IntKind.i64.wrap (o + 1) = o + 1 := IntWalk.i64_in _ (by omega)
      have KA0 : Free.Bel w7 (w7.alloc (.cells #[.int .i64 p, .int .i64 q] 29)) := Bel.allocT (Free.Bel.refl _) _
      go_wp2_with fail
      clear KA0
      have hN : Free.Bel w7 (w7.alloc (.cells #[.int .i64 p, .int .i64 q] 29)) := (Bel.allocT (Free.Bel.refl w7) _)
      have n_g70_0 : (w7.alloc (.cells #[.int .i64 p, .int .i64 q] 29)).cell? ⟨w7.heap.size, 0, none⟩ = some (.int .i64 p) := by simp [go_sem]
      have n_g70_1 : (w7.alloc (.cells #[.int .i64 p, .int .i64 q] 29)).cell? ⟨w7.heap.size, 1, none⟩ = some (.int .i64 q) := by simp [go_sem]
      generalize (w7.alloc (.cells #[.int .i64 p, .int .i64 q] 29)) = w8 at *
      obtain ⟨g70, hgz⟩ : ∃ x, x = w7.heap.size := ⟨_, rfl⟩
      rw [← hgz] at n_g70_0 n_g70_1 ⊢
      clear hgz
      have HB_w8 := Lib.hid (HB_w7.out.trans ((hN).mono hz_w7))
      have hz_w8 : bb ≤ w8.heap.size := Nat.le_trans hz_w7 (hN).size
      have FN := fun (W : World) (hW : Free.Bel w8 W) => And.intro (keepsB hW n_g70_0) (And.intro (keepsB hW n_g70_1) (FA W (bt (hN) hW)))
      clear FA HB_w7 hz_w7 KR
      have FA := FN
      clear FN
      have KR := Free.Bel.refl w8
      clear hN n_g70_0 n_g70_1
      go_loopw [65, 14, 15, 16] (fun i l m s wr => ∃ j : Nat, (j : Int) ≤ o + 1 ∧ i = .int .i64 j ∧ l = .int .i64 (leastF ts o a j) ∧ m = .int .i64 (mostF ts o a b j) ∧ s = .int .i64 (lastF ts o j) ∧ Free.Bel w8 wr) (fun i _ _ _ _ => (o + 1).toNat - (intOf i).toNat)
      case atStart => exact ⟨0, by omega, rfl, by rw [leastF, if_pos (by omega)], by rw [mostF, if_pos (by omega)], by rw [lastF, if_pos rfl], Free.Bel.refl _⟩
      case round =>
        obtain ⟨j, hj, rfl, rfl, rfl, rfl, HKr⟩ := hrel
        have HB_wr := Lib.hid (HB_w8.out.trans ((HKr).mono hz_w8))
        have hz_wr : bb ≤ wr.heap.size := Nat.le_trans hz_w8 (HKr).size
        have FN := fun (W : World) (hW : Free.Bel wr W) => FA W (bt (HKr) hW)
        clear FA HB_w8 hz_w8 KR
        have FA := FN
        clear FN
        have KR := Free.Bel.refl wr
        have HWR : Free.Bel wr wr := Free.Bel.refl _
        have HL_wr : Free.Bel w8 wr := HKr
        clear HKr
        by_cases hlt : (j : Int) < o + 1
        · have hj1 : (j : Int) ≤ o := by omega
          have k9 : decide ((j : Int) < o + 1) = true := decide_eq_true hlt
          obtain ⟨m, hm⟩ : ∃ m, offV ts o j = m := ⟨_, rfl⟩
          have hmb := offV_bound ts o j (agreedE_pence HAG.out)
          have hla := last_le ts o j HAG.out
          rw [hm] at hmb hla
          have HM := Lib.hid hm
          obtain ⟨la, hla9⟩ : ∃ x, lastF ts o j = x := ⟨_, rfl⟩
          obtain ⟨ll, hll9⟩ : ∃ x, leastF ts o a j = x := ⟨_, rfl⟩
          obtain ⟨mo, hmo9⟩ : ∃ x, mostF ts o a b j = x := ⟨_, rfl⟩
          rw [hla9] at hla
          rw [hla9, hll9, hmo9]
          have HLL := Lib.hid hll9
          have HMO := Lib.hid hmo9
          have hjw : IntKind.i64.wrap ((j : Int) + 1) = ((j + 1 : Nat) : Int) := by rw [IntWalk.i64_in _ (by omega)]; omega
          have k1 : decide (m < la) = false := decide_eq_false (by omega)
          have k2 : decide (1000000 < m) = false := decide_eq_false (by omega)
          have q1 : IntKind.i64.wrap (o - (j : Int)) = o - j := IntWalk.i64_in _ (by omega)
          have q2 : IntKind.i64.wrap (N - D) = N - D := IntWalk.i64_in _ (by omega)
          have hls : lastF ts o (j + 1) = m := by rw [last_step, hm]
          have HLS := Lib.hid hls
          have hjb : 0 ≤ (j : Int) ∧ (j : Int) ≤ o := by omega
          clear hla9 hll9 hmo9 hm hls
          go_wp2_with fail
          refine (drawn_any o j _).mono ?_
          rintro e w9 ⟨rfl, hB⟩
          have HB_w9 := Lib.hid (HB_wr.out.trans ((hB).mono hz_wr))
          have hz_w9 : bb ≤ w9.heap.size := Nat.le_trans hz_wr (hB).size
          have HL_w9 : Free.Bel w8 w9 := bt HL_wr (hB)
          clear HL_wr
          have HWR : Free.Bel wr w9 := bt HWR (hB)
          have FN := fun (W : World) (hW : Free.Bel w9 W) => FA W (bt (hB) hW)
          clear FA HB_wr hz_wr KR
          have FA := FN
          clear FN
          have KR := Free.Bel.refl w9
          clear hB
          go_wp2_with fail
          refine (off_ok o j m ts (.slice pp ts.length cap) _ (FA w9 (Free.Bel.refl _)).2.2.2.2.2.2.2.2.2.2 (by omega) hjb HAG HM).mono ?_
          rintro e w10 ⟨rfl, hB⟩
          have HB_w10 := Lib.hid (HB_w9.out.trans ((hB).mono hz_w9))
          have hz_w10 : bb ≤ w10.heap.size := Nat.le_trans hz_w9 (hB).size
          have HL_w10 : Free.Bel w8 w10 := bt HL_w9 (hB)
          clear HL_w9
          have HWR : Free.Bel wr w10 := bt HWR (hB)
          have FN := fun (W : World) (hW : Free.Bel w10 W) => FA W (bt (hB) hW)
          clear FA HB_w9 hz_w9 KR
          have FA := FN
          clear FN
          have KR := Free.Bel.refl w10
          clear hB
          have hps := HPOS.out j (by omega)
          by_cases h1 : (j : Int) ≤ D
          rotate_left
          · skip
            have g1 : decide ((j : Int) ≤ D) = false := decide_eq_false h1
            have hne : ¬ (a ≤ (j : Int) ∧ (j : Int) ≤ b) := by omega
            have hne2 : (j : Int) ≠ a := by omega
            clear hps
            go_wp2_with fail
            go_roundw
            case rel => exact ⟨j + 1, by omega, rfl, by rw [least_stay ts o a j hne2, HLL.out], by rw [most_stay ts o a b j hab.2.1 hne, HMO.out], by rw [HLS.out], HL_w10⟩
            case measure => simp [intOf]; omega
          by_cases h2 : o - (j : Int) ≤ N - D
          rotate_left
          · skip
            have g1 : decide ((j : Int) ≤ D) = true := decide_eq_true h1
            have g2 : decide (o - (j : Int) ≤ N - D) = false := decide_eq_false h2
            have hne : ¬ (a ≤ (j : Int) ∧ (j : Int) ≤ b) := by omega
            have hne2 : (j : Int) ≠ a := by omega
            clear hps
            go_wp2_with fail
            go_roundw
            case rel => exact ⟨j + 1, by omega, rfl, by rw [least_stay ts o a j hne2, HLL.out], by rw [most_stay ts o a b j hab.2.1 hne, HMO.out], by rw [HLS.out], HL_w10⟩
            case measure => simp [intOf]; omega
          have hpo : a ≤ (j : Int) ∧ (j : Int) ≤ b := by omega
          by_cases h3 : (j : Int) = a
          · skip
            have g1 : decide ((j : Int) ≤ D) = true := decide_eq_true h1
            have g2 : decide (o - (j : Int) ≤ N - D) = true := decide_eq_true h2
            have hl1 : ll = -1 := by rw [← HLL.out, leastF, if_pos (by omega)]
            subst hl1
            have H3 := Lib.hid h3
            clear hps h3
            go_wp2_with fail
            go_roundw
            case rel => exact ⟨j + 1, by omega, rfl, by rw [least_here ts o a j H3.out, HM.out], by rw [most_here ts o a b j hpo, HM.out], by rw [HLS.out], HL_w10⟩
            case measure => simp [intOf]; omega
          · skip
            have g1 : decide ((j : Int) ≤ D) = true := decide_eq_true h1
            have g2 : decide (o - (j : Int) ≤ N - D) = true := decide_eq_true h2
            have hl1 : ll = L := by rw [← HLL.out, leastF, if_neg (by omega)]; exact HL9.out
            have g3 : decide (ll < 0) = false := decide_eq_false (by omega)
            clear hps hl1
            go_wp2_with fail
            go_roundw
            case rel => exact ⟨j + 1, by omega, rfl, by rw [least_stay ts o a j h3, HLL.out], by rw [most_here ts o a b j hpo, HM.out], by rw [HLS.out], HL_w10⟩
            case measure => simp [intOf]; omega
        · have hj2 : (j : Int) = o + 1 := by omega
          have k9 : decide ((j : Int) < o + 1) = false := decide_eq_false hlt
          have e1 : leastF ts o a j = L := by rw [leastF, if_neg (by omega)]; exact HL9.out
          have e2 : mostF ts o a b j = M := by rw [mostF, if_neg (by omega), show min ((j : Int) - 1) b = b by omega]; exact HM9.out
          rw [e1, e2]
          have h11 : (1 : Int) ≤ 1 ∧ (1 : Int) ≤ 9000000000000000000 := by omega
          have hL2 : 0 ≤ L ∧ L ≤ 9000000000000000000 := by omega
          have hM2 : 0 ≤ M ∧ M ≤ 9000000000000000000 := by omega
          clear e1 e2 hj2
          go_wp2_with fail
          have hF : ∀ W, Free.Bel wr.drew W → Free.Bel wr W := fun W hW => bt (Bel.drewT (Free.Bel.refl _)) hW
          refine Free.wp_free (R := Free.Bel) (by kernel_rfl) (by kernel_rfl) Free.Bel.refl Free.Bel.trans ?_
          refine Free.Chain.ex ?_ [] [9] (by kernel_rfl) (by kernel_rfl) rfl Free.Bel.refl ?_ ?_
          rotate_left 2
          simp only [an1, an2]
          refine Free.Chain.ex ?_ [(0, 106)] [] (by kernel_rfl) (by kernel_rfl) rfl Free.Bel.refl ?_ ?_
          rotate_left 2
          simp only [an1, an2]
          rotate_left
          iterate 2 (rotate_left; intro ev W hb hR hO hD; have hS := hF W hR; obtain ⟨hb1, hb2, hb3⟩ := hb; simp only [Free.AllDeps, Free.AllOuts, Free.At, al1, al2, al3, al4, al5, and_true] at hO hD; go_simp; rfl)
          refine Free.Chain.exG ?_ [(1, 107)] [14] 1 true 107 (by kernel_rfl) (by kernel_rfl) rfl (by kernel_rfl) Free.Bel.refl ?_ ?_
          rotate_left 2
          simp only [an1, an2]
          rotate_left
          rotate_left
          · (intro ev W hb hR hO hD; have hS := hF W hR; obtain ⟨hb1, hb2, hb3⟩ := hb; simp only [Free.AllDeps, Free.AllOuts, Free.At, al1, al2, al3, al4, al5, and_true] at hO hD; refine ⟨by simp [hD], ?_⟩; go_simp; rfl)
          refine Free.Chain.prG (fun v _ => v = i2 L 1) [(2, 108), (1, 107), (1, 107)] [] 1 true 107 (by kernel_rfl) (by kernel_rfl) rfl (by kernel_rfl) (fun _ _ _ _ h => h) ?_ ?_
          · (intro ev W hb hR hO hD; have hS := hF W hR; obtain ⟨hb1, hb2, hb3⟩ := hb; simp only [Free.AllDeps, Free.AllOuts, Free.At, al1, al2, al3, al4, al5, and_true] at hO hD; refine ⟨by simp [hD], ?_⟩; go_simp; refine yields_enter ?_; (with_reducible refine (partL_any L 1 _).mono ?_); rintro e W2 ⟨rfl, hB2⟩; exact ⟨_, rfl, hB2, rfl⟩)
          simp only [an1, an2]
          refine Free.Chain.exG ?_ [(1, 107)] [12] 1 true 107 (by kernel_rfl) (by kernel_rfl) rfl (by kernel_rfl) Free.Bel.refl ?_ ?_
          rotate_left 2
          simp only [an1, an2]
          rotate_left
          rotate_left
          · (intro ev W hb hR hO hD; have hS := hF W hR; obtain ⟨hb1, hb2, hb3⟩ := hb; simp only [Free.AllDeps, Free.AllOuts, Free.At, al1, al2, al3, al4, al5, and_true] at hO hD; refine ⟨by simp [hD], ?_⟩; go_simp; rfl)
          refine Free.Chain.prG (fun v _ => v = .bool true) [(3, 109), (4, 110), (3, 109), (1, 107)] [] 1 true 107 (by kernel_rfl) (by kernel_rfl) rfl (by kernel_rfl) (fun _ _ _ _ h => h) ?_ ?_
          · (intro ev W hb hR hO hD; have hS := hF W hR; obtain ⟨hb1, hb2, hb3⟩ := hb; simp only [Free.AllDeps, Free.AllOuts, Free.At, al1, al2, al3, al4, al5, and_true] at hO hD; refine ⟨by simp [hD], ?_⟩; go_simp; refine yields_enter ?_; (with_reducible refine (atMostL_any L 1 p q _ hL2 h11 hpb.1 hpb.2).mono ?_); rintro e W2 ⟨rfl, hB2⟩; exact ⟨_, rfl, hB2, by rw [HKL.out.1]⟩)
          simp only [an1, an2]
          refine Free.Chain.ex ?_ [(1, 107), (5, 111)] [] (by kernel_rfl) (by kernel_rfl) rfl Free.Bel.refl ?_ ?_
          rotate_left 2
          simp only [an1, an2]
          refine Free.Chain.ex ?_ [(6, 112), (5, 111)] [] (by kernel_rfl) (by kernel_rfl) rfl Free.Bel.refl ?_ ?_
          rotate_left 2
          simp only [an1, an2]
          rotate_left
          iterate 2 (rotate_left; intro ev W hb hR hO hD; have hS := hF W hR; obtain ⟨hb1, hb2, hb3⟩ := hb; simp only [Free.AllDeps, Free.AllOuts, Free.At, al1, al2, al3, al4, al5, and_true] at hO hD; go_simp; rfl)
          refine Free.Chain.exG ?_ [(7, 113)] [12] 7 true 113 (by kernel_rfl) (by kernel_rfl) rfl (by kernel_rfl) Free.Bel.refl ?_ ?_
          rotate_left 2
          simp only [an1, an2]
          refine Free.Chain.exG ?_ [(7, 113)] [15] 7 true 113 (by kernel_rfl) (by kernel_rfl) rfl (by kernel_rfl) Free.Bel.refl ?_ ?_
          rotate_left 2
          simp only [an1, an2]
          rotate_left
          iterate 2 (rotate_left; intro ev W hb hR hO hD; have hS := hF W hR; obtain ⟨hb1, hb2, hb3⟩ := hb; simp only [Free.AllDeps, Free.AllOuts, Free.At, al1, al2, al3, al4, al5, and_true] at hO hD; refine ⟨by simp [hD], ?_⟩; go_simp; rfl)
          refine Free.Chain.prG (fun v _ => v = i2 M 1) [(9, 115), (7, 113), (7, 113)] [] 7 true 113 (by kernel_rfl) (by kernel_rfl) rfl (by kernel_rfl) (fun _ _ _ _ h => h) ?_ ?_
          · (intro ev W hb hR hO hD; have hS := hF W hR; obtain ⟨hb1, hb2, hb3⟩ := hb; simp only [Free.AllDeps, Free.AllOuts, Free.At, al1, al2, al3, al4, al5, and_true] at hO hD; refine ⟨by simp [hD], ?_⟩; go_simp; refine yields_enter ?_; (with_reducible refine (partL_any M 1 _).mono ?_); rintro e W2 ⟨rfl, hB2⟩; exact ⟨_, rfl, hB2, rfl⟩)
          simp only [an1, an2]
          refine Free.Chain.prG (fun v _ => v = .bool true) [(8, 114), (10, 116), (10, 116), (7, 113)] [] 7 true 113 (by kernel_rfl) (by kernel_rfl) rfl (by kernel_rfl) (fun _ _ _ _ h => h) ?_ ?_
          · (intro ev W hb hR hO hD; have hS := hF W hR; obtain ⟨hb1, hb2, hb3⟩ := hb; simp only [Free.AllDeps, Free.AllOuts, Free.At, al1, al2, al3, al4, al5, and_true] at hO hD; refine ⟨by simp [hD], ?_⟩; go_simp; refine yields_enter ?_; (with_reducible refine (atMostL_any p q M 1 _ hpb.1 hpb.2 hM2 h11).mono ?_); rintro e W2 ⟨rfl, hB2⟩; exact ⟨_, rfl, hB2, by rw [HKL.out.2]⟩)
          simp only [an1, an2]
          refine Free.Chain.ex ?_ [(7, 113), (11, 117)] [] (by kernel_rfl) (by kernel_rfl) rfl Free.Bel.refl ?_ ?_
          rotate_left 2
          simp only [an1, an2]
          refine Free.Chain.ex ?_ [(12, 118), (11, 117), (0, 106), (1, 107), (2, 108), (3, 109), (4, 110), (5, 111), (6, 112), (7, 113), (8, 114), (9, 115), (10, 116), (11, 117), (12, 118)] [] (by kernel_rfl) (by kernel_rfl) rfl Free.Bel.refl ?_ ?_
          rotate_left 2
          simp only [an1, an2]
          rotate_left
          iterate 2 (rotate_left; intro ev W hb hR hO hD; have hS := hF W hR; obtain ⟨hb1, hb2, hb3⟩ := hb; simp only [Free.AllDeps, Free.AllOuts, Free.At, al1, al2, al3, al4, al5, and_true] at hO hD; go_simp; rfl)
          intro xs w11 hR hV
          simp only [Free.AllV, Free.At, List.length_cons, List.length_nil, Nat.reduceAdd, List.getElem?_cons_succ, List.getElem?_cons_zero, true_and, and_true] at hV
          simp only [Free.putsFrom, Act.put, Nat.zero_add, Nat.reduceAdd, hV, List.setIfInBounds_toArray, List.set_cons_succ, List.set_cons_zero]
          have hN := hF w11 hR
          clear hR hF
          have HB_w11 := Lib.hid (HB_wr.out.trans ((hN).mono hz_wr))
          have hz_w11 : bb ≤ w11.heap.size := Nat.le_trans hz_wr (hN).size
          have HL_w11 : Free.Bel w8 w11 := bt HL_wr (hN)
          clear HL_wr
          have HWR : Free.Bel wr w11 := bt HWR (hN)
          have FN := fun (W : World) (hW : Free.Bel w11 W) => FA W (bt (hN) hW)
          clear FA HB_wr hz_wr KR
          have FA := FN
          clear FN
          have KR := Free.Bel.refl w11
          clear hN hV
          go_wp2_with fail
          go_ret
          have hbb := HBB.out
          subst hbb
          exact ⟨rfl, HB_w11.out⟩
end Go.Proofs.YtdiclofeggkjcaaDoor

/- An argument that is a list of terms. -/
namespace Go.Proofs.YtdiclofeggkjcaaDoor.Law
open Go Go.ChangeShapes Go.WideShapes Go.ChangeAt Go.RowKit
set_option linter.unusedVariables false
set_option linter.unusedSimpArgs false

set_option maxRecDepth 100000 in
theorem terms_open2 {H : Type} {enc : TypeId × Value → H} {W : World} {r : Reach} {b0 : Nat} {sp : Nat → Bool} {held : Bool} {t e : TypeId} {f0 f1 : Field} {v : Value} {d : DataW H} {p : List MemPlace}
    (ht : Tryd.prog.underlying t = some (.slice e)) (he : Tryd.prog.underlying e = some (.struct #[f0, f1])) (ce : Tryd.prog.cellsOf e = 2) (o0 : f0.offset = 0) (o1 : f1.offset = 1) (c0 : Tryd.prog.cellsOf f0.type = 1) (c1 : Tryd.prog.cellsOf f1.type = 1)
    (k0 : Tryd.prog.underlying f0.type = some (.int .i64)) (k1 : Tryd.prog.underlying f1.type = some (.int .i64))
    (hval : Value.okWide Tryd.prog W r b0 t v) (h : DataW.Trod enc Tryd.prog W 0 sp held t v d p) : ∃ (ts : List (Int × Int)) (pp : Option Addr) (cap : Nat), v = .slice pp ts.length cap ∧ PL ts v W ∧ (pp = none → ts = [] ∧ cap = 0) := by
  obtain ⟨a, len, cap, rfl⟩ := okWide_slice ht hval
  obtain ⟨fuel, hf⟩ := h
  rcases Deep.open_slice_pairs ht he ce o0 o1 c0 c1 hf with ⟨h0, _⟩ | ⟨a', len', cap', m, n, V0, V1, D0, D1, P0, P1, h0, _, hlc, hcm, hm, _, hx⟩
  · simp [Value.cells] at h0
    obtain ⟨rfl, rfl, rfl⟩ := h0
    exact ⟨[], none, 0, rfl, PL.nil W, fun _ => ⟨rfl, rfl⟩⟩
  · simp [Value.cells] at h0
    obtain ⟨rfl, rfl, rfl⟩ := h0
    have hlm : len ≤ m := by rw [hm]; split <;> omega
    have each : ∀ i, i < len → ∃ q : Int × Int, W.cell? (a'.add (i * 2)) = some (.int .i64 q.1) ∧ W.cell? (a'.add (i * 2 + 1)) = some (.int .i64 q.2) := by
      intro i hi
      obtain ⟨x0, x1, x2, x3⟩ := hx i (by omega)
      obtain ⟨y, e0, _, _⟩ := DataW.trod_int k0 x2
      obtain ⟨z, e1, _, _⟩ := DataW.trod_int k1 x3
      simp at e0 e1
      rw [e0] at x0
      rw [e1] at x1
      exact ⟨(y, z), x0, x1⟩
    obtain ⟨q, hq⟩ := Deep.choose_lt each
    refine ⟨(List.range len).map q, some a', cap, by simp, ⟨some a', cap, by simp, by simp; unfold maxLen at *; omega, fun hne => ?_⟩, fun h => by cases h⟩
    have hl : 0 < len := by
      rcases Nat.eq_zero_or_pos len with h | h
      · subst h; simp at hne
      · exact h
    obtain ⟨b, off, spot⟩ := a'
    have hs : spot = none := by simpa [Addr.add] using World.cell?_spot (hq 0 hl).1
    subst hs
    refine ⟨b, off, rfl, fun k hk => ?_⟩
    have hk2 : k < len := by simpa using hk
    have h3 := hq k hk2
    simp only [List.getElem_map, List.getElem_range]
    have g0 : (⟨b, off, none⟩ : Addr).add (k * 2) = ⟨b, off + k * 2, none⟩ := by
      unfold Addr.add; split
      · rename_i h; simp [h]
      · rfl
    have g1 : (⟨b, off, none⟩ : Addr).add (k * 2 + 1) = ⟨b, off + k * 2 + 1, none⟩ := by
      unfold Addr.add; rw [if_neg (by omega)]; rfl
    rw [g0, g1] at h3
    exact h3
set_option maxRecDepth 100000 in
theorem terms_open {H : Type} {enc : TypeId × Value → H} {W : World} {r : Reach} {b0 : Nat} {sp : Nat → Bool} {held : Bool} {t e : TypeId} {f0 f1 : Field} {v : Value} {d : DataW H} {p : List MemPlace}
    (ht : Tryd.prog.underlying t = some (.slice e)) (he : Tryd.prog.underlying e = some (.struct #[f0, f1])) (ce : Tryd.prog.cellsOf e = 2) (o0 : f0.offset = 0) (o1 : f1.offset = 1) (c0 : Tryd.prog.cellsOf f0.type = 1) (c1 : Tryd.prog.cellsOf f1.type = 1)
    (k0 : Tryd.prog.underlying f0.type = some (.int .i64)) (k1 : Tryd.prog.underlying f1.type = some (.int .i64))
    (hval : Value.okWide Tryd.prog W r b0 t v) (h : DataW.Trod enc Tryd.prog W 0 sp held t v d p) : ∃ (ts : List (Int × Int)) (pp : Option Addr) (cap : Nat), v = .slice pp ts.length cap ∧ PL ts v W := by
  obtain ⟨ts, pp, cap, h1, h2, _⟩ := terms_open2 ht he ce o0 o1 c0 c1 k0 k1 hval h
  exact ⟨ts, pp, cap, h1, h2⟩
end Go.Proofs.YtdiclofeggkjcaaDoor.Law

/- For every input the law SampleFair returns true, and its arguments read behind the call as they read before; what a double rule is asked lies in the table as the program's text lays it (tied). Condition: that table. -/
namespace Go.Proofs.YtdiclofeggkjcaaDoor.lawSampleFair
open Go Go.ChangeShapes Go.WideShapes Go.ChangeAt Go.RowKit
set_option linter.unusedVariables false
set_option linter.unusedSimpArgs false

set_option maxRecDepth 100000 in
theorem contract (H : Type) (enc : TypeId × Value → H) (W : World) (base : Nat) (args : Array Value) (ds gs : List (DataW H)) (before : List MemPlace)
    (hval : ∀ (j : Nat) t v, Tryd.f10.params[j]? = some t → args[j]? = some v → Value.okWide Tryd.prog W .any base t v)
    (hW : DataW.Whole enc Tryd.prog Tryd.f10.params.toList Rows.sampleFairSpec.vars false W args.toList ds gs before) (hL : laidMetH Tryd.prog Rows.sampleFairRow.laid W) :
    Calls Tryd.prog 10 args W fun e W' => ∃ v, e = .returned v ∧ Rows.sampleFairSpec.post enc Tryd.prog Tryd.f10 false true false false W args v W' := by
  have hW' := hW
  obtain ⟨p, q, hA0, hV, rfl, hfz, hnd⟩ := hW
  have hA : DataW.TrodAll enc Tryd.prog W 0 (fun _ => true) true Tryd.f10.params.toList args.toList ds p := hA0
  have hAk := hA
  rw [Tryd.params10] at hA hval
  obtain ⟨v0, vs0, d0, ds0, p0, q0, hargs, rfl, rfl, h0, r0⟩ := trodAll_cons hA
  obtain ⟨v1, vs1, d1, ds1, p1, q1, rfl, rfl, rfl, h1, r1⟩ := trodAll_cons r0
  obtain ⟨v2, vs2, d2, ds2, p2, q2, rfl, rfl, rfl, h2, r2⟩ := trodAll_cons r1
  obtain ⟨v3, vs3, d3, ds3, p3, q3, rfl, rfl, rfl, h3, r3⟩ := trodAll_cons r2
  obtain ⟨rfl, rfl, rfl⟩ := trodAll_nil r3
  obtain rfl : args = #[v0, v1, v2, v3] := by cases args; simp_all
  obtain ⟨rfl, rfl⟩ := trodVars_none hV
  have hlt : ∀ x ∈ p0 ++ (p1 ++ (p2 ++ (p3 ++ ([])))), x.block < W.heap.size := fun x hx => by
    have := hW'.lt x (by simpa using hx)
    simpa using this
  obtain ⟨N, lo, hi, rfl⟩ := Law.shape12 Tryd.underlying26 (by kernel_rfl) Tryd.underlying3 rfl (by kernel_rfl) rfl (by kernel_rfl) Tryd.underlying24 Tryd.underlying3 Tryd.underlying3 rfl rfl (by kernel_rfl) (by kernel_rfl) (hval 0 26 _ rfl rfl) h0
  obtain ⟨ts, pp, cap, rfl, hpl1⟩ := Law.terms_open Tryd.underlying65 Tryd.underlying115 (by kernel_rfl) rfl rfl (by kernel_rfl) (by kernel_rfl) Tryd.underlying3 Tryd.underlying3 (hval 1 65 _ rfl rfl) h1
  obtain ⟨x, rfl, _, hwf2⟩ := open_int Tryd.underlying5 (hval 2 5 _ rfl rfl) h2
  obtain ⟨e, rfl, _, hwf3⟩ := open_int Tryd.underlying5 (hval 3 5 _ rfl rfl) h3
  refine (fairL_walk N lo hi x e ts pp cap W (Tab.of_laid hL) hpl1 (u8_wf hwf2.2) (u8_wf hwf3.2)).mono fun e W' ⟨he, hg⟩ => ?_
  subst he
  refine ⟨_, rfl, _, _, _, [], p0 ++ (p1 ++ (p2 ++ (p3 ++ ([])))), [], hW', ?_, ?_, ?_, hg.frame _, fun h => by cases h⟩
  · exact trodAll_cons_mk (shut_bool Tryd.underlying4 true) trodAll_mk0
  · exact Law.args_below Tab.laidOut (by kernel_rfl) hg hAk hlt
  · rfl

set_option maxRecDepth 100000 in
theorem lifted (os : Os) (started : os.Started) (H : Type) (enc : TypeId × Value → H) :
    ReturnsInHanded {} Tryd.checked os 10 .any (fun w args => (Rows.sampleFairSpec.pre enc Tryd.prog Tryd.f10 [] false w args ∧ laidMetH Tryd.prog Rows.sampleFairRow.laid w) ∧ sizedMet enc Tryd.prog Tryd.f10 (OpenSpec.ofChange Rows.sampleFairSpec) false w args) (Rows.sampleFairSpec.post enc Tryd.prog Tryd.f10 false true false false) := by
  refine returnsInHanded_of_change_and (C := Tryd.checked) (X := fun w _ => laidMetH Tryd.prog Rows.sampleFairRow.laid w) (fun _ _ _ hh h => h.of_heap hh) Tab.own started (by kernel_rfl) Tryd.func10
    (ChangeSpec.witness_shaped (enc := enc) (C := Tryd.checked) (os := os) (X := fun w _ => laidMetH Tryd.prog Rows.sampleFairRow.laid w) false (World.doorLaid Tryd.prog 17 os) #[.agg #[.int .i64 0, .int .i64 0, .int .i64 0], .slice none 0 0, .int .u8 0, .int .u8 0] 8 rfl (World.shaped_of_RefB (by kernel_rfl) (by kernel_rfl)) (by kernel_rfl) (by kernel_rfl) (by kernel_rfl) (Tab.door_met os _)) ?_
  intro W base args ds gs before hval hW _ _ hL _
  exact contract H enc W base args ds gs before hval hW hL

theorem said : Rows.SampleFairSaid :=
  OpenClaim.holds_of_wide 10 Tryd.f10 rfl rfl rfl rfl rfl rfl rfl ⟨rfl, rfl, rfl, rfl, rfl⟩ rfl rfl rfl rfl rfl (by kernel_rfl) Tryd.func10 (by kernel_rfl)
    (of_decide_eq_true (by kernel_rfl)) (by unfold Func.isWrapper; first | (rw [if_pos (by decide +kernel)]; kernel_rfl) | (rw [if_neg (by decide +kernel)]; exact ⟨rfl, rfl⟩))
    (fun os started H enc _ => lifted os started H enc)

theorem plain (f : FuncId) (fn : Func) (hf : Tryd.pinned.checked.prog.funcNamed "oilcake/oilcakelaw01.SampleFair" = some f) (hfn : Tryd.pinned.checked.prog.funcs[f]? = some fn) :
    false = Tryd.pinned.checked.prog.looks [] ∧ ∀ (j : Nat) t, fn.params[j]? = some t → Tryd.pinned.checked.prog.wantsStandIn t = false := by
  obtain rfl : f = 10 := Option.some.inj ((show Tryd.prog.funcNamed "oilcake/oilcakelaw01.SampleFair" = some 10 by kernel_rfl).symm.trans hf) |>.symm
  obtain rfl : fn = Tryd.f10 := (Option.some.inj (Tryd.func10.symm.trans hfn)).symm
  refine ⟨by kernel_rfl, fun j t ht => ?_⟩
  rw [Tryd.params10] at ht
  have hm := Array.mem_of_getElem? ht
  have hall : (Tryd.f10.params.toList.all fun u => !Tryd.prog.wantsStandIn u) = true := by kernel_rfl
  rw [Tryd.params10] at hall
  exact (show Tryd.prog.wantsStandIn t = false by simpa using List.all_eq_true.1 hall t (by simpa using hm))

theorem card : Rows.SampleFairCardSaid :=
  Claim7.holds_tied_plain_at .later [] _ _ _ _ said (fun _ h => by cases h) (by kernel_rfl) (fun _ h => by cases h) sampleFair_row_tie rfl ⟨rfl, rfl⟩ (by kernel_rfl) rfl plain (by kernel_rfl)
#print axioms card
end Go.Proofs.YtdiclofeggkjcaaDoor.lawSampleFair

