/- The reference's Terms. -/
import Derived.Test.YtfdbegohjlijoaaB3
import Derived.Shelf.Small.Bits
import Derived.Shelf.Small.Wraps
import Derived.Shelf.Strconv.Itoa0
import Derived.Shelf.Sort.Plain
import Derived.Shelf.Slices.Turned
import Derived.Ground.Names2Prog
import Derived.Shelf.Slices.SearchI
import Derived.Shelf.Slices.In.SortNone
import Derived.Test.YtfdbegohjlijoaaProg
import Derived.Outline
import Derived.Test.YtfdbegohjlijoaaRows
import Derived.WalkKit
import Derived.ProofKit
import Derived.OpenShut
import Derived.JoinedCond
import Derived.Carry
import Derived.Deep.Strs
import Derived.Lib.SmallJoins
import Derived.Deep.SlicePairs
namespace Go.Proofs.Ytfdbegohjlijoaa
set_option linter.unusedSimpArgs false
set_option linter.unusedVariables false
open Go.RowKit Go.Proofs.Ytfdbegohjlijoaa.ML Go.Proofs.Ytfdbegohjlijoaa.Samp

set_option maxRecDepth 100000 in
set_option maxHeartbeats 8000000 in
theorem terms_v (xs : List (Int × Int)) (v : Value) (w : World) (hv : PL xs v w) (r : Bool) (hr : Hid (decide (agreedE xs = 0) = r)) :
    Calls Try.prog 67 #[v] w fun e w' => e = .returned (.bool r) ∧ Below w.heap.size w w' := by
  obtain ⟨pp, cap, rfl, hm, hcells⟩ := hv
  unfold maxLen at hm
  have HC := Lib.hid hcells
  clear hcells
  by_cases hl : xs.length ≤ 5
  · have k0 : decide (5 < (xs.length : Int)) = false := decide_eq_false (by omega)
    have hr2 : Hid (agreedFrom 0 0 xs = r) := by
      show _ = _
      rw [← hr.out, agreedE]
      cases h : agreedFrom 0 0 xs
      · simp
      · have h5 : decide ((xs.length : Int) ≤ 5) = true := decide_eq_true (by omega)
        simp [unlessV, h5]
    clear hr
    go_enter Try.func67, Try.ntmps67
    go_wp2_with fail
    clear k0
    go_loopw [3] (fun i wr => ∃ (k : Nat) (f p : Int), k ≤ xs.length ∧ i = .int .i64 k ∧ 0 ≤ f ∧ 0 ≤ p ∧ Hid (agreedFrom f p (xs.drop k) = r) ∧ Hid (k = 0 → f = 0 ∧ p = 0) ∧ Hid (∀ j (h : j < xs.length), j + 1 = k → xs[j] = (f, p)) ∧ Free.Bel w wr) (fun i _ => xs.length - (intOf i).toNat)
    case atStart => exact ⟨0, 0, 0, Nat.zero_le _, rfl, by omega, by omega, hr2, fun _ => ⟨rfl, rfl⟩, fun j h e => by omega, Free.Bel.refl _⟩
    case round =>
      obtain ⟨k, f, p, hk, rfl, hf0, hp0, HAG, HZ, HPR, hB⟩ := hrel
      by_cases hlt : k < xs.length
      · obtain ⟨b, off, rfl, hcs⟩ := HC.out (by intro h; rw [h] at hlt; simp at hlt)
        obtain ⟨e0, e1⟩ := hcs k hlt
        have c0 := keepsB hB e0
        have c1 := keepsB hB e1
        have hdrop : xs.drop k = xs[k] :: xs.drop (k + 1) := List.drop_eq_getElem_cons hlt
        have hst : Hid ((inB (f + 1) 100 [xs[k].1] && (inB p 1000000 [xs[k].2] && agreedFrom xs[k].1 xs[k].2 (xs.drop (k + 1)))) = r) := by show _ = _; rw [← HAG.out, hdrop]; rfl
        have HX : Hid (xs[k] = (xs[k].1, xs[k].2)) := rfl
        have HCS := Lib.hid hcs
        clear e0 e1 hcs HAG hdrop
        have hklt : (k : Int) < xs.length := by omega
        have HLT := Lib.hid hlt
        generalize xs[k].1 = x at *
        generalize xs[k].2 = y at *
        have hK0 : ∀ W, Free.Bel wr.drew W → Free.Bel wr W := fun W hW => bt (Bel.drewT (Free.Bel.refl _)) hW
        cases h1 : inB 1 100 [x]
        · have hres : r = false := by
            rw [← hst.out]
            have : inB (f + 1) 100 [x] = false := by
              simp [inB] at h1 ⊢; omega
            rw [this]; rfl
          subst hres
          have H1 := Lib.hid h1
          clear h1
          have hF : ∀ W, Free.Bel wr.drew W → W.cell? ⟨b, off + k * 2, none⟩ = some (.int .i64 x) ∧ W.cell? ⟨b, off + k * 2 + 1, none⟩ = some (.int .i64 y) := fun W hW => ⟨keepsB (hK0 W hW) c0, keepsB (hK0 W hW) c1⟩
          go_wp2_with fail
          refine Free.wp_free (R := Free.Bel) (by kernel_rfl) (by kernel_rfl) Free.Bel.refl Free.Bel.trans ?_
          refine Free.Chain.ex ?_ [] [0] (by kernel_rfl) (by kernel_rfl) rfl Free.Bel.refl ?_ ?_
          rotate_left 2
          simp only [an1, an2]
          refine Free.Chain.ex ?_ [] [3] (by kernel_rfl) (by kernel_rfl) rfl Free.Bel.refl ?_ ?_
          rotate_left 2
          simp only [an1, an2]
          refine Free.Chain.ex ?_ [(0, 13), (1, 14)] [] (by kernel_rfl) (by kernel_rfl) rfl Free.Bel.refl ?_ ?_
          rotate_left 2
          simp only [an1, an2]
          refine Free.Chain.ex ?_ [(2, 15)] [] (by kernel_rfl) (by kernel_rfl) rfl Free.Bel.refl ?_ ?_
          rotate_left 2
          simp only [an1, an2]
          refine Free.Chain.ex ?_ [(3, 16)] [] (by kernel_rfl) (by kernel_rfl) rfl Free.Bel.refl ?_ ?_
          rotate_left 2
          simp only [an1, an2]
          rotate_left
          iterate 5 (rotate_left; intro ev W hb hR hO hD; have hS := hF W hR; obtain ⟨hb1, hb2, hb3⟩ := hb; simp only [Free.AllDeps, Free.AllOuts, Free.At, al1, al2, al3, al4, al5, and_true] at hO hD; go_simp; rfl)
          refine Free.Chain.pr (fun v _ => v = .bool false) [(4, 17)] [] (by kernel_rfl) (by kernel_rfl) rfl (fun _ _ _ _ h => h) ?_ ?_
          · (intro ev W hb hR hO hD; have hS := hF W hR; obtain ⟨hb1, hb2, hb3⟩ := hb; simp only [Free.AllDeps, Free.AllOuts, Free.At, al1, al2, al3, al4, al5, and_true] at hO hD; go_simp; refine yields_enter ?_; (with_reducible refine (within_any x 1 100 false _ H1.out).mono ?_); rintro e W2 ⟨rfl, rfl⟩; exact ⟨_, rfl, Free.Bel.refl _, rfl⟩)
          simp only [an1, an2]
          refine Free.Chain.ex ?_ [(5, 18)] [] (by kernel_rfl) (by kernel_rfl) rfl Free.Bel.refl ?_ ?_
          rotate_left 2
          simp only [an1, an2]
          refine Free.Chain.ex ?_ [(6, 19), (5, 18)] [] (by kernel_rfl) (by kernel_rfl) rfl Free.Bel.refl ?_ ?_
          rotate_left 2
          simp only [an1, an2]
          rotate_left
          iterate 2 (rotate_left; intro ev W hb hR hO hD; have hS := hF W hR; obtain ⟨hb1, hb2, hb3⟩ := hb; simp only [Free.AllDeps, Free.AllOuts, Free.At, al1, al2, al3, al4, al5, and_true] at hO hD; go_simp; rfl)
          refine Free.Chain.no [(7, 20)] [0] 7 false 20 (by kernel_rfl) (by kernel_rfl) rfl (by kernel_rfl) ?_ ?_
          · (intro ev W hR hD; simp only [Free.AllDeps, Free.At, List.getElem?_cons_succ, List.getElem?_cons_zero, and_true] at hD; simp [hD])
          simp only [an1, an2]
          refine Free.Chain.no [(7, 20)] [3] 7 false 20 (by kernel_rfl) (by kernel_rfl) rfl (by kernel_rfl) ?_ ?_
          · (intro ev W hR hD; simp only [Free.AllDeps, Free.At, List.getElem?_cons_succ, List.getElem?_cons_zero, and_true] at hD; simp [hD])
          simp only [an1, an2]
          refine Free.Chain.no [(8, 21), (9, 22), (7, 20)] [] 7 false 20 (by kernel_rfl) (by kernel_rfl) rfl (by kernel_rfl) ?_ ?_
          · (intro ev W hR hD; simp only [Free.AllDeps, Free.At, List.getElem?_cons_succ, List.getElem?_cons_zero, and_true] at hD; simp [hD])
          simp only [an1, an2]
          refine Free.Chain.no [(10, 23), (7, 20)] [] 7 false 20 (by kernel_rfl) (by kernel_rfl) rfl (by kernel_rfl) ?_ ?_
          · (intro ev W hR hD; simp only [Free.AllDeps, Free.At, List.getElem?_cons_succ, List.getElem?_cons_zero, and_true] at hD; simp [hD])
          simp only [an1, an2]
          refine Free.Chain.no [(11, 24), (7, 20)] [] 7 false 20 (by kernel_rfl) (by kernel_rfl) rfl (by kernel_rfl) ?_ ?_
          · (intro ev W hR hD; simp only [Free.AllDeps, Free.At, List.getElem?_cons_succ, List.getElem?_cons_zero, and_true] at hD; simp [hD])
          simp only [an1, an2]
          refine Free.Chain.no [(12, 25), (7, 20), (7, 20)] [] 7 false 20 (by kernel_rfl) (by kernel_rfl) rfl (by kernel_rfl) ?_ ?_
          · (intro ev W hR hD; simp only [Free.AllDeps, Free.At, List.getElem?_cons_succ, List.getElem?_cons_zero, and_true] at hD; simp [hD])
          simp only [an1, an2]
          refine Free.Chain.no [(13, 26), (7, 20)] [] 7 false 20 (by kernel_rfl) (by kernel_rfl) rfl (by kernel_rfl) ?_ ?_
          · (intro ev W hR hD; simp only [Free.AllDeps, Free.At, List.getElem?_cons_succ, List.getElem?_cons_zero, and_true] at hD; simp [hD])
          simp only [an1, an2]
          refine Free.Chain.ex ?_ [(7, 20), (14, 27)] [] (by kernel_rfl) (by kernel_rfl) rfl Free.Bel.refl ?_ ?_
          rotate_left 2
          simp only [an1, an2]
          refine Free.Chain.ex ?_ [(15, 28), (13, 26)] [] (by kernel_rfl) (by kernel_rfl) rfl Free.Bel.refl ?_ ?_
          rotate_left 2
          simp only [an1, an2]
          rotate_left
          iterate 2 (rotate_left; intro ev W hb hR hO hD; have hS := hF W hR; obtain ⟨hb1, hb2, hb3⟩ := hb; simp only [Free.AllDeps, Free.AllOuts, Free.At, al1, al2, al3, al4, al5, and_true] at hO hD; go_simp; rfl)
          refine Free.Chain.no [(16, 29)] [3] 16 false 29 (by kernel_rfl) (by kernel_rfl) rfl (by kernel_rfl) ?_ ?_
          · (intro ev W hR hD; simp only [Free.AllDeps, Free.At, List.getElem?_cons_succ, List.getElem?_cons_zero, and_true] at hD; simp [hD])
          simp only [an1, an2]
          refine Free.Chain.no [(17, 30), (16, 29)] [] 16 false 29 (by kernel_rfl) (by kernel_rfl) rfl (by kernel_rfl) ?_ ?_
          · (intro ev W hR hD; simp only [Free.AllDeps, Free.At, List.getElem?_cons_succ, List.getElem?_cons_zero, and_true] at hD; simp [hD])
          simp only [an1, an2]
          refine Free.Chain.no [(18, 31), (16, 29), (16, 29)] [] 16 false 29 (by kernel_rfl) (by kernel_rfl) rfl (by kernel_rfl) ?_ ?_
          · (intro ev W hR hD; simp only [Free.AllDeps, Free.At, List.getElem?_cons_succ, List.getElem?_cons_zero, and_true] at hD; simp [hD])
          simp only [an1, an2]
          refine Free.Chain.no [(19, 32)] [0] 19 true 32 (by kernel_rfl) (by kernel_rfl) rfl (by kernel_rfl) ?_ ?_
          · (intro ev W hR hD; simp only [Free.AllDeps, Free.At, List.getElem?_cons_succ, List.getElem?_cons_zero, and_true] at hD; simp [hD])
          simp only [an1, an2]
          refine Free.Chain.no [(19, 32)] [3] 19 true 32 (by kernel_rfl) (by kernel_rfl) rfl (by kernel_rfl) ?_ ?_
          · (intro ev W hR hD; simp only [Free.AllDeps, Free.At, List.getElem?_cons_succ, List.getElem?_cons_zero, and_true] at hD; simp [hD])
          simp only [an1, an2]
          refine Free.Chain.no [(21, 34), (19, 32)] [] 19 true 32 (by kernel_rfl) (by kernel_rfl) rfl (by kernel_rfl) ?_ ?_
          · (intro ev W hR hD; simp only [Free.AllDeps, Free.At, List.getElem?_cons_succ, List.getElem?_cons_zero, and_true] at hD; simp [hD])
          simp only [an1, an2]
          refine Free.Chain.no [(20, 33), (22, 35), (19, 32)] [] 19 true 32 (by kernel_rfl) (by kernel_rfl) rfl (by kernel_rfl) ?_ ?_
          · (intro ev W hR hD; simp only [Free.AllDeps, Free.At, List.getElem?_cons_succ, List.getElem?_cons_zero, and_true] at hD; simp [hD])
          simp only [an1, an2]
          refine Free.Chain.no [(23, 36), (19, 32)] [] 19 true 32 (by kernel_rfl) (by kernel_rfl) rfl (by kernel_rfl) ?_ ?_
          · (intro ev W hR hD; simp only [Free.AllDeps, Free.At, List.getElem?_cons_succ, List.getElem?_cons_zero, and_true] at hD; simp [hD])
          simp only [an1, an2]
          refine Free.Chain.no [(24, 37), (19, 32)] [] 19 true 32 (by kernel_rfl) (by kernel_rfl) rfl (by kernel_rfl) ?_ ?_
          · (intro ev W hR hD; simp only [Free.AllDeps, Free.At, List.getElem?_cons_succ, List.getElem?_cons_zero, and_true] at hD; simp [hD])
          simp only [an1, an2]
          refine Free.Chain.no [(19, 32)] [0] 19 true 32 (by kernel_rfl) (by kernel_rfl) rfl (by kernel_rfl) ?_ ?_
          · (intro ev W hR hD; simp only [Free.AllDeps, Free.At, List.getElem?_cons_succ, List.getElem?_cons_zero, and_true] at hD; simp [hD])
          simp only [an1, an2]
          refine Free.Chain.no [(19, 32)] [3] 19 true 32 (by kernel_rfl) (by kernel_rfl) rfl (by kernel_rfl) ?_ ?_
          · (intro ev W hR hD; simp only [Free.AllDeps, Free.At, List.getElem?_cons_succ, List.getElem?_cons_zero, and_true] at hD; simp [hD])
          simp only [an1, an2]
          refine Free.Chain.no [(26, 39), (27, 40), (19, 32)] [] 19 true 32 (by kernel_rfl) (by kernel_rfl) rfl (by kernel_rfl) ?_ ?_
          · (intro ev W hR hD; simp only [Free.AllDeps, Free.At, List.getElem?_cons_succ, List.getElem?_cons_zero, and_true] at hD; simp [hD])
          simp only [an1, an2]
          refine Free.Chain.no [(28, 41), (19, 32)] [] 19 true 32 (by kernel_rfl) (by kernel_rfl) rfl (by kernel_rfl) ?_ ?_
          · (intro ev W hR hD; simp only [Free.AllDeps, Free.At, List.getElem?_cons_succ, List.getElem?_cons_zero, and_true] at hD; simp [hD])
          simp only [an1, an2]
          refine Free.Chain.no [(29, 42), (19, 32)] [] 19 true 32 (by kernel_rfl) (by kernel_rfl) rfl (by kernel_rfl) ?_ ?_
          · (intro ev W hR hD; simp only [Free.AllDeps, Free.At, List.getElem?_cons_succ, List.getElem?_cons_zero, and_true] at hD; simp [hD])
          simp only [an1, an2]
          refine Free.Chain.no [(25, 38), (30, 43), (19, 32)] [] 19 true 32 (by kernel_rfl) (by kernel_rfl) rfl (by kernel_rfl) ?_ ?_
          · (intro ev W hR hD; simp only [Free.AllDeps, Free.At, List.getElem?_cons_succ, List.getElem?_cons_zero, and_true] at hD; simp [hD])
          simp only [an1, an2]
          refine Free.Chain.no [(31, 44), (19, 32), (19, 32)] [] 19 true 32 (by kernel_rfl) (by kernel_rfl) rfl (by kernel_rfl) ?_ ?_
          · (intro ev W hR hD; simp only [Free.AllDeps, Free.At, List.getElem?_cons_succ, List.getElem?_cons_zero, and_true] at hD; simp [hD])
          simp only [an1, an2]
          refine Free.Chain.no [(32, 45)] [0] 32 false 45 (by kernel_rfl) (by kernel_rfl) rfl (by kernel_rfl) ?_ ?_
          · (intro ev W hR hD; simp only [Free.AllDeps, Free.At, List.getElem?_cons_succ, List.getElem?_cons_zero, and_true] at hD; simp [hD])
          simp only [an1, an2]
          refine Free.Chain.no [(32, 45)] [3] 32 false 45 (by kernel_rfl) (by kernel_rfl) rfl (by kernel_rfl) ?_ ?_
          · (intro ev W hR hD; simp only [Free.AllDeps, Free.At, List.getElem?_cons_succ, List.getElem?_cons_zero, and_true] at hD; simp [hD])
          simp only [an1, an2]
          refine Free.Chain.no [(34, 47), (32, 45)] [] 32 false 45 (by kernel_rfl) (by kernel_rfl) rfl (by kernel_rfl) ?_ ?_
          · (intro ev W hR hD; simp only [Free.AllDeps, Free.At, List.getElem?_cons_succ, List.getElem?_cons_zero, and_true] at hD; simp [hD])
          simp only [an1, an2]
          refine Free.Chain.no [(33, 46), (35, 48), (32, 45)] [] 32 false 45 (by kernel_rfl) (by kernel_rfl) rfl (by kernel_rfl) ?_ ?_
          · (intro ev W hR hD; simp only [Free.AllDeps, Free.At, List.getElem?_cons_succ, List.getElem?_cons_zero, and_true] at hD; simp [hD])
          simp only [an1, an2]
          refine Free.Chain.no [(36, 49), (32, 45)] [] 32 false 45 (by kernel_rfl) (by kernel_rfl) rfl (by kernel_rfl) ?_ ?_
          · (intro ev W hR hD; simp only [Free.AllDeps, Free.At, List.getElem?_cons_succ, List.getElem?_cons_zero, and_true] at hD; simp [hD])
          simp only [an1, an2]
          refine Free.Chain.no [(37, 50), (32, 45)] [] 32 false 45 (by kernel_rfl) (by kernel_rfl) rfl (by kernel_rfl) ?_ ?_
          · (intro ev W hR hD; simp only [Free.AllDeps, Free.At, List.getElem?_cons_succ, List.getElem?_cons_zero, and_true] at hD; simp [hD])
          simp only [an1, an2]
          refine Free.Chain.no [(32, 45)] [0] 32 false 45 (by kernel_rfl) (by kernel_rfl) rfl (by kernel_rfl) ?_ ?_
          · (intro ev W hR hD; simp only [Free.AllDeps, Free.At, List.getElem?_cons_succ, List.getElem?_cons_zero, and_true] at hD; simp [hD])
          simp only [an1, an2]
          refine Free.Chain.no [(32, 45)] [3] 32 false 45 (by kernel_rfl) (by kernel_rfl) rfl (by kernel_rfl) ?_ ?_
          · (intro ev W hR hD; simp only [Free.AllDeps, Free.At, List.getElem?_cons_succ, List.getElem?_cons_zero, and_true] at hD; simp [hD])
          simp only [an1, an2]
          refine Free.Chain.no [(39, 52), (40, 53), (32, 45)] [] 32 false 45 (by kernel_rfl) (by kernel_rfl) rfl (by kernel_rfl) ?_ ?_
          · (intro ev W hR hD; simp only [Free.AllDeps, Free.At, List.getElem?_cons_succ, List.getElem?_cons_zero, and_true] at hD; simp [hD])
          simp only [an1, an2]
          refine Free.Chain.no [(41, 54), (32, 45)] [] 32 false 45 (by kernel_rfl) (by kernel_rfl) rfl (by kernel_rfl) ?_ ?_
          · (intro ev W hR hD; simp only [Free.AllDeps, Free.At, List.getElem?_cons_succ, List.getElem?_cons_zero, and_true] at hD; simp [hD])
          simp only [an1, an2]
          refine Free.Chain.no [(42, 55), (32, 45)] [] 32 false 45 (by kernel_rfl) (by kernel_rfl) rfl (by kernel_rfl) ?_ ?_
          · (intro ev W hR hD; simp only [Free.AllDeps, Free.At, List.getElem?_cons_succ, List.getElem?_cons_zero, and_true] at hD; simp [hD])
          simp only [an1, an2]
          refine Free.Chain.no [(38, 51), (43, 56), (32, 45)] [] 32 false 45 (by kernel_rfl) (by kernel_rfl) rfl (by kernel_rfl) ?_ ?_
          · (intro ev W hR hD; simp only [Free.AllDeps, Free.At, List.getElem?_cons_succ, List.getElem?_cons_zero, and_true] at hD; simp [hD])
          simp only [an1, an2]
          refine Free.Chain.no [(32, 45), (44, 57), (19, 32)] [] 19 true 32 (by kernel_rfl) (by kernel_rfl) rfl (by kernel_rfl) ?_ ?_
          · (intro ev W hR hD; simp only [Free.AllDeps, Free.At, List.getElem?_cons_succ, List.getElem?_cons_zero, and_true] at hD; simp [hD])
          simp only [an1, an2]
          refine Free.Chain.no [(19, 32), (45, 58), (16, 29)] [] 16 false 29 (by kernel_rfl) (by kernel_rfl) rfl (by kernel_rfl) ?_ ?_
          · (intro ev W hR hD; simp only [Free.AllDeps, Free.At, List.getElem?_cons_succ, List.getElem?_cons_zero, and_true] at hD; simp [hD])
          simp only [an1, an2]
          refine Free.Chain.ex ?_ [(16, 29), (46, 59)] [] (by kernel_rfl) (by kernel_rfl) rfl Free.Bel.refl ?_ ?_
          rotate_left 2
          simp only [an1, an2]
          rotate_left
          rotate_left
          · (intro ev W hb hR hO hD; have hS := hF W hR; obtain ⟨hb1, hb2, hb3⟩ := hb; simp only [Free.AllDeps, Free.AllOuts, Free.At, al1, al2, al3, al4, al5, and_true] at hO hD; go_simp; rfl)
          intro xs w2 hR hV
          simp only [Free.AllV, Free.At, List.length_cons, List.length_nil, Nat.reduceAdd, List.getElem?_cons_succ, List.getElem?_cons_zero, true_and] at hV
          simp only [Free.putsFrom, Act.put, Nat.zero_add, Nat.reduceAdd, hV, List.setIfInBounds_toArray, List.set_cons_succ, List.set_cons_zero]
          have hB2 := bt hB (hK0 _ hR)
          clear hR hV hF hK0
          go_wp2_with fail
          go_ret
          exact ⟨rfl, hB2⟩
        · have hx1 : 1 ≤ x ∧ x ≤ 100 := by simpa [inB] using h1
          have H1 := Lib.hid h1
          clear h1
          cases h2 : inB 0 1000000 [y]
          · have hres : r = false := by
              rw [← hst.out]
              have : inB p 1000000 [y] = false := by
                simp [inB] at h2 ⊢; omega
              rw [this]; simp
            subst hres
            have H2 := Lib.hid h2
            clear h2
            have hF : ∀ W, Free.Bel wr.drew W → W.cell? ⟨b, off + k * 2, none⟩ = some (.int .i64 x) ∧ W.cell? ⟨b, off + k * 2 + 1, none⟩ = some (.int .i64 y) := fun W hW => ⟨keepsB (hK0 W hW) c0, keepsB (hK0 W hW) c1⟩
            go_wp2_with fail
            refine Free.wp_free (R := Free.Bel) (by kernel_rfl) (by kernel_rfl) Free.Bel.refl Free.Bel.trans ?_
            refine Free.Chain.ex ?_ [] [0] (by kernel_rfl) (by kernel_rfl) rfl Free.Bel.refl ?_ ?_
            rotate_left 2
            simp only [an1, an2]
            refine Free.Chain.ex ?_ [] [3] (by kernel_rfl) (by kernel_rfl) rfl Free.Bel.refl ?_ ?_
            rotate_left 2
            simp only [an1, an2]
            refine Free.Chain.ex ?_ [(0, 13), (1, 14)] [] (by kernel_rfl) (by kernel_rfl) rfl Free.Bel.refl ?_ ?_
            rotate_left 2
            simp only [an1, an2]
            refine Free.Chain.ex ?_ [(2, 15)] [] (by kernel_rfl) (by kernel_rfl) rfl Free.Bel.refl ?_ ?_
            rotate_left 2
            simp only [an1, an2]
            refine Free.Chain.ex ?_ [(3, 16)] [] (by kernel_rfl) (by kernel_rfl) rfl Free.Bel.refl ?_ ?_
            rotate_left 2
            simp only [an1, an2]
            rotate_left
            iterate 5 (rotate_left; intro ev W hb hR hO hD; have hS := hF W hR; obtain ⟨hb1, hb2, hb3⟩ := hb; simp only [Free.AllDeps, Free.AllOuts, Free.At, al1, al2, al3, al4, al5, and_true] at hO hD; go_simp; rfl)
            refine Free.Chain.pr (fun v _ => v = .bool true) [(4, 17)] [] (by kernel_rfl) (by kernel_rfl) rfl (fun _ _ _ _ h => h) ?_ ?_
            · (intro ev W hb hR hO hD; have hS := hF W hR; obtain ⟨hb1, hb2, hb3⟩ := hb; simp only [Free.AllDeps, Free.AllOuts, Free.At, al1, al2, al3, al4, al5, and_true] at hO hD; go_simp; refine yields_enter ?_; (with_reducible refine (within_any x 1 100 true _ H1.out).mono ?_); rintro e W2 ⟨rfl, rfl⟩; exact ⟨_, rfl, Free.Bel.refl _, rfl⟩)
            simp only [an1, an2]
            refine Free.Chain.ex ?_ [(5, 18)] [] (by kernel_rfl) (by kernel_rfl) rfl Free.Bel.refl ?_ ?_
            rotate_left 2
            simp only [an1, an2]
            refine Free.Chain.ex ?_ [(6, 19), (5, 18)] [] (by kernel_rfl) (by kernel_rfl) rfl Free.Bel.refl ?_ ?_
            rotate_left 2
            simp only [an1, an2]
            rotate_left
            iterate 2 (rotate_left; intro ev W hb hR hO hD; have hS := hF W hR; obtain ⟨hb1, hb2, hb3⟩ := hb; simp only [Free.AllDeps, Free.AllOuts, Free.At, al1, al2, al3, al4, al5, and_true] at hO hD; go_simp; rfl)
            refine Free.Chain.exG ?_ [(7, 20)] [0] 7 false 20 (by kernel_rfl) (by kernel_rfl) rfl (by kernel_rfl) Free.Bel.refl ?_ ?_
            rotate_left 2
            simp only [an1, an2]
            refine Free.Chain.exG ?_ [(7, 20)] [3] 7 false 20 (by kernel_rfl) (by kernel_rfl) rfl (by kernel_rfl) Free.Bel.refl ?_ ?_
            rotate_left 2
            simp only [an1, an2]
            refine Free.Chain.exG ?_ [(8, 21), (9, 22), (7, 20)] [] 7 false 20 (by kernel_rfl) (by kernel_rfl) rfl (by kernel_rfl) Free.Bel.refl ?_ ?_
            rotate_left 2
            simp only [an1, an2]
            refine Free.Chain.exG ?_ [(10, 23), (7, 20)] [] 7 false 20 (by kernel_rfl) (by kernel_rfl) rfl (by kernel_rfl) Free.Bel.refl ?_ ?_
            rotate_left 2
            simp only [an1, an2]
            refine Free.Chain.exG ?_ [(11, 24), (7, 20)] [] 7 false 20 (by kernel_rfl) (by kernel_rfl) rfl (by kernel_rfl) Free.Bel.refl ?_ ?_
            rotate_left 2
            simp only [an1, an2]
            rotate_left
            iterate 5 (rotate_left; intro ev W hb hR hO hD; have hS := hF W hR; obtain ⟨hb1, hb2, hb3⟩ := hb; simp only [Free.AllDeps, Free.AllOuts, Free.At, al1, al2, al3, al4, al5, and_true] at hO hD; refine ⟨by simp [hD], ?_⟩; go_simp; rfl)
            refine Free.Chain.prG (fun v _ => v = .bool false) [(12, 25), (7, 20), (7, 20)] [] 7 false 20 (by kernel_rfl) (by kernel_rfl) rfl (by kernel_rfl) (fun _ _ _ _ h => h) ?_ ?_
            · (intro ev W hb hR hO hD; have hS := hF W hR; obtain ⟨hb1, hb2, hb3⟩ := hb; simp only [Free.AllDeps, Free.AllOuts, Free.At, al1, al2, al3, al4, al5, and_true] at hO hD; refine ⟨by simp [hD], ?_⟩; go_simp; refine yields_enter ?_; (with_reducible refine (within_any y 0 1000000 false _ H2.out).mono ?_); rintro e W2 ⟨rfl, rfl⟩; exact ⟨_, rfl, Free.Bel.refl _, rfl⟩)
            simp only [an1, an2]
            refine Free.Chain.exG ?_ [(13, 26), (7, 20)] [] 7 false 20 (by kernel_rfl) (by kernel_rfl) rfl (by kernel_rfl) Free.Bel.refl ?_ ?_
            rotate_left 2
            simp only [an1, an2]
            rotate_left
            rotate_left
            · (intro ev W hb hR hO hD; have hS := hF W hR; obtain ⟨hb1, hb2, hb3⟩ := hb; simp only [Free.AllDeps, Free.AllOuts, Free.At, al1, al2, al3, al4, al5, and_true] at hO hD; refine ⟨by simp [hD], ?_⟩; go_simp; rfl)
            refine Free.Chain.ex ?_ [(7, 20), (14, 27)] [] (by kernel_rfl) (by kernel_rfl) rfl Free.Bel.refl ?_ ?_
            rotate_left 2
            simp only [an1, an2]
            refine Free.Chain.ex ?_ [(15, 28), (13, 26)] [] (by kernel_rfl) (by kernel_rfl) rfl Free.Bel.refl ?_ ?_
            rotate_left 2
            simp only [an1, an2]
            rotate_left
            iterate 2 (rotate_left; intro ev W hb hR hO hD; have hS := hF W hR; obtain ⟨hb1, hb2, hb3⟩ := hb; simp only [Free.AllDeps, Free.AllOuts, Free.At, al1, al2, al3, al4, al5, and_true] at hO hD; go_simp; rfl)
            refine Free.Chain.no [(16, 29)] [3] 16 false 29 (by kernel_rfl) (by kernel_rfl) rfl (by kernel_rfl) ?_ ?_
            · (intro ev W hR hD; simp only [Free.AllDeps, Free.At, List.getElem?_cons_succ, List.getElem?_cons_zero, and_true] at hD; simp [hD])
            simp only [an1, an2]
            refine Free.Chain.no [(17, 30), (16, 29)] [] 16 false 29 (by kernel_rfl) (by kernel_rfl) rfl (by kernel_rfl) ?_ ?_
            · (intro ev W hR hD; simp only [Free.AllDeps, Free.At, List.getElem?_cons_succ, List.getElem?_cons_zero, and_true] at hD; simp [hD])
            simp only [an1, an2]
            refine Free.Chain.no [(18, 31), (16, 29), (16, 29)] [] 16 false 29 (by kernel_rfl) (by kernel_rfl) rfl (by kernel_rfl) ?_ ?_
            · (intro ev W hR hD; simp only [Free.AllDeps, Free.At, List.getElem?_cons_succ, List.getElem?_cons_zero, and_true] at hD; simp [hD])
            simp only [an1, an2]
            refine Free.Chain.no [(19, 32)] [0] 19 true 32 (by kernel_rfl) (by kernel_rfl) rfl (by kernel_rfl) ?_ ?_
            · (intro ev W hR hD; simp only [Free.AllDeps, Free.At, List.getElem?_cons_succ, List.getElem?_cons_zero, and_true] at hD; simp [hD])
            simp only [an1, an2]
            refine Free.Chain.no [(19, 32)] [3] 19 true 32 (by kernel_rfl) (by kernel_rfl) rfl (by kernel_rfl) ?_ ?_
            · (intro ev W hR hD; simp only [Free.AllDeps, Free.At, List.getElem?_cons_succ, List.getElem?_cons_zero, and_true] at hD; simp [hD])
            simp only [an1, an2]
            refine Free.Chain.no [(21, 34), (19, 32)] [] 19 true 32 (by kernel_rfl) (by kernel_rfl) rfl (by kernel_rfl) ?_ ?_
            · (intro ev W hR hD; simp only [Free.AllDeps, Free.At, List.getElem?_cons_succ, List.getElem?_cons_zero, and_true] at hD; simp [hD])
            simp only [an1, an2]
            refine Free.Chain.no [(20, 33), (22, 35), (19, 32)] [] 19 true 32 (by kernel_rfl) (by kernel_rfl) rfl (by kernel_rfl) ?_ ?_
            · (intro ev W hR hD; simp only [Free.AllDeps, Free.At, List.getElem?_cons_succ, List.getElem?_cons_zero, and_true] at hD; simp [hD])
            simp only [an1, an2]
            refine Free.Chain.no [(23, 36), (19, 32)] [] 19 true 32 (by kernel_rfl) (by kernel_rfl) rfl (by kernel_rfl) ?_ ?_
            · (intro ev W hR hD; simp only [Free.AllDeps, Free.At, List.getElem?_cons_succ, List.getElem?_cons_zero, and_true] at hD; simp [hD])
            simp only [an1, an2]
            refine Free.Chain.no [(24, 37), (19, 32)] [] 19 true 32 (by kernel_rfl) (by kernel_rfl) rfl (by kernel_rfl) ?_ ?_
            · (intro ev W hR hD; simp only [Free.AllDeps, Free.At, List.getElem?_cons_succ, List.getElem?_cons_zero, and_true] at hD; simp [hD])
            simp only [an1, an2]
            refine Free.Chain.no [(19, 32)] [0] 19 true 32 (by kernel_rfl) (by kernel_rfl) rfl (by kernel_rfl) ?_ ?_
            · (intro ev W hR hD; simp only [Free.AllDeps, Free.At, List.getElem?_cons_succ, List.getElem?_cons_zero, and_true] at hD; simp [hD])
            simp only [an1, an2]
            refine Free.Chain.no [(19, 32)] [3] 19 true 32 (by kernel_rfl) (by kernel_rfl) rfl (by kernel_rfl) ?_ ?_
            · (intro ev W hR hD; simp only [Free.AllDeps, Free.At, List.getElem?_cons_succ, List.getElem?_cons_zero, and_true] at hD; simp [hD])
            simp only [an1, an2]
            refine Free.Chain.no [(26, 39), (27, 40), (19, 32)] [] 19 true 32 (by kernel_rfl) (by kernel_rfl) rfl (by kernel_rfl) ?_ ?_
            · (intro ev W hR hD; simp only [Free.AllDeps, Free.At, List.getElem?_cons_succ, List.getElem?_cons_zero, and_true] at hD; simp [hD])
            simp only [an1, an2]
            refine Free.Chain.no [(28, 41), (19, 32)] [] 19 true 32 (by kernel_rfl) (by kernel_rfl) rfl (by kernel_rfl) ?_ ?_
            · (intro ev W hR hD; simp only [Free.AllDeps, Free.At, List.getElem?_cons_succ, List.getElem?_cons_zero, and_true] at hD; simp [hD])
            simp only [an1, an2]
            refine Free.Chain.no [(29, 42), (19, 32)] [] 19 true 32 (by kernel_rfl) (by kernel_rfl) rfl (by kernel_rfl) ?_ ?_
            · (intro ev W hR hD; simp only [Free.AllDeps, Free.At, List.getElem?_cons_succ, List.getElem?_cons_zero, and_true] at hD; simp [hD])
            simp only [an1, an2]
            refine Free.Chain.no [(25, 38), (30, 43), (19, 32)] [] 19 true 32 (by kernel_rfl) (by kernel_rfl) rfl (by kernel_rfl) ?_ ?_
            · (intro ev W hR hD; simp only [Free.AllDeps, Free.At, List.getElem?_cons_succ, List.getElem?_cons_zero, and_true] at hD; simp [hD])
            simp only [an1, an2]
            refine Free.Chain.no [(31, 44), (19, 32), (19, 32)] [] 19 true 32 (by kernel_rfl) (by kernel_rfl) rfl (by kernel_rfl) ?_ ?_
            · (intro ev W hR hD; simp only [Free.AllDeps, Free.At, List.getElem?_cons_succ, List.getElem?_cons_zero, and_true] at hD; simp [hD])
            simp only [an1, an2]
            refine Free.Chain.no [(32, 45)] [0] 32 false 45 (by kernel_rfl) (by kernel_rfl) rfl (by kernel_rfl) ?_ ?_
            · (intro ev W hR hD; simp only [Free.AllDeps, Free.At, List.getElem?_cons_succ, List.getElem?_cons_zero, and_true] at hD; simp [hD])
            simp only [an1, an2]
            refine Free.Chain.no [(32, 45)] [3] 32 false 45 (by kernel_rfl) (by kernel_rfl) rfl (by kernel_rfl) ?_ ?_
            · (intro ev W hR hD; simp only [Free.AllDeps, Free.At, List.getElem?_cons_succ, List.getElem?_cons_zero, and_true] at hD; simp [hD])
            simp only [an1, an2]
            refine Free.Chain.no [(34, 47), (32, 45)] [] 32 false 45 (by kernel_rfl) (by kernel_rfl) rfl (by kernel_rfl) ?_ ?_
            · (intro ev W hR hD; simp only [Free.AllDeps, Free.At, List.getElem?_cons_succ, List.getElem?_cons_zero, and_true] at hD; simp [hD])
            simp only [an1, an2]
            refine Free.Chain.no [(33, 46), (35, 48), (32, 45)] [] 32 false 45 (by kernel_rfl) (by kernel_rfl) rfl (by kernel_rfl) ?_ ?_
            · (intro ev W hR hD; simp only [Free.AllDeps, Free.At, List.getElem?_cons_succ, List.getElem?_cons_zero, and_true] at hD; simp [hD])
            simp only [an1, an2]
            refine Free.Chain.no [(36, 49), (32, 45)] [] 32 false 45 (by kernel_rfl) (by kernel_rfl) rfl (by kernel_rfl) ?_ ?_
            · (intro ev W hR hD; simp only [Free.AllDeps, Free.At, List.getElem?_cons_succ, List.getElem?_cons_zero, and_true] at hD; simp [hD])
            simp only [an1, an2]
            refine Free.Chain.no [(37, 50), (32, 45)] [] 32 false 45 (by kernel_rfl) (by kernel_rfl) rfl (by kernel_rfl) ?_ ?_
            · (intro ev W hR hD; simp only [Free.AllDeps, Free.At, List.getElem?_cons_succ, List.getElem?_cons_zero, and_true] at hD; simp [hD])
            simp only [an1, an2]
            refine Free.Chain.no [(32, 45)] [0] 32 false 45 (by kernel_rfl) (by kernel_rfl) rfl (by kernel_rfl) ?_ ?_
            · (intro ev W hR hD; simp only [Free.AllDeps, Free.At, List.getElem?_cons_succ, List.getElem?_cons_zero, and_true] at hD; simp [hD])
            simp only [an1, an2]
            refine Free.Chain.no [(32, 45)] [3] 32 false 45 (by kernel_rfl) (by kernel_rfl) rfl (by kernel_rfl) ?_ ?_
            · (intro ev W hR hD; simp only [Free.AllDeps, Free.At, List.getElem?_cons_succ, List.getElem?_cons_zero, and_true] at hD; simp [hD])
            simp only [an1, an2]
            refine Free.Chain.no [(39, 52), (40, 53), (32, 45)] [] 32 false 45 (by kernel_rfl) (by kernel_rfl) rfl (by kernel_rfl) ?_ ?_
            · (intro ev W hR hD; simp only [Free.AllDeps, Free.At, List.getElem?_cons_succ, List.getElem?_cons_zero, and_true] at hD; simp [hD])
            simp only [an1, an2]
            refine Free.Chain.no [(41, 54), (32, 45)] [] 32 false 45 (by kernel_rfl) (by kernel_rfl) rfl (by kernel_rfl) ?_ ?_
            · (intro ev W hR hD; simp only [Free.AllDeps, Free.At, List.getElem?_cons_succ, List.getElem?_cons_zero, and_true] at hD; simp [hD])
            simp only [an1, an2]
            refine Free.Chain.no [(42, 55), (32, 45)] [] 32 false 45 (by kernel_rfl) (by kernel_rfl) rfl (by kernel_rfl) ?_ ?_
            · (intro ev W hR hD; simp only [Free.AllDeps, Free.At, List.getElem?_cons_succ, List.getElem?_cons_zero, and_true] at hD; simp [hD])
            simp only [an1, an2]
            refine Free.Chain.no [(38, 51), (43, 56), (32, 45)] [] 32 false 45 (by kernel_rfl) (by kernel_rfl) rfl (by kernel_rfl) ?_ ?_
            · (intro ev W hR hD; simp only [Free.AllDeps, Free.At, List.getElem?_cons_succ, List.getElem?_cons_zero, and_true] at hD; simp [hD])
            simp only [an1, an2]
            refine Free.Chain.no [(32, 45), (44, 57), (19, 32)] [] 19 true 32 (by kernel_rfl) (by kernel_rfl) rfl (by kernel_rfl) ?_ ?_
            · (intro ev W hR hD; simp only [Free.AllDeps, Free.At, List.getElem?_cons_succ, List.getElem?_cons_zero, and_true] at hD; simp [hD])
            simp only [an1, an2]
            refine Free.Chain.no [(19, 32), (45, 58), (16, 29)] [] 16 false 29 (by kernel_rfl) (by kernel_rfl) rfl (by kernel_rfl) ?_ ?_
            · (intro ev W hR hD; simp only [Free.AllDeps, Free.At, List.getElem?_cons_succ, List.getElem?_cons_zero, and_true] at hD; simp [hD])
            simp only [an1, an2]
            refine Free.Chain.ex ?_ [(16, 29), (46, 59)] [] (by kernel_rfl) (by kernel_rfl) rfl Free.Bel.refl ?_ ?_
            rotate_left 2
            simp only [an1, an2]
            rotate_left
            rotate_left
            · (intro ev W hb hR hO hD; have hS := hF W hR; obtain ⟨hb1, hb2, hb3⟩ := hb; simp only [Free.AllDeps, Free.AllOuts, Free.At, al1, al2, al3, al4, al5, and_true] at hO hD; go_simp; rfl)
            intro xs w2 hR hV
            simp only [Free.AllV, Free.At, List.length_cons, List.length_nil, Nat.reduceAdd, List.getElem?_cons_succ, List.getElem?_cons_zero, true_and] at hV
            simp only [Free.putsFrom, Act.put, Nat.zero_add, Nat.reduceAdd, hV, List.setIfInBounds_toArray, List.set_cons_succ, List.set_cons_zero]
            have hB2 := bt hB (hK0 _ hR)
            clear hR hV hF hK0
            go_wp2_with fail
            go_ret
            exact ⟨rfl, hB2⟩
          · have hy1 : 0 ≤ y ∧ y ≤ 1000000 := by simpa [inB] using h2
            have H2 := Lib.hid h2
            clear h2
            by_cases hk0 : k = 0
            · obtain ⟨hf, hp⟩ := HZ.out hk0
              have hnext : Hid (agreedFrom x y (xs.drop (k + 1)) = r) := by
                show _ = _
                rw [← hst.out, hf, hp]
                have i1 : inB (0 + 1) 100 [x] = true := by simp [inB]; omega
                have i2 : inB 0 1000000 [y] = true := by simp [inB]; omega
                rw [i1, i2]; rfl
              have g0 : decide (0 < (k : Int)) = false := decide_eq_false (by omega)
              clear hf hp
              subst hk0
              have c0 : wr.cell? ⟨b, off, none⟩ = some (.int .i64 x) := by simpa using c0
              have c1 : wr.cell? ⟨b, off + 1, none⟩ = some (.int .i64 y) := by simpa using c1
              have hF : ∀ W, Free.Bel wr.drew W → W.cell? ⟨b, off, none⟩ = some (.int .i64 x) ∧ W.cell? ⟨b, off + 1, none⟩ = some (.int .i64 y) := fun W hW => ⟨keepsB (hK0 W hW) c0, keepsB (hK0 W hW) c1⟩
              go_wp2_with fail
              refine Free.wp_free (R := Free.Bel) (by kernel_rfl) (by kernel_rfl) Free.Bel.refl Free.Bel.trans ?_
              refine Free.Chain.ex ?_ [] [0] (by kernel_rfl) (by kernel_rfl) rfl Free.Bel.refl ?_ ?_
              rotate_left 2
              simp only [an1, an2]
              refine Free.Chain.ex ?_ [] [3] (by kernel_rfl) (by kernel_rfl) rfl Free.Bel.refl ?_ ?_
              rotate_left 2
              simp only [an1, an2]
              refine Free.Chain.ex ?_ [(0, 13), (1, 14)] [] (by kernel_rfl) (by kernel_rfl) rfl Free.Bel.refl ?_ ?_
              rotate_left 2
              simp only [an1, an2]
              refine Free.Chain.ex ?_ [(2, 15)] [] (by kernel_rfl) (by kernel_rfl) rfl Free.Bel.refl ?_ ?_
              rotate_left 2
              simp only [an1, an2]
              refine Free.Chain.ex ?_ [(3, 16)] [] (by kernel_rfl) (by kernel_rfl) rfl Free.Bel.refl ?_ ?_
              rotate_left 2
              simp only [an1, an2]
              rotate_left
              iterate 5 (rotate_left; intro ev W hb hR hO hD; have hS := hF W hR; obtain ⟨hb1, hb2, hb3⟩ := hb; simp only [Free.AllDeps, Free.AllOuts, Free.At, al1, al2, al3, al4, al5, and_true] at hO hD; go_simp; rfl)
              refine Free.Chain.pr (fun v _ => v = .bool true) [(4, 17)] [] (by kernel_rfl) (by kernel_rfl) rfl (fun _ _ _ _ h => h) ?_ ?_
              · (intro ev W hb hR hO hD; have hS := hF W hR; obtain ⟨hb1, hb2, hb3⟩ := hb; simp only [Free.AllDeps, Free.AllOuts, Free.At, al1, al2, al3, al4, al5, and_true] at hO hD; go_simp; refine yields_enter ?_; (with_reducible refine (within_any x 1 100 true _ H1.out).mono ?_); rintro e W2 ⟨rfl, rfl⟩; exact ⟨_, rfl, Free.Bel.refl _, rfl⟩)
              simp only [an1, an2]
              refine Free.Chain.ex ?_ [(5, 18)] [] (by kernel_rfl) (by kernel_rfl) rfl Free.Bel.refl ?_ ?_
              rotate_left 2
              simp only [an1, an2]
              refine Free.Chain.ex ?_ [(6, 19), (5, 18)] [] (by kernel_rfl) (by kernel_rfl) rfl Free.Bel.refl ?_ ?_
              rotate_left 2
              simp only [an1, an2]
              rotate_left
              iterate 2 (rotate_left; intro ev W hb hR hO hD; have hS := hF W hR; obtain ⟨hb1, hb2, hb3⟩ := hb; simp only [Free.AllDeps, Free.AllOuts, Free.At, al1, al2, al3, al4, al5, and_true] at hO hD; go_simp; rfl)
              refine Free.Chain.exG ?_ [(7, 20)] [0] 7 false 20 (by kernel_rfl) (by kernel_rfl) rfl (by kernel_rfl) Free.Bel.refl ?_ ?_
              rotate_left 2
              simp only [an1, an2]
              refine Free.Chain.exG ?_ [(7, 20)] [3] 7 false 20 (by kernel_rfl) (by kernel_rfl) rfl (by kernel_rfl) Free.Bel.refl ?_ ?_
              rotate_left 2
              simp only [an1, an2]
              refine Free.Chain.exG ?_ [(8, 21), (9, 22), (7, 20)] [] 7 false 20 (by kernel_rfl) (by kernel_rfl) rfl (by kernel_rfl) Free.Bel.refl ?_ ?_
              rotate_left 2
              simp only [an1, an2]
              refine Free.Chain.exG ?_ [(10, 23), (7, 20)] [] 7 false 20 (by kernel_rfl) (by kernel_rfl) rfl (by kernel_rfl) Free.Bel.refl ?_ ?_
              rotate_left 2
              simp only [an1, an2]
              refine Free.Chain.exG ?_ [(11, 24), (7, 20)] [] 7 false 20 (by kernel_rfl) (by kernel_rfl) rfl (by kernel_rfl) Free.Bel.refl ?_ ?_
              rotate_left 2
              simp only [an1, an2]
              rotate_left
              iterate 5 (rotate_left; intro ev W hb hR hO hD; have hS := hF W hR; obtain ⟨hb1, hb2, hb3⟩ := hb; simp only [Free.AllDeps, Free.AllOuts, Free.At, al1, al2, al3, al4, al5, and_true] at hO hD; refine ⟨by simp [hD], ?_⟩; go_simp; rfl)
              refine Free.Chain.prG (fun v _ => v = .bool true) [(12, 25), (7, 20), (7, 20)] [] 7 false 20 (by kernel_rfl) (by kernel_rfl) rfl (by kernel_rfl) (fun _ _ _ _ h => h) ?_ ?_
              · (intro ev W hb hR hO hD; have hS := hF W hR; obtain ⟨hb1, hb2, hb3⟩ := hb; simp only [Free.AllDeps, Free.AllOuts, Free.At, al1, al2, al3, al4, al5, and_true] at hO hD; refine ⟨by simp [hD], ?_⟩; go_simp; refine yields_enter ?_; (with_reducible refine (within_any y 0 1000000 true _ H2.out).mono ?_); rintro e W2 ⟨rfl, rfl⟩; exact ⟨_, rfl, Free.Bel.refl _, rfl⟩)
              simp only [an1, an2]
              refine Free.Chain.exG ?_ [(13, 26), (7, 20)] [] 7 false 20 (by kernel_rfl) (by kernel_rfl) rfl (by kernel_rfl) Free.Bel.refl ?_ ?_
              rotate_left 2
              simp only [an1, an2]
              rotate_left
              rotate_left
              · (intro ev W hb hR hO hD; have hS := hF W hR; obtain ⟨hb1, hb2, hb3⟩ := hb; simp only [Free.AllDeps, Free.AllOuts, Free.At, al1, al2, al3, al4, al5, and_true] at hO hD; refine ⟨by simp [hD], ?_⟩; go_simp; rfl)
              refine Free.Chain.ex ?_ [(7, 20), (14, 27)] [] (by kernel_rfl) (by kernel_rfl) rfl Free.Bel.refl ?_ ?_
              rotate_left 2
              simp only [an1, an2]
              refine Free.Chain.ex ?_ [(15, 28), (13, 26)] [] (by kernel_rfl) (by kernel_rfl) rfl Free.Bel.refl ?_ ?_
              rotate_left 2
              simp only [an1, an2]
              rotate_left
              iterate 2 (rotate_left; intro ev W hb hR hO hD; have hS := hF W hR; obtain ⟨hb1, hb2, hb3⟩ := hb; simp only [Free.AllDeps, Free.AllOuts, Free.At, al1, al2, al3, al4, al5, and_true] at hO hD; go_simp; rfl)
              refine Free.Chain.exG ?_ [(16, 29)] [3] 16 false 29 (by kernel_rfl) (by kernel_rfl) rfl (by kernel_rfl) Free.Bel.refl ?_ ?_
              rotate_left 2
              simp only [an1, an2]
              refine Free.Chain.exG ?_ [(17, 30), (16, 29)] [] 16 false 29 (by kernel_rfl) (by kernel_rfl) rfl (by kernel_rfl) Free.Bel.refl ?_ ?_
              rotate_left 2
              simp only [an1, an2]
              refine Free.Chain.exG ?_ [(18, 31), (16, 29), (16, 29)] [] 16 false 29 (by kernel_rfl) (by kernel_rfl) rfl (by kernel_rfl) Free.Bel.refl ?_ ?_
              rotate_left 2
              simp only [an1, an2]
              rotate_left
              iterate 3 (rotate_left; intro ev W hb hR hO hD; have hS := hF W hR; obtain ⟨hb1, hb2, hb3⟩ := hb; simp only [Free.AllDeps, Free.AllOuts, Free.At, al1, al2, al3, al4, al5, and_true] at hO hD; refine ⟨by simp [hD], ?_⟩; go_simp; rfl)
              refine Free.Chain.no [(19, 32)] [0] 19 true 32 (by kernel_rfl) (by kernel_rfl) rfl (by kernel_rfl) ?_ ?_
              · (intro ev W hR hD; simp only [Free.AllDeps, Free.At, List.getElem?_cons_succ, List.getElem?_cons_zero, and_true] at hD; simp [hD])
              simp only [an1, an2]
              refine Free.Chain.no [(19, 32)] [3] 19 true 32 (by kernel_rfl) (by kernel_rfl) rfl (by kernel_rfl) ?_ ?_
              · (intro ev W hR hD; simp only [Free.AllDeps, Free.At, List.getElem?_cons_succ, List.getElem?_cons_zero, and_true] at hD; simp [hD])
              simp only [an1, an2]
              refine Free.Chain.no [(21, 34), (19, 32)] [] 19 true 32 (by kernel_rfl) (by kernel_rfl) rfl (by kernel_rfl) ?_ ?_
              · (intro ev W hR hD; simp only [Free.AllDeps, Free.At, List.getElem?_cons_succ, List.getElem?_cons_zero, and_true] at hD; simp [hD])
              simp only [an1, an2]
              refine Free.Chain.no [(20, 33), (22, 35), (19, 32)] [] 19 true 32 (by kernel_rfl) (by kernel_rfl) rfl (by kernel_rfl) ?_ ?_
              · (intro ev W hR hD; simp only [Free.AllDeps, Free.At, List.getElem?_cons_succ, List.getElem?_cons_zero, and_true] at hD; simp [hD])
              simp only [an1, an2]
              refine Free.Chain.no [(23, 36), (19, 32)] [] 19 true 32 (by kernel_rfl) (by kernel_rfl) rfl (by kernel_rfl) ?_ ?_
              · (intro ev W hR hD; simp only [Free.AllDeps, Free.At, List.getElem?_cons_succ, List.getElem?_cons_zero, and_true] at hD; simp [hD])
              simp only [an1, an2]
              refine Free.Chain.no [(24, 37), (19, 32)] [] 19 true 32 (by kernel_rfl) (by kernel_rfl) rfl (by kernel_rfl) ?_ ?_
              · (intro ev W hR hD; simp only [Free.AllDeps, Free.At, List.getElem?_cons_succ, List.getElem?_cons_zero, and_true] at hD; simp [hD])
              simp only [an1, an2]
              refine Free.Chain.no [(19, 32)] [0] 19 true 32 (by kernel_rfl) (by kernel_rfl) rfl (by kernel_rfl) ?_ ?_
              · (intro ev W hR hD; simp only [Free.AllDeps, Free.At, List.getElem?_cons_succ, List.getElem?_cons_zero, and_true] at hD; simp [hD])
              simp only [an1, an2]
              refine Free.Chain.no [(19, 32)] [3] 19 true 32 (by kernel_rfl) (by kernel_rfl) rfl (by kernel_rfl) ?_ ?_
              · (intro ev W hR hD; simp only [Free.AllDeps, Free.At, List.getElem?_cons_succ, List.getElem?_cons_zero, and_true] at hD; simp [hD])
              simp only [an1, an2]
              refine Free.Chain.no [(26, 39), (27, 40), (19, 32)] [] 19 true 32 (by kernel_rfl) (by kernel_rfl) rfl (by kernel_rfl) ?_ ?_
              · (intro ev W hR hD; simp only [Free.AllDeps, Free.At, List.getElem?_cons_succ, List.getElem?_cons_zero, and_true] at hD; simp [hD])
              simp only [an1, an2]
              refine Free.Chain.no [(28, 41), (19, 32)] [] 19 true 32 (by kernel_rfl) (by kernel_rfl) rfl (by kernel_rfl) ?_ ?_
              · (intro ev W hR hD; simp only [Free.AllDeps, Free.At, List.getElem?_cons_succ, List.getElem?_cons_zero, and_true] at hD; simp [hD])
              simp only [an1, an2]
              refine Free.Chain.no [(29, 42), (19, 32)] [] 19 true 32 (by kernel_rfl) (by kernel_rfl) rfl (by kernel_rfl) ?_ ?_
              · (intro ev W hR hD; simp only [Free.AllDeps, Free.At, List.getElem?_cons_succ, List.getElem?_cons_zero, and_true] at hD; simp [hD])
              simp only [an1, an2]
              refine Free.Chain.no [(25, 38), (30, 43), (19, 32)] [] 19 true 32 (by kernel_rfl) (by kernel_rfl) rfl (by kernel_rfl) ?_ ?_
              · (intro ev W hR hD; simp only [Free.AllDeps, Free.At, List.getElem?_cons_succ, List.getElem?_cons_zero, and_true] at hD; simp [hD])
              simp only [an1, an2]
              refine Free.Chain.no [(31, 44), (19, 32), (19, 32)] [] 19 true 32 (by kernel_rfl) (by kernel_rfl) rfl (by kernel_rfl) ?_ ?_
              · (intro ev W hR hD; simp only [Free.AllDeps, Free.At, List.getElem?_cons_succ, List.getElem?_cons_zero, and_true] at hD; simp [hD])
              simp only [an1, an2]
              refine Free.Chain.no [(32, 45)] [0] 32 false 45 (by kernel_rfl) (by kernel_rfl) rfl (by kernel_rfl) ?_ ?_
              · (intro ev W hR hD; simp only [Free.AllDeps, Free.At, List.getElem?_cons_succ, List.getElem?_cons_zero, and_true] at hD; simp [hD])
              simp only [an1, an2]
              refine Free.Chain.no [(32, 45)] [3] 32 false 45 (by kernel_rfl) (by kernel_rfl) rfl (by kernel_rfl) ?_ ?_
              · (intro ev W hR hD; simp only [Free.AllDeps, Free.At, List.getElem?_cons_succ, List.getElem?_cons_zero, and_true] at hD; simp [hD])
              simp only [an1, an2]
              refine Free.Chain.no [(34, 47), (32, 45)] [] 32 false 45 (by kernel_rfl) (by kernel_rfl) rfl (by kernel_rfl) ?_ ?_
              · (intro ev W hR hD; simp only [Free.AllDeps, Free.At, List.getElem?_cons_succ, List.getElem?_cons_zero, and_true] at hD; simp [hD])
              simp only [an1, an2]
              refine Free.Chain.no [(33, 46), (35, 48), (32, 45)] [] 32 false 45 (by kernel_rfl) (by kernel_rfl) rfl (by kernel_rfl) ?_ ?_
              · (intro ev W hR hD; simp only [Free.AllDeps, Free.At, List.getElem?_cons_succ, List.getElem?_cons_zero, and_true] at hD; simp [hD])
              simp only [an1, an2]
              refine Free.Chain.no [(36, 49), (32, 45)] [] 32 false 45 (by kernel_rfl) (by kernel_rfl) rfl (by kernel_rfl) ?_ ?_
              · (intro ev W hR hD; simp only [Free.AllDeps, Free.At, List.getElem?_cons_succ, List.getElem?_cons_zero, and_true] at hD; simp [hD])
              simp only [an1, an2]
              refine Free.Chain.no [(37, 50), (32, 45)] [] 32 false 45 (by kernel_rfl) (by kernel_rfl) rfl (by kernel_rfl) ?_ ?_
              · (intro ev W hR hD; simp only [Free.AllDeps, Free.At, List.getElem?_cons_succ, List.getElem?_cons_zero, and_true] at hD; simp [hD])
              simp only [an1, an2]
              refine Free.Chain.no [(32, 45)] [0] 32 false 45 (by kernel_rfl) (by kernel_rfl) rfl (by kernel_rfl) ?_ ?_
              · (intro ev W hR hD; simp only [Free.AllDeps, Free.At, List.getElem?_cons_succ, List.getElem?_cons_zero, and_true] at hD; simp [hD])
              simp only [an1, an2]
              refine Free.Chain.no [(32, 45)] [3] 32 false 45 (by kernel_rfl) (by kernel_rfl) rfl (by kernel_rfl) ?_ ?_
              · (intro ev W hR hD; simp only [Free.AllDeps, Free.At, List.getElem?_cons_succ, List.getElem?_cons_zero, and_true] at hD; simp [hD])
              simp only [an1, an2]
              refine Free.Chain.no [(39, 52), (40, 53), (32, 45)] [] 32 false 45 (by kernel_rfl) (by kernel_rfl) rfl (by kernel_rfl) ?_ ?_
              · (intro ev W hR hD; simp only [Free.AllDeps, Free.At, List.getElem?_cons_succ, List.getElem?_cons_zero, and_true] at hD; simp [hD])
              simp only [an1, an2]
              refine Free.Chain.no [(41, 54), (32, 45)] [] 32 false 45 (by kernel_rfl) (by kernel_rfl) rfl (by kernel_rfl) ?_ ?_
              · (intro ev W hR hD; simp only [Free.AllDeps, Free.At, List.getElem?_cons_succ, List.getElem?_cons_zero, and_true] at hD; simp [hD])
              simp only [an1, an2]
              refine Free.Chain.no [(42, 55), (32, 45)] [] 32 false 45 (by kernel_rfl) (by kernel_rfl) rfl (by kernel_rfl) ?_ ?_
              · (intro ev W hR hD; simp only [Free.AllDeps, Free.At, List.getElem?_cons_succ, List.getElem?_cons_zero, and_true] at hD; simp [hD])
              simp only [an1, an2]
              refine Free.Chain.no [(38, 51), (43, 56), (32, 45)] [] 32 false 45 (by kernel_rfl) (by kernel_rfl) rfl (by kernel_rfl) ?_ ?_
              · (intro ev W hR hD; simp only [Free.AllDeps, Free.At, List.getElem?_cons_succ, List.getElem?_cons_zero, and_true] at hD; simp [hD])
              simp only [an1, an2]
              refine Free.Chain.no [(32, 45), (44, 57), (19, 32)] [] 19 true 32 (by kernel_rfl) (by kernel_rfl) rfl (by kernel_rfl) ?_ ?_
              · (intro ev W hR hD; simp only [Free.AllDeps, Free.At, List.getElem?_cons_succ, List.getElem?_cons_zero, and_true] at hD; simp [hD])
              simp only [an1, an2]
              refine Free.Chain.exG ?_ [(19, 32), (45, 58), (16, 29)] [] 16 false 29 (by kernel_rfl) (by kernel_rfl) rfl (by kernel_rfl) Free.Bel.refl ?_ ?_
              rotate_left 2
              simp only [an1, an2]
              rotate_left
              rotate_left
              · (intro ev W hb hR hO hD; have hS := hF W hR; obtain ⟨hb1, hb2, hb3⟩ := hb; simp only [Free.AllDeps, Free.AllOuts, Free.At, al1, al2, al3, al4, al5, and_true] at hO hD; refine ⟨by simp [hD], ?_⟩; go_simp; rfl)
              refine Free.Chain.ex ?_ [(16, 29), (46, 59)] [] (by kernel_rfl) (by kernel_rfl) rfl Free.Bel.refl ?_ ?_
              rotate_left 2
              simp only [an1, an2]
              rotate_left
              rotate_left
              · (intro ev W hb hR hO hD; have hS := hF W hR; obtain ⟨hb1, hb2, hb3⟩ := hb; simp only [Free.AllDeps, Free.AllOuts, Free.At, al1, al2, al3, al4, al5, and_true] at hO hD; go_simp; rfl)
              intro xs w2 hR hV
              simp only [Free.AllV, Free.At, List.length_cons, List.length_nil, Nat.reduceAdd, List.getElem?_cons_succ, List.getElem?_cons_zero, true_and] at hV
              simp only [Free.putsFrom, Act.put, Nat.zero_add, Nat.reduceAdd, hV, List.setIfInBounds_toArray, List.set_cons_succ, List.set_cons_zero]
              have hB2 := bt hB (hK0 _ hR)
              clear hR hV hF hK0
              go_wp2_with fail
              go_roundw
              case rel => exact ⟨0 + 1, x, y, by omega, by go_num, by omega, by omega, hnext, fun h => by omega, fun j9 h9 e9 => (by obtain rfl : j9 = 0 := (by omega); exact HX.out), hB2⟩
              case measure => simp [intOf]; omega
            · obtain ⟨j, hj⟩ : ∃ j, j + 1 = k := ⟨k - 1, by omega⟩
              have hjl : j < xs.length := by omega
              have hjlt : (j : Int) < xs.length := by omega
              have hwj : IntKind.i64.wrap ((k : Int) - 1) = (j : Int) := by rw [IntWalk.i64_in _ (by omega)]; omega
              have hpr := HPR.out j hjl hj
              obtain ⟨d0, d1⟩ := HCS.out j hjl
              rw [hpr] at d0 d1
              have c2 := keepsB hB d0
              have c3 := keepsB hB d1
              have g0 : decide (0 < (k : Int)) = true := decide_eq_true (by omega)
              have hkp : 0 < k := by omega
              have HJ := Lib.hid hj
              clear hpr d0 d1 hj hk0
              by_cases h3 : x ≤ f
              · have hres : r = false := by
                  rw [← hst.out]
                  have : inB (f + 1) 100 [x] = false := by
                    simp [inB]; omega
                  rw [this]; rfl
                subst hres
                have g1 : decide (x ≤ f) = true := decide_eq_true h3
                have hF : ∀ W, Free.Bel wr.drew W → W.cell? ⟨b, off + k * 2, none⟩ = some (.int .i64 x) ∧ W.cell? ⟨b, off + k * 2 + 1, none⟩ = some (.int .i64 y) ∧ W.cell? ⟨b, off + j * 2, none⟩ = some (.int .i64 f) ∧ W.cell? ⟨b, off + j * 2 + 1, none⟩ = some (.int .i64 p) := fun W hW => ⟨keepsB (hK0 W hW) c0, keepsB (hK0 W hW) c1, keepsB (hK0 W hW) c2, keepsB (hK0 W hW) c3⟩
                go_wp2_with fail
                refine Free.wp_free (R := Free.Bel) (by kernel_rfl) (by kernel_rfl) Free.Bel.refl Free.Bel.trans ?_
                refine Free.Chain.ex ?_ [] [0] (by kernel_rfl) (by kernel_rfl) rfl Free.Bel.refl ?_ ?_
                rotate_left 2
                simp only [an1, an2]
                refine Free.Chain.ex ?_ [] [3] (by kernel_rfl) (by kernel_rfl) rfl Free.Bel.refl ?_ ?_
                rotate_left 2
                simp only [an1, an2]
                refine Free.Chain.ex ?_ [(0, 13), (1, 14)] [] (by kernel_rfl) (by kernel_rfl) rfl Free.Bel.refl ?_ ?_
                rotate_left 2
                simp only [an1, an2]
                refine Free.Chain.ex ?_ [(2, 15)] [] (by kernel_rfl) (by kernel_rfl) rfl Free.Bel.refl ?_ ?_
                rotate_left 2
                simp only [an1, an2]
                refine Free.Chain.ex ?_ [(3, 16)] [] (by kernel_rfl) (by kernel_rfl) rfl Free.Bel.refl ?_ ?_
                rotate_left 2
                simp only [an1, an2]
                rotate_left
                iterate 5 (rotate_left; intro ev W hb hR hO hD; have hS := hF W hR; obtain ⟨hb1, hb2, hb3⟩ := hb; simp only [Free.AllDeps, Free.AllOuts, Free.At, al1, al2, al3, al4, al5, and_true] at hO hD; go_simp; rfl)
                refine Free.Chain.pr (fun v _ => v = .bool true) [(4, 17)] [] (by kernel_rfl) (by kernel_rfl) rfl (fun _ _ _ _ h => h) ?_ ?_
                · (intro ev W hb hR hO hD; have hS := hF W hR; obtain ⟨hb1, hb2, hb3⟩ := hb; simp only [Free.AllDeps, Free.AllOuts, Free.At, al1, al2, al3, al4, al5, and_true] at hO hD; go_simp; refine yields_enter ?_; (with_reducible refine (within_any x 1 100 true _ H1.out).mono ?_); rintro e W2 ⟨rfl, rfl⟩; exact ⟨_, rfl, Free.Bel.refl _, rfl⟩)
                simp only [an1, an2]
                refine Free.Chain.ex ?_ [(5, 18)] [] (by kernel_rfl) (by kernel_rfl) rfl Free.Bel.refl ?_ ?_
                rotate_left 2
                simp only [an1, an2]
                refine Free.Chain.ex ?_ [(6, 19), (5, 18)] [] (by kernel_rfl) (by kernel_rfl) rfl Free.Bel.refl ?_ ?_
                rotate_left 2
                simp only [an1, an2]
                rotate_left
                iterate 2 (rotate_left; intro ev W hb hR hO hD; have hS := hF W hR; obtain ⟨hb1, hb2, hb3⟩ := hb; simp only [Free.AllDeps, Free.AllOuts, Free.At, al1, al2, al3, al4, al5, and_true] at hO hD; go_simp; rfl)
                refine Free.Chain.exG ?_ [(7, 20)] [0] 7 false 20 (by kernel_rfl) (by kernel_rfl) rfl (by kernel_rfl) Free.Bel.refl ?_ ?_
                rotate_left 2
                simp only [an1, an2]
                refine Free.Chain.exG ?_ [(7, 20)] [3] 7 false 20 (by kernel_rfl) (by kernel_rfl) rfl (by kernel_rfl) Free.Bel.refl ?_ ?_
                rotate_left 2
                simp only [an1, an2]
                refine Free.Chain.exG ?_ [(8, 21), (9, 22), (7, 20)] [] 7 false 20 (by kernel_rfl) (by kernel_rfl) rfl (by kernel_rfl) Free.Bel.refl ?_ ?_
                rotate_left 2
                simp only [an1, an2]
                refine Free.Chain.exG ?_ [(10, 23), (7, 20)] [] 7 false 20 (by kernel_rfl) (by kernel_rfl) rfl (by kernel_rfl) Free.Bel.refl ?_ ?_
                rotate_left 2
                simp only [an1, an2]
                refine Free.Chain.exG ?_ [(11, 24), (7, 20)] [] 7 false 20 (by kernel_rfl) (by kernel_rfl) rfl (by kernel_rfl) Free.Bel.refl ?_ ?_
                rotate_left 2
                simp only [an1, an2]
                rotate_left
                iterate 5 (rotate_left; intro ev W hb hR hO hD; have hS := hF W hR; obtain ⟨hb1, hb2, hb3⟩ := hb; simp only [Free.AllDeps, Free.AllOuts, Free.At, al1, al2, al3, al4, al5, and_true] at hO hD; refine ⟨by simp [hD, hkp], ?_⟩; go_simp; rfl)
                refine Free.Chain.prG (fun v _ => v = .bool true) [(12, 25), (7, 20), (7, 20)] [] 7 false 20 (by kernel_rfl) (by kernel_rfl) rfl (by kernel_rfl) (fun _ _ _ _ h => h) ?_ ?_
                · (intro ev W hb hR hO hD; have hS := hF W hR; obtain ⟨hb1, hb2, hb3⟩ := hb; simp only [Free.AllDeps, Free.AllOuts, Free.At, al1, al2, al3, al4, al5, and_true] at hO hD; refine ⟨by simp [hD, hkp], ?_⟩; go_simp; refine yields_enter ?_; (with_reducible refine (within_any y 0 1000000 true _ H2.out).mono ?_); rintro e W2 ⟨rfl, rfl⟩; exact ⟨_, rfl, Free.Bel.refl _, rfl⟩)
                simp only [an1, an2]
                refine Free.Chain.exG ?_ [(13, 26), (7, 20)] [] 7 false 20 (by kernel_rfl) (by kernel_rfl) rfl (by kernel_rfl) Free.Bel.refl ?_ ?_
                rotate_left 2
                simp only [an1, an2]
                rotate_left
                rotate_left
                · (intro ev W hb hR hO hD; have hS := hF W hR; obtain ⟨hb1, hb2, hb3⟩ := hb; simp only [Free.AllDeps, Free.AllOuts, Free.At, al1, al2, al3, al4, al5, and_true] at hO hD; refine ⟨by simp [hD, hkp], ?_⟩; go_simp; rfl)
                refine Free.Chain.ex ?_ [(7, 20), (14, 27)] [] (by kernel_rfl) (by kernel_rfl) rfl Free.Bel.refl ?_ ?_
                rotate_left 2
                simp only [an1, an2]
                refine Free.Chain.ex ?_ [(15, 28), (13, 26)] [] (by kernel_rfl) (by kernel_rfl) rfl Free.Bel.refl ?_ ?_
                rotate_left 2
                simp only [an1, an2]
                rotate_left
                iterate 2 (rotate_left; intro ev W hb hR hO hD; have hS := hF W hR; obtain ⟨hb1, hb2, hb3⟩ := hb; simp only [Free.AllDeps, Free.AllOuts, Free.At, al1, al2, al3, al4, al5, and_true] at hO hD; go_simp; rfl)
                refine Free.Chain.exG ?_ [(16, 29)] [3] 16 false 29 (by kernel_rfl) (by kernel_rfl) rfl (by kernel_rfl) Free.Bel.refl ?_ ?_
                rotate_left 2
                simp only [an1, an2]
                refine Free.Chain.exG ?_ [(17, 30), (16, 29)] [] 16 false 29 (by kernel_rfl) (by kernel_rfl) rfl (by kernel_rfl) Free.Bel.refl ?_ ?_
                rotate_left 2
                simp only [an1, an2]
                refine Free.Chain.exG ?_ [(18, 31), (16, 29), (16, 29)] [] 16 false 29 (by kernel_rfl) (by kernel_rfl) rfl (by kernel_rfl) Free.Bel.refl ?_ ?_
                rotate_left 2
                simp only [an1, an2]
                refine Free.Chain.exG ?_ [(19, 32)] [0] 19 true 32 (by kernel_rfl) (by kernel_rfl) rfl (by kernel_rfl) Free.Bel.refl ?_ ?_
                rotate_left 2
                simp only [an1, an2]
                refine Free.Chain.exG ?_ [(19, 32)] [3] 19 true 32 (by kernel_rfl) (by kernel_rfl) rfl (by kernel_rfl) Free.Bel.refl ?_ ?_
                rotate_left 2
                simp only [an1, an2]
                refine Free.Chain.exG ?_ [(21, 34), (19, 32)] [] 19 true 32 (by kernel_rfl) (by kernel_rfl) rfl (by kernel_rfl) Free.Bel.refl ?_ ?_
                rotate_left 2
                simp only [an1, an2]
                refine Free.Chain.exG ?_ [(20, 33), (22, 35), (19, 32)] [] 19 true 32 (by kernel_rfl) (by kernel_rfl) rfl (by kernel_rfl) Free.Bel.refl ?_ ?_
                rotate_left 2
                simp only [an1, an2]
                refine Free.Chain.exG ?_ [(23, 36), (19, 32)] [] 19 true 32 (by kernel_rfl) (by kernel_rfl) rfl (by kernel_rfl) Free.Bel.refl ?_ ?_
                rotate_left 2
                simp only [an1, an2]
                refine Free.Chain.exG ?_ [(24, 37), (19, 32)] [] 19 true 32 (by kernel_rfl) (by kernel_rfl) rfl (by kernel_rfl) Free.Bel.refl ?_ ?_
                rotate_left 2
                simp only [an1, an2]
                refine Free.Chain.exG ?_ [(19, 32)] [0] 19 true 32 (by kernel_rfl) (by kernel_rfl) rfl (by kernel_rfl) Free.Bel.refl ?_ ?_
                rotate_left 2
                simp only [an1, an2]
                refine Free.Chain.exG ?_ [(19, 32)] [3] 19 true 32 (by kernel_rfl) (by kernel_rfl) rfl (by kernel_rfl) Free.Bel.refl ?_ ?_
                rotate_left 2
                simp only [an1, an2]
                refine Free.Chain.exG ?_ [(26, 39), (27, 40), (19, 32)] [] 19 true 32 (by kernel_rfl) (by kernel_rfl) rfl (by kernel_rfl) Free.Bel.refl ?_ ?_
                rotate_left 2
                simp only [an1, an2]
                refine Free.Chain.exG ?_ [(28, 41), (19, 32)] [] 19 true 32 (by kernel_rfl) (by kernel_rfl) rfl (by kernel_rfl) Free.Bel.refl ?_ ?_
                rotate_left 2
                simp only [an1, an2]
                refine Free.Chain.exG ?_ [(29, 42), (19, 32)] [] 19 true 32 (by kernel_rfl) (by kernel_rfl) rfl (by kernel_rfl) Free.Bel.refl ?_ ?_
                rotate_left 2
                simp only [an1, an2]
                refine Free.Chain.exG ?_ [(25, 38), (30, 43), (19, 32)] [] 19 true 32 (by kernel_rfl) (by kernel_rfl) rfl (by kernel_rfl) Free.Bel.refl ?_ ?_
                rotate_left 2
                simp only [an1, an2]
                refine Free.Chain.exG ?_ [(31, 44), (19, 32), (19, 32)] [] 19 true 32 (by kernel_rfl) (by kernel_rfl) rfl (by kernel_rfl) Free.Bel.refl ?_ ?_
                rotate_left 2
                simp only [an1, an2]
                rotate_left
                iterate 16 (rotate_left; intro ev W hb hR hO hD; have hS := hF W hR; obtain ⟨hb1, hb2, hb3⟩ := hb; simp only [Free.AllDeps, Free.AllOuts, Free.At, al1, al2, al3, al4, al5, and_true] at hO hD; refine ⟨by simp [hD, hkp], ?_⟩; go_simp; rfl)
                refine Free.Chain.no [(32, 45)] [0] 32 false 45 (by kernel_rfl) (by kernel_rfl) rfl (by kernel_rfl) ?_ ?_
                · (intro ev W hR hD; simp only [Free.AllDeps, Free.At, List.getElem?_cons_succ, List.getElem?_cons_zero, and_true] at hD; simp [hD, hkp])
                simp only [an1, an2]
                refine Free.Chain.no [(32, 45)] [3] 32 false 45 (by kernel_rfl) (by kernel_rfl) rfl (by kernel_rfl) ?_ ?_
                · (intro ev W hR hD; simp only [Free.AllDeps, Free.At, List.getElem?_cons_succ, List.getElem?_cons_zero, and_true] at hD; simp [hD, hkp])
                simp only [an1, an2]
                refine Free.Chain.no [(34, 47), (32, 45)] [] 32 false 45 (by kernel_rfl) (by kernel_rfl) rfl (by kernel_rfl) ?_ ?_
                · (intro ev W hR hD; simp only [Free.AllDeps, Free.At, List.getElem?_cons_succ, List.getElem?_cons_zero, and_true] at hD; simp [hD, hkp])
                simp only [an1, an2]
                refine Free.Chain.no [(33, 46), (35, 48), (32, 45)] [] 32 false 45 (by kernel_rfl) (by kernel_rfl) rfl (by kernel_rfl) ?_ ?_
                · (intro ev W hR hD; simp only [Free.AllDeps, Free.At, List.getElem?_cons_succ, List.getElem?_cons_zero, and_true] at hD; simp [hD, hkp])
                simp only [an1, an2]
                refine Free.Chain.no [(36, 49), (32, 45)] [] 32 false 45 (by kernel_rfl) (by kernel_rfl) rfl (by kernel_rfl) ?_ ?_
                · (intro ev W hR hD; simp only [Free.AllDeps, Free.At, List.getElem?_cons_succ, List.getElem?_cons_zero, and_true] at hD; simp [hD, hkp])
                simp only [an1, an2]
                refine Free.Chain.no [(37, 50), (32, 45)] [] 32 false 45 (by kernel_rfl) (by kernel_rfl) rfl (by kernel_rfl) ?_ ?_
                · (intro ev W hR hD; simp only [Free.AllDeps, Free.At, List.getElem?_cons_succ, List.getElem?_cons_zero, and_true] at hD; simp [hD, hkp])
                simp only [an1, an2]
                refine Free.Chain.no [(32, 45)] [0] 32 false 45 (by kernel_rfl) (by kernel_rfl) rfl (by kernel_rfl) ?_ ?_
                · (intro ev W hR hD; simp only [Free.AllDeps, Free.At, List.getElem?_cons_succ, List.getElem?_cons_zero, and_true] at hD; simp [hD, hkp])
                simp only [an1, an2]
                refine Free.Chain.no [(32, 45)] [3] 32 false 45 (by kernel_rfl) (by kernel_rfl) rfl (by kernel_rfl) ?_ ?_
                · (intro ev W hR hD; simp only [Free.AllDeps, Free.At, List.getElem?_cons_succ, List.getElem?_cons_zero, and_true] at hD; simp [hD, hkp])
                simp only [an1, an2]
                refine Free.Chain.no [(39, 52), (40, 53), (32, 45)] [] 32 false 45 (by kernel_rfl) (by kernel_rfl) rfl (by kernel_rfl) ?_ ?_
                · (intro ev W hR hD; simp only [Free.AllDeps, Free.At, List.getElem?_cons_succ, List.getElem?_cons_zero, and_true] at hD; simp [hD, hkp])
                simp only [an1, an2]
                refine Free.Chain.no [(41, 54), (32, 45)] [] 32 false 45 (by kernel_rfl) (by kernel_rfl) rfl (by kernel_rfl) ?_ ?_
                · (intro ev W hR hD; simp only [Free.AllDeps, Free.At, List.getElem?_cons_succ, List.getElem?_cons_zero, and_true] at hD; simp [hD, hkp])
                simp only [an1, an2]
                refine Free.Chain.no [(42, 55), (32, 45)] [] 32 false 45 (by kernel_rfl) (by kernel_rfl) rfl (by kernel_rfl) ?_ ?_
                · (intro ev W hR hD; simp only [Free.AllDeps, Free.At, List.getElem?_cons_succ, List.getElem?_cons_zero, and_true] at hD; simp [hD, hkp])
                simp only [an1, an2]
                refine Free.Chain.no [(38, 51), (43, 56), (32, 45)] [] 32 false 45 (by kernel_rfl) (by kernel_rfl) rfl (by kernel_rfl) ?_ ?_
                · (intro ev W hR hD; simp only [Free.AllDeps, Free.At, List.getElem?_cons_succ, List.getElem?_cons_zero, and_true] at hD; simp [hD, hkp])
                simp only [an1, an2]
                refine Free.Chain.exG ?_ [(32, 45), (44, 57), (19, 32)] [] 19 true 32 (by kernel_rfl) (by kernel_rfl) rfl (by kernel_rfl) Free.Bel.refl ?_ ?_
                rotate_left 2
                simp only [an1, an2]
                refine Free.Chain.exG ?_ [(19, 32), (45, 58), (16, 29)] [] 16 false 29 (by kernel_rfl) (by kernel_rfl) rfl (by kernel_rfl) Free.Bel.refl ?_ ?_
                rotate_left 2
                simp only [an1, an2]
                rotate_left
                iterate 2 (rotate_left; intro ev W hb hR hO hD; have hS := hF W hR; obtain ⟨hb1, hb2, hb3⟩ := hb; simp only [Free.AllDeps, Free.AllOuts, Free.At, al1, al2, al3, al4, al5, and_true] at hO hD; refine ⟨by simp [hD, hkp], ?_⟩; go_simp; rfl)
                refine Free.Chain.ex ?_ [(16, 29), (46, 59)] [] (by kernel_rfl) (by kernel_rfl) rfl Free.Bel.refl ?_ ?_
                rotate_left 2
                simp only [an1, an2]
                rotate_left
                rotate_left
                · (intro ev W hb hR hO hD; have hS := hF W hR; obtain ⟨hb1, hb2, hb3⟩ := hb; simp only [Free.AllDeps, Free.AllOuts, Free.At, al1, al2, al3, al4, al5, and_true] at hO hD; go_simp; rfl)
                intro xs w2 hR hV
                simp only [Free.AllV, Free.At, List.length_cons, List.length_nil, Nat.reduceAdd, List.getElem?_cons_succ, List.getElem?_cons_zero, true_and] at hV
                simp only [Free.putsFrom, Act.put, Nat.zero_add, Nat.reduceAdd, hV, List.setIfInBounds_toArray, List.set_cons_succ, List.set_cons_zero]
                have hB2 := bt hB (hK0 _ hR)
                clear hR hV hF hK0
                go_wp2_with fail
                go_ret
                exact ⟨rfl, hB2⟩
              · have g1 : decide (x ≤ f) = false := decide_eq_false h3
                by_cases h4 : y < p
                · have hres : r = false := by
                    rw [← hst.out]
                    have : inB p 1000000 [y] = false := by
                      simp [inB]; omega
                    rw [this]; simp
                  subst hres
                  have g2 : decide (y < p) = true := decide_eq_true h4
                  have hF : ∀ W, Free.Bel wr.drew W → W.cell? ⟨b, off + k * 2, none⟩ = some (.int .i64 x) ∧ W.cell? ⟨b, off + k * 2 + 1, none⟩ = some (.int .i64 y) ∧ W.cell? ⟨b, off + j * 2, none⟩ = some (.int .i64 f) ∧ W.cell? ⟨b, off + j * 2 + 1, none⟩ = some (.int .i64 p) := fun W hW => ⟨keepsB (hK0 W hW) c0, keepsB (hK0 W hW) c1, keepsB (hK0 W hW) c2, keepsB (hK0 W hW) c3⟩
                  go_wp2_with fail
                  refine Free.wp_free (R := Free.Bel) (by kernel_rfl) (by kernel_rfl) Free.Bel.refl Free.Bel.trans ?_
                  refine Free.Chain.ex ?_ [] [0] (by kernel_rfl) (by kernel_rfl) rfl Free.Bel.refl ?_ ?_
                  rotate_left 2
                  simp only [an1, an2]
                  refine Free.Chain.ex ?_ [] [3] (by kernel_rfl) (by kernel_rfl) rfl Free.Bel.refl ?_ ?_
                  rotate_left 2
                  simp only [an1, an2]
                  refine Free.Chain.ex ?_ [(0, 13), (1, 14)] [] (by kernel_rfl) (by kernel_rfl) rfl Free.Bel.refl ?_ ?_
                  rotate_left 2
                  simp only [an1, an2]
                  refine Free.Chain.ex ?_ [(2, 15)] [] (by kernel_rfl) (by kernel_rfl) rfl Free.Bel.refl ?_ ?_
                  rotate_left 2
                  simp only [an1, an2]
                  refine Free.Chain.ex ?_ [(3, 16)] [] (by kernel_rfl) (by kernel_rfl) rfl Free.Bel.refl ?_ ?_
                  rotate_left 2
                  simp only [an1, an2]
                  rotate_left
                  iterate 5 (rotate_left; intro ev W hb hR hO hD; have hS := hF W hR; obtain ⟨hb1, hb2, hb3⟩ := hb; simp only [Free.AllDeps, Free.AllOuts, Free.At, al1, al2, al3, al4, al5, and_true] at hO hD; go_simp; rfl)
                  refine Free.Chain.pr (fun v _ => v = .bool true) [(4, 17)] [] (by kernel_rfl) (by kernel_rfl) rfl (fun _ _ _ _ h => h) ?_ ?_
                  · (intro ev W hb hR hO hD; have hS := hF W hR; obtain ⟨hb1, hb2, hb3⟩ := hb; simp only [Free.AllDeps, Free.AllOuts, Free.At, al1, al2, al3, al4, al5, and_true] at hO hD; go_simp; refine yields_enter ?_; (with_reducible refine (within_any x 1 100 true _ H1.out).mono ?_); rintro e W2 ⟨rfl, rfl⟩; exact ⟨_, rfl, Free.Bel.refl _, rfl⟩)
                  simp only [an1, an2]
                  refine Free.Chain.ex ?_ [(5, 18)] [] (by kernel_rfl) (by kernel_rfl) rfl Free.Bel.refl ?_ ?_
                  rotate_left 2
                  simp only [an1, an2]
                  refine Free.Chain.ex ?_ [(6, 19), (5, 18)] [] (by kernel_rfl) (by kernel_rfl) rfl Free.Bel.refl ?_ ?_
                  rotate_left 2
                  simp only [an1, an2]
                  rotate_left
                  iterate 2 (rotate_left; intro ev W hb hR hO hD; have hS := hF W hR; obtain ⟨hb1, hb2, hb3⟩ := hb; simp only [Free.AllDeps, Free.AllOuts, Free.At, al1, al2, al3, al4, al5, and_true] at hO hD; go_simp; rfl)
                  refine Free.Chain.exG ?_ [(7, 20)] [0] 7 false 20 (by kernel_rfl) (by kernel_rfl) rfl (by kernel_rfl) Free.Bel.refl ?_ ?_
                  rotate_left 2
                  simp only [an1, an2]
                  refine Free.Chain.exG ?_ [(7, 20)] [3] 7 false 20 (by kernel_rfl) (by kernel_rfl) rfl (by kernel_rfl) Free.Bel.refl ?_ ?_
                  rotate_left 2
                  simp only [an1, an2]
                  refine Free.Chain.exG ?_ [(8, 21), (9, 22), (7, 20)] [] 7 false 20 (by kernel_rfl) (by kernel_rfl) rfl (by kernel_rfl) Free.Bel.refl ?_ ?_
                  rotate_left 2
                  simp only [an1, an2]
                  refine Free.Chain.exG ?_ [(10, 23), (7, 20)] [] 7 false 20 (by kernel_rfl) (by kernel_rfl) rfl (by kernel_rfl) Free.Bel.refl ?_ ?_
                  rotate_left 2
                  simp only [an1, an2]
                  refine Free.Chain.exG ?_ [(11, 24), (7, 20)] [] 7 false 20 (by kernel_rfl) (by kernel_rfl) rfl (by kernel_rfl) Free.Bel.refl ?_ ?_
                  rotate_left 2
                  simp only [an1, an2]
                  rotate_left
                  iterate 5 (rotate_left; intro ev W hb hR hO hD; have hS := hF W hR; obtain ⟨hb1, hb2, hb3⟩ := hb; simp only [Free.AllDeps, Free.AllOuts, Free.At, al1, al2, al3, al4, al5, and_true] at hO hD; refine ⟨by simp [hD, hkp], ?_⟩; go_simp; rfl)
                  refine Free.Chain.prG (fun v _ => v = .bool true) [(12, 25), (7, 20), (7, 20)] [] 7 false 20 (by kernel_rfl) (by kernel_rfl) rfl (by kernel_rfl) (fun _ _ _ _ h => h) ?_ ?_
                  · (intro ev W hb hR hO hD; have hS := hF W hR; obtain ⟨hb1, hb2, hb3⟩ := hb; simp only [Free.AllDeps, Free.AllOuts, Free.At, al1, al2, al3, al4, al5, and_true] at hO hD; refine ⟨by simp [hD, hkp], ?_⟩; go_simp; refine yields_enter ?_; (with_reducible refine (within_any y 0 1000000 true _ H2.out).mono ?_); rintro e W2 ⟨rfl, rfl⟩; exact ⟨_, rfl, Free.Bel.refl _, rfl⟩)
                  simp only [an1, an2]
                  refine Free.Chain.exG ?_ [(13, 26), (7, 20)] [] 7 false 20 (by kernel_rfl) (by kernel_rfl) rfl (by kernel_rfl) Free.Bel.refl ?_ ?_
                  rotate_left 2
                  simp only [an1, an2]
                  rotate_left
                  rotate_left
                  · (intro ev W hb hR hO hD; have hS := hF W hR; obtain ⟨hb1, hb2, hb3⟩ := hb; simp only [Free.AllDeps, Free.AllOuts, Free.At, al1, al2, al3, al4, al5, and_true] at hO hD; refine ⟨by simp [hD, hkp], ?_⟩; go_simp; rfl)
                  refine Free.Chain.ex ?_ [(7, 20), (14, 27)] [] (by kernel_rfl) (by kernel_rfl) rfl Free.Bel.refl ?_ ?_
                  rotate_left 2
                  simp only [an1, an2]
                  refine Free.Chain.ex ?_ [(15, 28), (13, 26)] [] (by kernel_rfl) (by kernel_rfl) rfl Free.Bel.refl ?_ ?_
                  rotate_left 2
                  simp only [an1, an2]
                  rotate_left
                  iterate 2 (rotate_left; intro ev W hb hR hO hD; have hS := hF W hR; obtain ⟨hb1, hb2, hb3⟩ := hb; simp only [Free.AllDeps, Free.AllOuts, Free.At, al1, al2, al3, al4, al5, and_true] at hO hD; go_simp; rfl)
                  refine Free.Chain.exG ?_ [(16, 29)] [3] 16 false 29 (by kernel_rfl) (by kernel_rfl) rfl (by kernel_rfl) Free.Bel.refl ?_ ?_
                  rotate_left 2
                  simp only [an1, an2]
                  refine Free.Chain.exG ?_ [(17, 30), (16, 29)] [] 16 false 29 (by kernel_rfl) (by kernel_rfl) rfl (by kernel_rfl) Free.Bel.refl ?_ ?_
                  rotate_left 2
                  simp only [an1, an2]
                  refine Free.Chain.exG ?_ [(18, 31), (16, 29), (16, 29)] [] 16 false 29 (by kernel_rfl) (by kernel_rfl) rfl (by kernel_rfl) Free.Bel.refl ?_ ?_
                  rotate_left 2
                  simp only [an1, an2]
                  refine Free.Chain.exG ?_ [(19, 32)] [0] 19 true 32 (by kernel_rfl) (by kernel_rfl) rfl (by kernel_rfl) Free.Bel.refl ?_ ?_
                  rotate_left 2
                  simp only [an1, an2]
                  refine Free.Chain.exG ?_ [(19, 32)] [3] 19 true 32 (by kernel_rfl) (by kernel_rfl) rfl (by kernel_rfl) Free.Bel.refl ?_ ?_
                  rotate_left 2
                  simp only [an1, an2]
                  refine Free.Chain.exG ?_ [(21, 34), (19, 32)] [] 19 true 32 (by kernel_rfl) (by kernel_rfl) rfl (by kernel_rfl) Free.Bel.refl ?_ ?_
                  rotate_left 2
                  simp only [an1, an2]
                  refine Free.Chain.exG ?_ [(20, 33), (22, 35), (19, 32)] [] 19 true 32 (by kernel_rfl) (by kernel_rfl) rfl (by kernel_rfl) Free.Bel.refl ?_ ?_
                  rotate_left 2
                  simp only [an1, an2]
                  refine Free.Chain.exG ?_ [(23, 36), (19, 32)] [] 19 true 32 (by kernel_rfl) (by kernel_rfl) rfl (by kernel_rfl) Free.Bel.refl ?_ ?_
                  rotate_left 2
                  simp only [an1, an2]
                  refine Free.Chain.exG ?_ [(24, 37), (19, 32)] [] 19 true 32 (by kernel_rfl) (by kernel_rfl) rfl (by kernel_rfl) Free.Bel.refl ?_ ?_
                  rotate_left 2
                  simp only [an1, an2]
                  refine Free.Chain.exG ?_ [(19, 32)] [0] 19 true 32 (by kernel_rfl) (by kernel_rfl) rfl (by kernel_rfl) Free.Bel.refl ?_ ?_
                  rotate_left 2
                  simp only [an1, an2]
                  refine Free.Chain.exG ?_ [(19, 32)] [3] 19 true 32 (by kernel_rfl) (by kernel_rfl) rfl (by kernel_rfl) Free.Bel.refl ?_ ?_
                  rotate_left 2
                  simp only [an1, an2]
                  refine Free.Chain.exG ?_ [(26, 39), (27, 40), (19, 32)] [] 19 true 32 (by kernel_rfl) (by kernel_rfl) rfl (by kernel_rfl) Free.Bel.refl ?_ ?_
                  rotate_left 2
                  simp only [an1, an2]
                  refine Free.Chain.exG ?_ [(28, 41), (19, 32)] [] 19 true 32 (by kernel_rfl) (by kernel_rfl) rfl (by kernel_rfl) Free.Bel.refl ?_ ?_
                  rotate_left 2
                  simp only [an1, an2]
                  refine Free.Chain.exG ?_ [(29, 42), (19, 32)] [] 19 true 32 (by kernel_rfl) (by kernel_rfl) rfl (by kernel_rfl) Free.Bel.refl ?_ ?_
                  rotate_left 2
                  simp only [an1, an2]
                  refine Free.Chain.exG ?_ [(25, 38), (30, 43), (19, 32)] [] 19 true 32 (by kernel_rfl) (by kernel_rfl) rfl (by kernel_rfl) Free.Bel.refl ?_ ?_
                  rotate_left 2
                  simp only [an1, an2]
                  refine Free.Chain.exG ?_ [(31, 44), (19, 32), (19, 32)] [] 19 true 32 (by kernel_rfl) (by kernel_rfl) rfl (by kernel_rfl) Free.Bel.refl ?_ ?_
                  rotate_left 2
                  simp only [an1, an2]
                  refine Free.Chain.exG ?_ [(32, 45)] [0] 32 false 45 (by kernel_rfl) (by kernel_rfl) rfl (by kernel_rfl) Free.Bel.refl ?_ ?_
                  rotate_left 2
                  simp only [an1, an2]
                  refine Free.Chain.exG ?_ [(32, 45)] [3] 32 false 45 (by kernel_rfl) (by kernel_rfl) rfl (by kernel_rfl) Free.Bel.refl ?_ ?_
                  rotate_left 2
                  simp only [an1, an2]
                  refine Free.Chain.exG ?_ [(34, 47), (32, 45)] [] 32 false 45 (by kernel_rfl) (by kernel_rfl) rfl (by kernel_rfl) Free.Bel.refl ?_ ?_
                  rotate_left 2
                  simp only [an1, an2]
                  refine Free.Chain.exG ?_ [(33, 46), (35, 48), (32, 45)] [] 32 false 45 (by kernel_rfl) (by kernel_rfl) rfl (by kernel_rfl) Free.Bel.refl ?_ ?_
                  rotate_left 2
                  simp only [an1, an2]
                  refine Free.Chain.exG ?_ [(36, 49), (32, 45)] [] 32 false 45 (by kernel_rfl) (by kernel_rfl) rfl (by kernel_rfl) Free.Bel.refl ?_ ?_
                  rotate_left 2
                  simp only [an1, an2]
                  refine Free.Chain.exG ?_ [(37, 50), (32, 45)] [] 32 false 45 (by kernel_rfl) (by kernel_rfl) rfl (by kernel_rfl) Free.Bel.refl ?_ ?_
                  rotate_left 2
                  simp only [an1, an2]
                  refine Free.Chain.exG ?_ [(32, 45)] [0] 32 false 45 (by kernel_rfl) (by kernel_rfl) rfl (by kernel_rfl) Free.Bel.refl ?_ ?_
                  rotate_left 2
                  simp only [an1, an2]
                  refine Free.Chain.exG ?_ [(32, 45)] [3] 32 false 45 (by kernel_rfl) (by kernel_rfl) rfl (by kernel_rfl) Free.Bel.refl ?_ ?_
                  rotate_left 2
                  simp only [an1, an2]
                  refine Free.Chain.exG ?_ [(39, 52), (40, 53), (32, 45)] [] 32 false 45 (by kernel_rfl) (by kernel_rfl) rfl (by kernel_rfl) Free.Bel.refl ?_ ?_
                  rotate_left 2
                  simp only [an1, an2]
                  refine Free.Chain.exG ?_ [(41, 54), (32, 45)] [] 32 false 45 (by kernel_rfl) (by kernel_rfl) rfl (by kernel_rfl) Free.Bel.refl ?_ ?_
                  rotate_left 2
                  simp only [an1, an2]
                  refine Free.Chain.exG ?_ [(42, 55), (32, 45)] [] 32 false 45 (by kernel_rfl) (by kernel_rfl) rfl (by kernel_rfl) Free.Bel.refl ?_ ?_
                  rotate_left 2
                  simp only [an1, an2]
                  refine Free.Chain.exG ?_ [(38, 51), (43, 56), (32, 45)] [] 32 false 45 (by kernel_rfl) (by kernel_rfl) rfl (by kernel_rfl) Free.Bel.refl ?_ ?_
                  rotate_left 2
                  simp only [an1, an2]
                  refine Free.Chain.exG ?_ [(32, 45), (44, 57), (19, 32)] [] 19 true 32 (by kernel_rfl) (by kernel_rfl) rfl (by kernel_rfl) Free.Bel.refl ?_ ?_
                  rotate_left 2
                  simp only [an1, an2]
                  refine Free.Chain.exG ?_ [(19, 32), (45, 58), (16, 29)] [] 16 false 29 (by kernel_rfl) (by kernel_rfl) rfl (by kernel_rfl) Free.Bel.refl ?_ ?_
                  rotate_left 2
                  simp only [an1, an2]
                  rotate_left
                  iterate 30 (rotate_left; intro ev W hb hR hO hD; have hS := hF W hR; obtain ⟨hb1, hb2, hb3⟩ := hb; simp only [Free.AllDeps, Free.AllOuts, Free.At, al1, al2, al3, al4, al5, and_true] at hO hD; refine ⟨by simp [hD, hkp], ?_⟩; go_simp; rfl)
                  refine Free.Chain.ex ?_ [(16, 29), (46, 59)] [] (by kernel_rfl) (by kernel_rfl) rfl Free.Bel.refl ?_ ?_
                  rotate_left 2
                  simp only [an1, an2]
                  rotate_left
                  rotate_left
                  · (intro ev W hb hR hO hD; have hS := hF W hR; obtain ⟨hb1, hb2, hb3⟩ := hb; simp only [Free.AllDeps, Free.AllOuts, Free.At, al1, al2, al3, al4, al5, and_true] at hO hD; go_simp; rfl)
                  intro xs w2 hR hV
                  simp only [Free.AllV, Free.At, List.length_cons, List.length_nil, Nat.reduceAdd, List.getElem?_cons_succ, List.getElem?_cons_zero, true_and] at hV
                  simp only [Free.putsFrom, Act.put, Nat.zero_add, Nat.reduceAdd, hV, List.setIfInBounds_toArray, List.set_cons_succ, List.set_cons_zero]
                  have hB2 := bt hB (hK0 _ hR)
                  clear hR hV hF hK0
                  go_wp2_with fail
                  go_ret
                  exact ⟨rfl, hB2⟩
                · have g2 : decide (y < p) = false := decide_eq_false h4
                  have hnext : Hid (agreedFrom x y (xs.drop (k + 1)) = r) := by
                    show _ = _
                    rw [← hst.out]
                    have i1 : inB (f + 1) 100 [x] = true := by simp [inB]; omega
                    have i2 : inB p 1000000 [y] = true := by simp [inB]; omega
                    rw [i1, i2]; rfl
                  have hF : ∀ W, Free.Bel wr.drew W → W.cell? ⟨b, off + k * 2, none⟩ = some (.int .i64 x) ∧ W.cell? ⟨b, off + k * 2 + 1, none⟩ = some (.int .i64 y) ∧ W.cell? ⟨b, off + j * 2, none⟩ = some (.int .i64 f) ∧ W.cell? ⟨b, off + j * 2 + 1, none⟩ = some (.int .i64 p) := fun W hW => ⟨keepsB (hK0 W hW) c0, keepsB (hK0 W hW) c1, keepsB (hK0 W hW) c2, keepsB (hK0 W hW) c3⟩
                  go_wp2_with fail
                  refine Free.wp_free (R := Free.Bel) (by kernel_rfl) (by kernel_rfl) Free.Bel.refl Free.Bel.trans ?_
                  refine Free.Chain.ex ?_ [] [0] (by kernel_rfl) (by kernel_rfl) rfl Free.Bel.refl ?_ ?_
                  rotate_left 2
                  simp only [an1, an2]
                  refine Free.Chain.ex ?_ [] [3] (by kernel_rfl) (by kernel_rfl) rfl Free.Bel.refl ?_ ?_
                  rotate_left 2
                  simp only [an1, an2]
                  refine Free.Chain.ex ?_ [(0, 13), (1, 14)] [] (by kernel_rfl) (by kernel_rfl) rfl Free.Bel.refl ?_ ?_
                  rotate_left 2
                  simp only [an1, an2]
                  refine Free.Chain.ex ?_ [(2, 15)] [] (by kernel_rfl) (by kernel_rfl) rfl Free.Bel.refl ?_ ?_
                  rotate_left 2
                  simp only [an1, an2]
                  refine Free.Chain.ex ?_ [(3, 16)] [] (by kernel_rfl) (by kernel_rfl) rfl Free.Bel.refl ?_ ?_
                  rotate_left 2
                  simp only [an1, an2]
                  rotate_left
                  iterate 5 (rotate_left; intro ev W hb hR hO hD; have hS := hF W hR; obtain ⟨hb1, hb2, hb3⟩ := hb; simp only [Free.AllDeps, Free.AllOuts, Free.At, al1, al2, al3, al4, al5, and_true] at hO hD; go_simp; rfl)
                  refine Free.Chain.pr (fun v _ => v = .bool true) [(4, 17)] [] (by kernel_rfl) (by kernel_rfl) rfl (fun _ _ _ _ h => h) ?_ ?_
                  · (intro ev W hb hR hO hD; have hS := hF W hR; obtain ⟨hb1, hb2, hb3⟩ := hb; simp only [Free.AllDeps, Free.AllOuts, Free.At, al1, al2, al3, al4, al5, and_true] at hO hD; go_simp; refine yields_enter ?_; (with_reducible refine (within_any x 1 100 true _ H1.out).mono ?_); rintro e W2 ⟨rfl, rfl⟩; exact ⟨_, rfl, Free.Bel.refl _, rfl⟩)
                  simp only [an1, an2]
                  refine Free.Chain.ex ?_ [(5, 18)] [] (by kernel_rfl) (by kernel_rfl) rfl Free.Bel.refl ?_ ?_
                  rotate_left 2
                  simp only [an1, an2]
                  refine Free.Chain.ex ?_ [(6, 19), (5, 18)] [] (by kernel_rfl) (by kernel_rfl) rfl Free.Bel.refl ?_ ?_
                  rotate_left 2
                  simp only [an1, an2]
                  rotate_left
                  iterate 2 (rotate_left; intro ev W hb hR hO hD; have hS := hF W hR; obtain ⟨hb1, hb2, hb3⟩ := hb; simp only [Free.AllDeps, Free.AllOuts, Free.At, al1, al2, al3, al4, al5, and_true] at hO hD; go_simp; rfl)
                  refine Free.Chain.exG ?_ [(7, 20)] [0] 7 false 20 (by kernel_rfl) (by kernel_rfl) rfl (by kernel_rfl) Free.Bel.refl ?_ ?_
                  rotate_left 2
                  simp only [an1, an2]
                  refine Free.Chain.exG ?_ [(7, 20)] [3] 7 false 20 (by kernel_rfl) (by kernel_rfl) rfl (by kernel_rfl) Free.Bel.refl ?_ ?_
                  rotate_left 2
                  simp only [an1, an2]
                  refine Free.Chain.exG ?_ [(8, 21), (9, 22), (7, 20)] [] 7 false 20 (by kernel_rfl) (by kernel_rfl) rfl (by kernel_rfl) Free.Bel.refl ?_ ?_
                  rotate_left 2
                  simp only [an1, an2]
                  refine Free.Chain.exG ?_ [(10, 23), (7, 20)] [] 7 false 20 (by kernel_rfl) (by kernel_rfl) rfl (by kernel_rfl) Free.Bel.refl ?_ ?_
                  rotate_left 2
                  simp only [an1, an2]
                  refine Free.Chain.exG ?_ [(11, 24), (7, 20)] [] 7 false 20 (by kernel_rfl) (by kernel_rfl) rfl (by kernel_rfl) Free.Bel.refl ?_ ?_
                  rotate_left 2
                  simp only [an1, an2]
                  rotate_left
                  iterate 5 (rotate_left; intro ev W hb hR hO hD; have hS := hF W hR; obtain ⟨hb1, hb2, hb3⟩ := hb; simp only [Free.AllDeps, Free.AllOuts, Free.At, al1, al2, al3, al4, al5, and_true] at hO hD; refine ⟨by simp [hD, hkp], ?_⟩; go_simp; rfl)
                  refine Free.Chain.prG (fun v _ => v = .bool true) [(12, 25), (7, 20), (7, 20)] [] 7 false 20 (by kernel_rfl) (by kernel_rfl) rfl (by kernel_rfl) (fun _ _ _ _ h => h) ?_ ?_
                  · (intro ev W hb hR hO hD; have hS := hF W hR; obtain ⟨hb1, hb2, hb3⟩ := hb; simp only [Free.AllDeps, Free.AllOuts, Free.At, al1, al2, al3, al4, al5, and_true] at hO hD; refine ⟨by simp [hD, hkp], ?_⟩; go_simp; refine yields_enter ?_; (with_reducible refine (within_any y 0 1000000 true _ H2.out).mono ?_); rintro e W2 ⟨rfl, rfl⟩; exact ⟨_, rfl, Free.Bel.refl _, rfl⟩)
                  simp only [an1, an2]
                  refine Free.Chain.exG ?_ [(13, 26), (7, 20)] [] 7 false 20 (by kernel_rfl) (by kernel_rfl) rfl (by kernel_rfl) Free.Bel.refl ?_ ?_
                  rotate_left 2
                  simp only [an1, an2]
                  rotate_left
                  rotate_left
                  · (intro ev W hb hR hO hD; have hS := hF W hR; obtain ⟨hb1, hb2, hb3⟩ := hb; simp only [Free.AllDeps, Free.AllOuts, Free.At, al1, al2, al3, al4, al5, and_true] at hO hD; refine ⟨by simp [hD, hkp], ?_⟩; go_simp; rfl)
                  refine Free.Chain.ex ?_ [(7, 20), (14, 27)] [] (by kernel_rfl) (by kernel_rfl) rfl Free.Bel.refl ?_ ?_
                  rotate_left 2
                  simp only [an1, an2]
                  refine Free.Chain.ex ?_ [(15, 28), (13, 26)] [] (by kernel_rfl) (by kernel_rfl) rfl Free.Bel.refl ?_ ?_
                  rotate_left 2
                  simp only [an1, an2]
                  rotate_left
                  iterate 2 (rotate_left; intro ev W hb hR hO hD; have hS := hF W hR; obtain ⟨hb1, hb2, hb3⟩ := hb; simp only [Free.AllDeps, Free.AllOuts, Free.At, al1, al2, al3, al4, al5, and_true] at hO hD; go_simp; rfl)
                  refine Free.Chain.exG ?_ [(16, 29)] [3] 16 false 29 (by kernel_rfl) (by kernel_rfl) rfl (by kernel_rfl) Free.Bel.refl ?_ ?_
                  rotate_left 2
                  simp only [an1, an2]
                  refine Free.Chain.exG ?_ [(17, 30), (16, 29)] [] 16 false 29 (by kernel_rfl) (by kernel_rfl) rfl (by kernel_rfl) Free.Bel.refl ?_ ?_
                  rotate_left 2
                  simp only [an1, an2]
                  refine Free.Chain.exG ?_ [(18, 31), (16, 29), (16, 29)] [] 16 false 29 (by kernel_rfl) (by kernel_rfl) rfl (by kernel_rfl) Free.Bel.refl ?_ ?_
                  rotate_left 2
                  simp only [an1, an2]
                  refine Free.Chain.exG ?_ [(19, 32)] [0] 19 true 32 (by kernel_rfl) (by kernel_rfl) rfl (by kernel_rfl) Free.Bel.refl ?_ ?_
                  rotate_left 2
                  simp only [an1, an2]
                  refine Free.Chain.exG ?_ [(19, 32)] [3] 19 true 32 (by kernel_rfl) (by kernel_rfl) rfl (by kernel_rfl) Free.Bel.refl ?_ ?_
                  rotate_left 2
                  simp only [an1, an2]
                  refine Free.Chain.exG ?_ [(21, 34), (19, 32)] [] 19 true 32 (by kernel_rfl) (by kernel_rfl) rfl (by kernel_rfl) Free.Bel.refl ?_ ?_
                  rotate_left 2
                  simp only [an1, an2]
                  refine Free.Chain.exG ?_ [(20, 33), (22, 35), (19, 32)] [] 19 true 32 (by kernel_rfl) (by kernel_rfl) rfl (by kernel_rfl) Free.Bel.refl ?_ ?_
                  rotate_left 2
                  simp only [an1, an2]
                  refine Free.Chain.exG ?_ [(23, 36), (19, 32)] [] 19 true 32 (by kernel_rfl) (by kernel_rfl) rfl (by kernel_rfl) Free.Bel.refl ?_ ?_
                  rotate_left 2
                  simp only [an1, an2]
                  refine Free.Chain.exG ?_ [(24, 37), (19, 32)] [] 19 true 32 (by kernel_rfl) (by kernel_rfl) rfl (by kernel_rfl) Free.Bel.refl ?_ ?_
                  rotate_left 2
                  simp only [an1, an2]
                  refine Free.Chain.exG ?_ [(19, 32)] [0] 19 true 32 (by kernel_rfl) (by kernel_rfl) rfl (by kernel_rfl) Free.Bel.refl ?_ ?_
                  rotate_left 2
                  simp only [an1, an2]
                  refine Free.Chain.exG ?_ [(19, 32)] [3] 19 true 32 (by kernel_rfl) (by kernel_rfl) rfl (by kernel_rfl) Free.Bel.refl ?_ ?_
                  rotate_left 2
                  simp only [an1, an2]
                  refine Free.Chain.exG ?_ [(26, 39), (27, 40), (19, 32)] [] 19 true 32 (by kernel_rfl) (by kernel_rfl) rfl (by kernel_rfl) Free.Bel.refl ?_ ?_
                  rotate_left 2
                  simp only [an1, an2]
                  refine Free.Chain.exG ?_ [(28, 41), (19, 32)] [] 19 true 32 (by kernel_rfl) (by kernel_rfl) rfl (by kernel_rfl) Free.Bel.refl ?_ ?_
                  rotate_left 2
                  simp only [an1, an2]
                  refine Free.Chain.exG ?_ [(29, 42), (19, 32)] [] 19 true 32 (by kernel_rfl) (by kernel_rfl) rfl (by kernel_rfl) Free.Bel.refl ?_ ?_
                  rotate_left 2
                  simp only [an1, an2]
                  refine Free.Chain.exG ?_ [(25, 38), (30, 43), (19, 32)] [] 19 true 32 (by kernel_rfl) (by kernel_rfl) rfl (by kernel_rfl) Free.Bel.refl ?_ ?_
                  rotate_left 2
                  simp only [an1, an2]
                  refine Free.Chain.exG ?_ [(31, 44), (19, 32), (19, 32)] [] 19 true 32 (by kernel_rfl) (by kernel_rfl) rfl (by kernel_rfl) Free.Bel.refl ?_ ?_
                  rotate_left 2
                  simp only [an1, an2]
                  refine Free.Chain.exG ?_ [(32, 45)] [0] 32 false 45 (by kernel_rfl) (by kernel_rfl) rfl (by kernel_rfl) Free.Bel.refl ?_ ?_
                  rotate_left 2
                  simp only [an1, an2]
                  refine Free.Chain.exG ?_ [(32, 45)] [3] 32 false 45 (by kernel_rfl) (by kernel_rfl) rfl (by kernel_rfl) Free.Bel.refl ?_ ?_
                  rotate_left 2
                  simp only [an1, an2]
                  refine Free.Chain.exG ?_ [(34, 47), (32, 45)] [] 32 false 45 (by kernel_rfl) (by kernel_rfl) rfl (by kernel_rfl) Free.Bel.refl ?_ ?_
                  rotate_left 2
                  simp only [an1, an2]
                  refine Free.Chain.exG ?_ [(33, 46), (35, 48), (32, 45)] [] 32 false 45 (by kernel_rfl) (by kernel_rfl) rfl (by kernel_rfl) Free.Bel.refl ?_ ?_
                  rotate_left 2
                  simp only [an1, an2]
                  refine Free.Chain.exG ?_ [(36, 49), (32, 45)] [] 32 false 45 (by kernel_rfl) (by kernel_rfl) rfl (by kernel_rfl) Free.Bel.refl ?_ ?_
                  rotate_left 2
                  simp only [an1, an2]
                  refine Free.Chain.exG ?_ [(37, 50), (32, 45)] [] 32 false 45 (by kernel_rfl) (by kernel_rfl) rfl (by kernel_rfl) Free.Bel.refl ?_ ?_
                  rotate_left 2
                  simp only [an1, an2]
                  refine Free.Chain.exG ?_ [(32, 45)] [0] 32 false 45 (by kernel_rfl) (by kernel_rfl) rfl (by kernel_rfl) Free.Bel.refl ?_ ?_
                  rotate_left 2
                  simp only [an1, an2]
                  refine Free.Chain.exG ?_ [(32, 45)] [3] 32 false 45 (by kernel_rfl) (by kernel_rfl) rfl (by kernel_rfl) Free.Bel.refl ?_ ?_
                  rotate_left 2
                  simp only [an1, an2]
                  refine Free.Chain.exG ?_ [(39, 52), (40, 53), (32, 45)] [] 32 false 45 (by kernel_rfl) (by kernel_rfl) rfl (by kernel_rfl) Free.Bel.refl ?_ ?_
                  rotate_left 2
                  simp only [an1, an2]
                  refine Free.Chain.exG ?_ [(41, 54), (32, 45)] [] 32 false 45 (by kernel_rfl) (by kernel_rfl) rfl (by kernel_rfl) Free.Bel.refl ?_ ?_
                  rotate_left 2
                  simp only [an1, an2]
                  refine Free.Chain.exG ?_ [(42, 55), (32, 45)] [] 32 false 45 (by kernel_rfl) (by kernel_rfl) rfl (by kernel_rfl) Free.Bel.refl ?_ ?_
                  rotate_left 2
                  simp only [an1, an2]
                  refine Free.Chain.exG ?_ [(38, 51), (43, 56), (32, 45)] [] 32 false 45 (by kernel_rfl) (by kernel_rfl) rfl (by kernel_rfl) Free.Bel.refl ?_ ?_
                  rotate_left 2
                  simp only [an1, an2]
                  refine Free.Chain.exG ?_ [(32, 45), (44, 57), (19, 32)] [] 19 true 32 (by kernel_rfl) (by kernel_rfl) rfl (by kernel_rfl) Free.Bel.refl ?_ ?_
                  rotate_left 2
                  simp only [an1, an2]
                  refine Free.Chain.exG ?_ [(19, 32), (45, 58), (16, 29)] [] 16 false 29 (by kernel_rfl) (by kernel_rfl) rfl (by kernel_rfl) Free.Bel.refl ?_ ?_
                  rotate_left 2
                  simp only [an1, an2]
                  rotate_left
                  iterate 30 (rotate_left; intro ev W hb hR hO hD; have hS := hF W hR; obtain ⟨hb1, hb2, hb3⟩ := hb; simp only [Free.AllDeps, Free.AllOuts, Free.At, al1, al2, al3, al4, al5, and_true] at hO hD; refine ⟨by simp [hD, hkp], ?_⟩; go_simp; rfl)
                  refine Free.Chain.ex ?_ [(16, 29), (46, 59)] [] (by kernel_rfl) (by kernel_rfl) rfl Free.Bel.refl ?_ ?_
                  rotate_left 2
                  simp only [an1, an2]
                  rotate_left
                  rotate_left
                  · (intro ev W hb hR hO hD; have hS := hF W hR; obtain ⟨hb1, hb2, hb3⟩ := hb; simp only [Free.AllDeps, Free.AllOuts, Free.At, al1, al2, al3, al4, al5, and_true] at hO hD; go_simp; rfl)
                  intro xs w2 hR hV
                  simp only [Free.AllV, Free.At, List.length_cons, List.length_nil, Nat.reduceAdd, List.getElem?_cons_succ, List.getElem?_cons_zero, true_and] at hV
                  simp only [Free.putsFrom, Act.put, Nat.zero_add, Nat.reduceAdd, hV, List.setIfInBounds_toArray, List.set_cons_succ, List.set_cons_zero]
                  have hB2 := bt hB (hK0 _ hR)
                  clear hR hV hF hK0
                  go_wp2_with fail
                  go_roundw
                  case rel => exact ⟨k + 1, x, y, by omega, by go_num, by omega, by omega, hnext, fun h => by omega, fun j9 h9 e9 => (by obtain rfl : j9 = k := (by omega); exact HX.out), hB2⟩
                  case measure => simp [intOf]; omega
      · obtain rfl : k = xs.length := by omega
        have hrt : r = true := by
          rw [← HAG.out, List.drop_length]; rfl
        subst hrt
        have k9 : decide ((xs.length : Int) < xs.length) = false := decide_eq_false (by omega)
        go_wp2_with fail
        go_ret
        exact ⟨rfl, hB⟩
  · have k0 : decide (5 < (xs.length : Int)) = true := decide_eq_true (by omega)
    have hrf : r = false := by
      rw [← hr.out, agreedE]
      cases h : agreedFrom 0 0 xs
      · simp
      · have h5 : decide ((xs.length : Int) ≤ 5) = false := decide_eq_false (by omega)
        simp [unlessV, h5]
    subst hrf
    go_enter Try.func67, Try.ntmps67
    go_wp2_with fail
    go_ret
    exact ⟨rfl, Below.refl _ _⟩
end Go.Proofs.Ytfdbegohjlijoaa

/-
  DERIVED: THE SHELF's CONTRACTS AT THIS DUMP, IN PLAIN WORDS (tools/lay-plain.mjs out of 'TryShelf.lean', which tools/lay-shelf.mjs wrote): THE SAME DECLARATIONS UNDER THE SAME NAMES: 'import', 'namespace', 'open', 'def', 'theorem' AND NOTHING ELSE: no command of the shelf's: FOR A HAND-IN. Each laying: the table of numbers ('.._ren') and one theorem, a field a fact of the dump's own or the kernel's comparison; each contract: ONE APPLICATION.
-/
namespace Go.Proofs
open Go.Shelf
def Try.lays128_ren : Go.Shelf.Ren := ⟨fun | 128 => 101 | n => n, fun | 51 => 147 | 3 => 3 | 4 => 4 | 46 => 135 | 5 => 5 | 9 => 9 | n => n, fun | n => n⟩
theorem Try.lays128 : Go.Proofs.Lays.n128 Try.prog Try.lays128_ren := {
  mixed := by kernel_rfl
  f128 := Try.func101.trans (congrArg some (by kernel_rfl))
  t3 := Try.underlying3
  a3 := Try.isAgg3
  z3 := Try.sizeOf3
  v3 := Try.zeroValue3
  t4 := Try.underlying4
  a4 := Try.isAgg4
  z4 := Try.sizeOf4
  v4 := Try.zeroValue4
  t5 := Try.underlying5
  a5 := Try.isAgg5
  z5 := Try.sizeOf5
  v5 := Try.zeroValue5
  t9 := Try.underlying9
  a9 := Try.isAgg9
  z9 := Try.sizeOf9
  v9 := Try.zeroValue9
  t46 := Try.underlying135
  a46 := Try.isAgg135
  z46 := Try.sizeOf135
  v46 := Try.zeroValue135
  t51 := Try.underlying147
  a51 := Try.isAgg147
  z51 := Try.sizeOf147
  v51 := Try.zeroValue147 }
/-- bits.Len32: "Len32 returns the minimum number of bits required to represent x; the result is 0 for x == 0.": IT RETURNS 'Lib.bitLen x'; the world is as it was. ('h0', 'h1': x is a uint32.) (LAID: no walk: one application.) -/
theorem Try.bits_Len32 (x : Int) (w : World) (h0 : 0 ≤ x) (h1 : x ≤ 4294967295) :
    Calls Try.prog 101 #[.int .u32 x] w fun e w' => e = .returned (.int .i64 (Lib.bitLen x.toNat)) ∧ w' = w := Any.bits_Len32 Try.lays128 x w h0 h1
def Try.lays125_ren : Go.Shelf.Ren := ⟨fun | 125 => 87 | 128 => 101 | 129 => 102 | n => n, fun | 46 => 135 | 3 => 3 | 51 => 147 | 53 => 149 | 4 => 4 | 5 => 5 | 9 => 9 | n => n, fun | n => n⟩
theorem Try.lays125 : Go.Proofs.Lays.n125 Try.prog Try.lays125_ren := {
  mixed := by kernel_rfl
  f125 := Try.func87.trans (congrArg some (by kernel_rfl))
  f128 := Try.func101.trans (congrArg some (by kernel_rfl))
  f129 := Try.func102.trans (congrArg some (by kernel_rfl))
  t3 := Try.underlying3
  a3 := Try.isAgg3
  z3 := Try.sizeOf3
  v3 := Try.zeroValue3
  t4 := Try.underlying4
  a4 := Try.isAgg4
  z4 := Try.sizeOf4
  v4 := Try.zeroValue4
  t5 := Try.underlying5
  a5 := Try.isAgg5
  z5 := Try.sizeOf5
  v5 := Try.zeroValue5
  t9 := Try.underlying9
  a9 := Try.isAgg9
  z9 := Try.sizeOf9
  v9 := Try.zeroValue9
  t46 := Try.underlying135
  a46 := Try.isAgg135
  z46 := Try.sizeOf135
  v46 := Try.zeroValue135
  t51 := Try.underlying147
  a51 := Try.isAgg147
  z51 := Try.sizeOf147
  v51 := Try.zeroValue147
  t53 := Try.underlying149
  a53 := Try.isAgg149
  z53 := Try.sizeOf149
  v53 := Try.zeroValue149 }
/-- bits.Len: "Len returns the minimum number of bits required to represent x; the result is 0 for x == 0.": IT RETURNS 'Lib.bitLen x'; the world is as it was. (A uint has 64 bits in the model.) ITS CALLEE bits.Len64 IS MET BY ITS OWN CONTRACT OFF THE SHELF (lay that first). (LAID: no walk: one application.) -/
theorem Try.bits_Len (x : Int) (w : World) (h0 : 0 ≤ x) (h1 : x ≤ 18446744073709551615) :
    Calls Try.prog 87 #[.int .u64 x] w fun e w' => e = .returned (.int .i64 (Lib.bitLen x.toNat)) ∧ w' = w := Any.bits_Len Try.lays125 x w h0 h1
def Try.lays215_ren : Go.Shelf.Ren := ⟨fun | 215 => 80 | n => n, fun | 3 => 3 | 4 => 4 | n => n, fun | n => n⟩
theorem Try.lays215 : Go.Proofs.Lays.n215 Try.prog Try.lays215_ren := {
  mixed := by kernel_rfl
  f215 := Try.func80.trans (congrArg some (by kernel_rfl))
  t3 := Try.underlying3
  a3 := Try.isAgg3
  z3 := Try.sizeOf3
  v3 := Try.zeroValue3
  t4 := Try.underlying4
  a4 := Try.isAgg4
  z4 := Try.sizeOf4
  v4 := Try.zeroValue4 }
open Go.RowKit in
/-- cmp.isNaN at int: 'x != x': false. (LAID: no walk: one application.) -/
theorem Try.cmp_isNaN_int (x : Int) (w : World) :
    Calls Try.prog 80 #[.int .i64 x] w fun e w' => e = .returned (.bool false) ∧ w' = w := Any.cmp_isNaN_int Try.lays215 x w
def Try.lays122_ren : Go.Shelf.Ren := ⟨fun | 122 => 58 | 215 => 80 | n => n, fun | 3 => 3 | 4 => 4 | n => n, fun | n => n⟩
theorem Try.lays122 : Go.Proofs.Lays.n122 Try.prog Try.lays122_ren := {
  mixed := by kernel_rfl
  f122 := Try.func58.trans (congrArg some (by kernel_rfl))
  f215 := Try.func80.trans (congrArg some (by kernel_rfl))
  t3 := Try.underlying3
  a3 := Try.isAgg3
  z3 := Try.sizeOf3
  v3 := Try.zeroValue3
  t4 := Try.underlying4
  a4 := Try.isAgg4
  z4 := Try.sizeOf4
  v4 := Try.zeroValue4 }
open Go.RowKit in
/-- cmp.Compare at int: "Compare returns -1 if x is less than y, 0 if x equals y, +1 if x is greater than y.": IT RETURNS 'Lib.compareInt x y'; the world is as it was. (LAID: no walk: one application.) -/
theorem Try.cmp_Compare_int (x y : Int) (w : World) :
    Calls Try.prog 58 #[.int .i64 x, .int .i64 y] w fun e w' => e = .returned (.int .i64 (Lib.compareInt x y)) ∧ w' = w := Any.cmp_Compare_int Try.lays122 x y w
def Try.lays129_ren : Go.Shelf.Ren := ⟨fun | 129 => 102 | n => n, fun | 53 => 149 | 3 => 3 | 4 => 4 | 46 => 135 | 5 => 5 | 9 => 9 | n => n, fun | n => n⟩
theorem Try.lays129 : Go.Proofs.Lays.n129 Try.prog Try.lays129_ren := {
  mixed := by kernel_rfl
  f129 := Try.func102.trans (congrArg some (by kernel_rfl))
  t3 := Try.underlying3
  a3 := Try.isAgg3
  z3 := Try.sizeOf3
  v3 := Try.zeroValue3
  t4 := Try.underlying4
  a4 := Try.isAgg4
  z4 := Try.sizeOf4
  v4 := Try.zeroValue4
  t5 := Try.underlying5
  a5 := Try.isAgg5
  z5 := Try.sizeOf5
  v5 := Try.zeroValue5
  t9 := Try.underlying9
  a9 := Try.isAgg9
  z9 := Try.sizeOf9
  v9 := Try.zeroValue9
  t46 := Try.underlying135
  a46 := Try.isAgg135
  z46 := Try.sizeOf135
  v46 := Try.zeroValue135
  t53 := Try.underlying149
  a53 := Try.isAgg149
  z53 := Try.sizeOf149
  v53 := Try.zeroValue149 }
/-- bits.Len64: "Len64 returns the minimum number of bits required to represent x; the result is 0 for x == 0.": IT RETURNS 'Lib.bitLen x'; the world is as it was. ('h0', 'h1': x is a uint64.) (LAID: no walk: one application.) -/
theorem Try.bits_Len64 (x : Int) (w : World) (h0 : 0 ≤ x) (h1 : x ≤ 18446744073709551615) :
    Calls Try.prog 102 #[.int .u64 x] w fun e w' => e = .returned (.int .i64 (Lib.bitLen x.toNat)) ∧ w' = w := Any.bits_Len64 Try.lays129 x w h0 h1
def Try.lays189_ren : Go.Shelf.Ren := ⟨fun | 189 => 71 | 125 => 87 | 257 => 86 | 128 => 101 | 129 => 102 | 294 => 92 | 295 => 93 | 296 => 94 | 297 => 95 | 298 => 96 | 299 => 97 | 216 => 98 | 300 => 99 | 301 => 100 | 328 => 103 | 329 => 104 | 330 => 105 | 331 => 106 | 332 => 107 | 215 => 80 | 343 => 108 | n => n, fun | 28 => 52 | 3 => 3 | 46 => 135 | 0 => 0 | 51 => 147 | 53 => 149 | 4 => 4 | 183 => 141 | 182 => 140 | 131 => 117 | 5 => 5 | 9 => 9 | 218 => 150 | 222 => 154 | 228 => 156 | 229 => 31 | n => n, fun | n => n⟩
theorem Try.lays189 : Go.Proofs.Lays.n189 Try.prog Try.lays189_ren := {
  mixed := by kernel_rfl
  f125 := Try.func87.trans (congrArg some (by kernel_rfl))
  f128 := Try.func101.trans (congrArg some (by kernel_rfl))
  f129 := Try.func102.trans (congrArg some (by kernel_rfl))
  f189 := Try.func71.trans (congrArg some (by kernel_rfl))
  f215 := Try.func80.trans (congrArg some (by kernel_rfl))
  f216 := Try.func98.trans (congrArg some (by kernel_rfl))
  f257 := Try.func86.trans (congrArg some (by kernel_rfl))
  f294 := Try.func92.trans (congrArg some (by kernel_rfl))
  f295 := Try.func93.trans (congrArg some (by kernel_rfl))
  f296 := Try.func94.trans (congrArg some (by kernel_rfl))
  f297 := Try.func95.trans (congrArg some (by kernel_rfl))
  f298 := Try.func96.trans (congrArg some (by kernel_rfl))
  f299 := Try.func97.trans (congrArg some (by kernel_rfl))
  f300 := Try.func99.trans (congrArg some (by kernel_rfl))
  f301 := Try.func100.trans (congrArg some (by kernel_rfl))
  f328 := Try.func103.trans (congrArg some (by kernel_rfl))
  f329 := Try.func104.trans (congrArg some (by kernel_rfl))
  f330 := Try.func105.trans (congrArg some (by kernel_rfl))
  f331 := Try.func106.trans (congrArg some (by kernel_rfl))
  f332 := Try.func107.trans (congrArg some (by kernel_rfl))
  f343 := Try.func108.trans (congrArg some (by kernel_rfl))
  t0 := Try.underlying0
  a0 := Try.isAgg0
  z0 := Try.sizeOf0
  v0 := Try.zeroValue0
  t3 := Try.underlying3
  a3 := Try.isAgg3
  z3 := Try.sizeOf3
  v3 := Try.zeroValue3
  t4 := Try.underlying4
  a4 := Try.isAgg4
  z4 := Try.sizeOf4
  v4 := Try.zeroValue4
  t5 := Try.underlying5
  a5 := Try.isAgg5
  z5 := Try.sizeOf5
  v5 := Try.zeroValue5
  t9 := Try.underlying9
  a9 := Try.isAgg9
  z9 := Try.sizeOf9
  v9 := Try.zeroValue9
  t28 := Try.underlying52
  a28 := Try.isAgg52
  z28 := Try.sizeOf52
  v28 := Try.zeroValue52
  t46 := Try.underlying135
  a46 := Try.isAgg135
  z46 := Try.sizeOf135
  v46 := Try.zeroValue135
  t51 := Try.underlying147
  a51 := Try.isAgg147
  z51 := Try.sizeOf147
  v51 := Try.zeroValue147
  t53 := Try.underlying149
  a53 := Try.isAgg149
  z53 := Try.sizeOf149
  v53 := Try.zeroValue149
  t131 := Try.underlying117
  a131 := Try.isAgg117
  z131 := Try.sizeOf117
  v131 := Try.zeroValue117
  t182 := Try.underlying140
  a182 := Try.isAgg140
  z182 := Try.sizeOf140
  v182 := Try.zeroValue140
  t183 := Try.underlying141
  a183 := Try.isAgg141
  z183 := Try.sizeOf141
  v183 := Try.zeroValue141
  t218 := Try.underlying150
  a218 := Try.isAgg150
  z218 := Try.sizeOf150
  v218 := Try.zeroValue150
  t222 := Try.underlying154
  a222 := Try.isAgg154
  z222 := Try.sizeOf154
  v222 := Try.zeroValue154
  t228 := Try.underlying156
  a228 := Try.isAgg156
  z228 := Try.sizeOf156
  v228 := Try.zeroValue156
  t229 := Try.underlying31
  a229 := Try.isAgg31
  z229 := Try.sizeOf31
  v229 := Try.zeroValue31 }
open Go.Sort Go.RowKit in
theorem Try.slices_Sort_int (blk off cap : Nat) (zs : List Int) (w : World) (hH : Holds (Value.int .i64) w blk off zs.toArray) (hblk : blk < w.heap.size) (hsz : zs.length < 4611686018427387904) :
    Calls Try.prog 71 #[.slice (some ⟨blk, off, none⟩) zs.length cap] w fun e w' =>
      e = .returned (.tuple #[]) ∧ ∃ n os, w' = grow (putRow (Value.int .i64) (Sort.ahead w n) blk off (zs.mergeSort fun x y => decide (x ≤ y)).toArray) os := Any.slices_Sort_int Try.lays189 blk off cap zs w hH hblk hsz
def Try.lays113_ren : Go.Shelf.Ren := ⟨fun | 113 => 54 | n => n, fun | 28 => 52 | 3 => 3 | 4 => 4 | 9 => 9 | 20 => 20 | 0 => 0 | n => n, fun | n => n⟩
theorem Try.lays113 : Go.Proofs.Lays.n113 Try.prog Try.lays113_ren := {
  mixed := by kernel_rfl
  f113 := Try.func54.trans (congrArg some (by kernel_rfl))
  t0 := Try.underlying0
  a0 := Try.isAgg0
  z0 := Try.sizeOf0
  v0 := Try.zeroValue0
  t3 := Try.underlying3
  a3 := Try.isAgg3
  z3 := Try.sizeOf3
  v3 := Try.zeroValue3
  t4 := Try.underlying4
  a4 := Try.isAgg4
  z4 := Try.sizeOf4
  v4 := Try.zeroValue4
  t9 := Try.underlying9
  a9 := Try.isAgg9
  z9 := Try.sizeOf9
  v9 := Try.zeroValue9
  t20 := Try.underlying20
  a20 := Try.isAgg20
  z20 := Try.sizeOf20
  v20 := Try.zeroValue20
  t28 := Try.underlying52
  a28 := Try.isAgg52
  z28 := Try.sizeOf52
  v28 := Try.zeroValue52 }
open Go.Lib in
/-- slices.Max at []int: "Max returns the maximal value in x. It panics if x is empty.": OF A SLICE THAT IS NOT EMPTY IT RETURNS 'Lib.maxOf (the elements)'; the world is as it was. (Of an empty one it panics: no contract here.) (LAID: no walk: one application.) -/
theorem Try.slices_Max_int (b off n c : Nat) (zs : List Int) (w : World) (hn : 0 < n) (hz : n ≤ zs.length) (hbig : n ≤ 9223372036854775807) (hc : ∀ j, j < zs.length → w.cell? ⟨b, off + j, none⟩ = some (.int .i64 (zs.getD j 0))) :
    Calls Try.prog 54 #[.slice (some ⟨b, off, none⟩) n c] w fun e w' => e = .returned (.int .i64 (Lib.maxOf (zs.take n))) ∧ w' = w := Any.slices_Max_int Try.lays113 b off n c zs w hn hz hbig hc
def Try.lays114_ren : Go.Shelf.Ren := ⟨fun | 114 => 53 | n => n, fun | 28 => 52 | 3 => 3 | 4 => 4 | 9 => 9 | 20 => 20 | 0 => 0 | n => n, fun | n => n⟩
theorem Try.lays114 : Go.Proofs.Lays.n114 Try.prog Try.lays114_ren := {
  mixed := by kernel_rfl
  f114 := Try.func53.trans (congrArg some (by kernel_rfl))
  t0 := Try.underlying0
  a0 := Try.isAgg0
  z0 := Try.sizeOf0
  v0 := Try.zeroValue0
  t3 := Try.underlying3
  a3 := Try.isAgg3
  z3 := Try.sizeOf3
  v3 := Try.zeroValue3
  t4 := Try.underlying4
  a4 := Try.isAgg4
  z4 := Try.sizeOf4
  v4 := Try.zeroValue4
  t9 := Try.underlying9
  a9 := Try.isAgg9
  z9 := Try.sizeOf9
  v9 := Try.zeroValue9
  t20 := Try.underlying20
  a20 := Try.isAgg20
  z20 := Try.sizeOf20
  v20 := Try.zeroValue20
  t28 := Try.underlying52
  a28 := Try.isAgg52
  z28 := Try.sizeOf52
  v28 := Try.zeroValue52 }
open Go.Lib in
/-- slices.Min at []int: "Min returns the minimal value in x. It panics if x is empty.": OF A SLICE THAT IS NOT EMPTY IT RETURNS 'Lib.minOf (the elements)'; the world is as it was. (Of an empty one it panics: no contract here.) (LAID: no walk: one application.) -/
theorem Try.slices_Min_int (b off n c : Nat) (zs : List Int) (w : World) (hn : 0 < n) (hz : n ≤ zs.length) (hbig : n ≤ 9223372036854775807) (hc : ∀ j, j < zs.length → w.cell? ⟨b, off + j, none⟩ = some (.int .i64 (zs.getD j 0))) :
    Calls Try.prog 53 #[.slice (some ⟨b, off, none⟩) n c] w fun e w' => e = .returned (.int .i64 (Lib.minOf (zs.take n))) ∧ w' = w := Any.slices_Min_int Try.lays114 b off n c zs w hn hz hbig hc
def Try.laysNm237_ren : Go.Shelf.Ren := ⟨fun | 37 => 80 | n => n, fun | 3 => 3 | 4 => 4 | n => n, fun | n => n⟩
theorem Try.laysNm237 : Go.Proofs.Lays2.n37 Try.prog Try.laysNm237_ren := {
  mixed := by kernel_rfl
  f37 := Try.func80.trans (congrArg some (by kernel_rfl))
  t3 := Try.underlying3
  a3 := Try.isAgg3
  z3 := Try.sizeOf3
  v3 := Try.zeroValue3
  t4 := Try.underlying4
  a4 := Try.isAgg4
  z4 := Try.sizeOf4
  v4 := Try.zeroValue4 }
open Go.RowKit Go.Lib in
/-- cmp.isNaN[int]: 'x != x': false. (LAID: no walk: one application.) -/
theorem Try.cmp_isNaN_int2 (x : Int) (w : World) :
    Calls Try.prog 80 #[.int .i64 x] w fun e w' => e = .returned (.bool false) ∧ w' = w := Any.cmp_isNaN_int2 Try.laysNm237 x w
def Try.laysNm231_ren : Go.Shelf.Ren := ⟨fun | 31 => 98 | 37 => 80 | n => n, fun | 3 => 3 | 4 => 4 | n => n, fun | n => n⟩
theorem Try.laysNm231 : Go.Proofs.Lays2.n31 Try.prog Try.laysNm231_ren := {
  mixed := by kernel_rfl
  f31 := Try.func98.trans (congrArg some (by kernel_rfl))
  f37 := Try.func80.trans (congrArg some (by kernel_rfl))
  t3 := Try.underlying3
  a3 := Try.isAgg3
  z3 := Try.sizeOf3
  v3 := Try.zeroValue3
  t4 := Try.underlying4
  a4 := Try.isAgg4
  z4 := Try.sizeOf4
  v4 := Try.zeroValue4 }
open Go.RowKit Go.Lib in
/-- cmp.Less[int]: "Less reports whether x is less than y.": 'x < y'; the world is as it was. (LAID: no walk: one application.) -/
theorem Try.cmp_Less_int2 (x y : Int) (w : World) :
    Calls Try.prog 98 #[.int .i64 x, .int .i64 y] w fun e w' => e = .returned (.bool (decide (x < y))) ∧ w' = w := Any.cmp_Less_int2 Try.laysNm231 x y w
open Go.RowKit Go.Sort in
/-- .. and plain. (LAID: no walk: one application.) -/
theorem Try.slices_Sort_int_none (p : Option Addr) (cap : Nat) (w : World) :
    Calls Try.prog 71 #[.slice p 0 cap] w fun e w' => e = .returned (.tuple #[]) ∧ w' = w := Any.slices_Sort_int_none Try.lays189 p cap w
end Go.Proofs

/- Awards. -/
namespace Go.Proofs.Ytfdbegohjlijoaa
set_option linter.unusedSimpArgs false
set_option linter.unusedVariables false
open Go.RowKit Go.Sort

/-- What an award is, or the error. -/
def awardB (a b u : Int) : Bool := inB 0 1000000 [a, b, u]
def awardV (a b u : Int) : Int := if max a b - min a b ≤ max a b / 10 then (a + b) / 2 else max (min a b) (min (max a b) u)
theorem perm_sum {l l' : List Int} (h : l.Perm l') : l.foldr (fun p q => p + q) 0 = l'.foldr (fun p q => p + q) 0 := by
  induction h with
  | nil => rfl
  | cons x _ ih => simp [ih]
  | swap x y l => simp; omega
  | trans _ _ h1 h2 => rw [h1, h2]
theorem sorted3 (a b u : Int) : ∃ x z : Int, ([a, b, u].mergeSort fun x y => decide (x ≤ y)) = [x, max (min a b) (min (max a b) u), z] := by
  have hp := List.mergeSort_perm [a, b, u] (fun x y : Int => decide (x ≤ y))
  have hs := List.pairwise_mergeSort (le := fun x y : Int => decide (x ≤ y)) (fun a b c h1 h2 => by simp at *; omega) (fun a b => by simp; omega) [a, b, u]
  generalize ([a, b, u].mergeSort fun x y => decide (x ≤ y)) = l at *
  have hl := hp.length_eq
  match l, hl with
  | [x, y, z], _ =>
    refine ⟨x, z, ?_⟩
    simp at hs
    have ha : a = x ∨ a = y ∨ a = z := by have := hp.symm.subset (show a ∈ [a, b, u] by simp); simpa using this
    have hb : b = x ∨ b = y ∨ b = z := by have := hp.symm.subset (show b ∈ [a, b, u] by simp); simpa using this
    have hu : u = x ∨ u = y ∨ u = z := by have := hp.symm.subset (show u ∈ [a, b, u] by simp); simpa using this
    have hx : x = a ∨ x = b ∨ x = u := by have := hp.subset (show x ∈ [x, y, z] by simp); simpa using this
    have hz : z = a ∨ z = b ∨ z = u := by have := hp.subset (show z ∈ [x, y, z] by simp); simpa using this
    have hsum : x + (y + z) = a + (b + u) := by
      have := perm_sum hp
      simpa using this
    congr 2
    omega

set_option maxRecDepth 100000 in
set_option maxHeartbeats 2000000 in
theorem award_v (a b u : Int) (w : World) (v : Value) (hv : Hid ((.tuple (if awardB a b u = false then #[.int .i64 0, .int .i64 2] else #[.int .i64 (awardV a b u), .int .i64 0]) : Value) = v)) :
    Calls Try.prog 31 #[.int .i64 a, .int .i64 b, .int .i64 u] w fun e w' => e = .returned v ∧ Below w.heap.size w w' := by
  have hB0 : Below w.heap.size w (w.alloc (.cells #[.int .i64 a, .int .i64 b, .int .i64 u] 3)) := (Below.refl _ w).alloc (Nat.le_refl _) _
  have hsl := SlI.three a b u 3 w
  cases hq : awardB a b u
  · have HQ := Lib.hid hq
    have HB0 := Lib.hid hB0
    have HS := Lib.hid hsl
    obtain rfl : Value.tuple #[.int .i64 0, .int .i64 2] = v := by rw [← hv.out, if_pos hq]
    clear hq hB0 hsl
    go_enter Try.func31, Try.ntmps31
    go_wp2_with fail
    refine (in_sl 0 1000000 [a, b, u] false _ _ (by simp [maxLen]) HQ.out HS.out).mono ?_
    rintro e w1 ⟨rfl, hB1⟩
    go_wp2_with fail
    go_ret2
    exact ⟨rfl, HB0.out.trans (hB1.mono (by simp))⟩
  · have hb : (0 ≤ a ∧ a ≤ 1000000) ∧ (0 ≤ b ∧ b ≤ 1000000) ∧ 0 ≤ u ∧ u ≤ 1000000 := by simpa [awardB, inB] using hq
    have HQ := Lib.hid hq
    have c0 : (w.alloc (.cells #[.int .i64 a, .int .i64 b, .int .i64 u] 3)).cell? ⟨w.heap.size, 0, none⟩ = some (.int .i64 a) := by simp [go_sem]
    have c1 : (w.alloc (.cells #[.int .i64 a, .int .i64 b, .int .i64 u] 3)).cell? ⟨w.heap.size, 1, none⟩ = some (.int .i64 b) := by simp [go_sem]
    have c2 : (w.alloc (.cells #[.int .i64 a, .int .i64 b, .int .i64 u] 3)).cell? ⟨w.heap.size, 2, none⟩ = some (.int .i64 u) := by simp [go_sem]
    have f0 : ∀ k, (w.alloc (.cells #[.int .i64 a, .int .i64 b, .int .i64 u] 3)).frozen? ⟨w.heap.size, k, none⟩ = false := fun k => by simp [go_sem]
    have hlt := lt_of_cell c0
    have HB0 := Lib.hid hB0
    have HS := Lib.hid hsl
    have HC := Lib.hid (And.intro c0 (And.intro c1 (And.intro c2 (And.intro f0 hlt))))
    clear hq hB0 hsl c0 c1 c2 f0 hlt
    by_cases hn : max a b - min a b ≤ max a b / 10
    · obtain rfl : Value.tuple #[.int .i64 ((a + b) / 2), .int .i64 0] = v := by rw [← hv.out, if_neg (by simp [HQ.out]), awardV, if_pos hn]
      have hn2 : (a ≤ b ∧ b - a ≤ b / 10) ∨ (b < a ∧ a - b ≤ a / 10) := by omega
      clear hn
      rcases hn2 with ⟨hab, hn⟩ | ⟨hab, hn⟩
      all_goals
        go_enter Try.func31, Try.ntmps31
        go_wp2_with fail
        refine (in_sl 0 1000000 [a, b, u] true _ _ (by simp [maxLen]) HQ.out HS.out).mono ?_
        rintro e w1 ⟨rfl, hB1⟩
        go_wp2_with fail
        go_ret2
        exact ⟨rfl, HB0.out.trans (hB1.mono (by simp))⟩
    · obtain rfl : Value.tuple #[.int .i64 (max (min a b) (min (max a b) u)), .int .i64 0] = v := by rw [← hv.out, if_neg (by simp [HQ.out]), awardV, if_neg hn]
      have hn2 : (a ≤ b ∧ b / 10 < b - a) ∨ (b < a ∧ a / 10 < a - b) := by omega
      obtain ⟨x, z, hs3⟩ := sorted3 a b u
      have HS3 := Lib.hid hs3
      obtain ⟨m, hm⟩ : ∃ m, max (min a b) (min (max a b) u) = m := ⟨_, rfl⟩
      rw [hm] at HS3 ⊢
      clear hn hs3 hm
      rcases hn2 with ⟨hab, hn⟩ | ⟨hab, hn⟩
      all_goals
        go_enter Try.func31, Try.ntmps31
        go_wp2_with fail
        refine (in_sl 0 1000000 [a, b, u] true _ _ (by simp [maxLen]) HQ.out HS.out).mono ?_
        rintro e w1 ⟨rfl, hB1⟩
        have hsz := hB1.size
        have hH : Holds (Value.int .i64) w1 w.heap.size 0 [a, b, u].toArray := by
          have hc := HC.out
          have k0 := keepsB hB1 hc.1
          have k1 := keepsB hB1 hc.2.1
          have k2 := keepsB hB1 hc.2.2.1
          have kf : ∀ k, w1.frozen? ⟨w.heap.size, k, none⟩ = false := fun k => (hB1.frozen (p := ⟨w.heap.size, k, none⟩) hc.2.2.2.2).trans (hc.2.2.2.1 k)
          intro j hj
          match j, hj with
          | 0, _ => exact ⟨k0, kf _⟩
          | 1, _ => exact ⟨k1, kf _⟩
          | 2, _ => exact ⟨k2, kf _⟩
        have hlt1 : w.heap.size < w1.heap.size := Nat.lt_of_lt_of_le HC.out.2.2.2.2 hsz
        have HB1 := Lib.hid (HB0.out.trans (hB1.mono (by simp)))
        have HH := Lib.hid hH
        clear hB1 hH
        go_wp2_with fail
        refine (Try.slices_Sort_int w.heap.size 0 3 [a, b, u] w1 HH.out hlt1 (by simp)).mono ?_
        rintro e w2 ⟨rfl, nn, os, hw2⟩
        rw [HS3.out] at hw2
        have c1 : w2.cell? ⟨w.heap.size, 1, none⟩ = some (.int .i64 m) := by
          rw [hw2, cell?_grow _ _ _ (by simpa [putRow, mapBlock, Sort.ahead] using hlt1)]
          have := cell?_putRow (Value.int .i64) (Sort.ahead w1 nn) w.heap.size 0 [a, b, u].toArray [x, m, z].toArray (holds_ahead _ _ _ _ _ _ HH.out) rfl 1 (by simp)
          simpa using this
        have HB2 : Hid (Below w.heap.size w w2) := by
          refine HB1.out.trans ?_
          rw [hw2]
          exact ⟨rfl, rfl, rfl, by simp [grow, putRow, mapBlock, Sort.ahead], fun k hk => by
            rw [heap_grow_old _ _ (by simp [putRow, mapBlock, Sort.ahead]; omega)]
            simp [putRow, mapBlock, Sort.ahead, Array.getElem?_modify, show ¬ w.heap.size = k by omega]⟩
        clear hw2
        go_wp2_with fail
        go_ret2
        exact ⟨rfl, HB2.out⟩
theorem award_any (a b u : Int) (w : World) :
    Calls Try.prog 31 #[.int .i64 a, .int .i64 b, .int .i64 u] w fun e w' => e = .returned (.tuple (if awardB a b u = false then #[.int .i64 0, .int .i64 2] else #[.int .i64 (awardV a b u), .int .i64 0])) ∧ Below w.heap.size w w' := award_v a b u w _ rfl
end Go.Proofs.Ytfdbegohjlijoaa

/- Structs of any sizes that a region makes and stores once, in whatever order: any number of them. -/
namespace Go.Proofs.Ytfdbegohjlijoaa
set_option linter.unusedSimpArgs false
set_option linter.unusedVariables false
open Go.RowKit Go.Proofs.Ytfdbegohjlijoaa.Free2

/-- Operation i makes a block, operation j stores it. -/
structure LocE where
  i : Nat
  j : Nat
  o0 : Obj
  o1 : Obj
structure LL (s0 : Nat) (L : List LocE) (X : XT) (w : World) : Prop where
  size : s0 ≤ w.heap.size
  first : ∀ e ∈ L, X e.i = none → X e.j = none
  blk : ∀ e ∈ L, ∀ v, X e.i = some v → ∃ b, v = ptr b ∧ s0 ≤ b ∧ (X e.j = none → w.heap[b]? = some e.o0) ∧ (X e.j ≠ none → w.heap[b]? = some e.o1)
  ne : ∀ e ∈ L, ∀ f ∈ L, e.i ≠ f.i → ∀ v, X e.i = some v → X f.i ≠ some v
section
variable {s0 : Nat} {L : List LocE} {X : XT} {w w' : World}
theorem LL.start (hs : s0 ≤ w.heap.size) : LL s0 L (fun _ => none) w := ⟨hs, fun _ _ _ => rfl, fun e _ v h => (by cases h), fun e _ f _ _ v h => (by cases h)⟩
theorem LL.skip (h : LL s0 L X w) (n : Nat) (v : Value) (hn : ∀ e ∈ L, n ≠ e.i ∧ n ≠ e.j) : LL s0 L (upd X n v) w :=
  ⟨h.size, fun e he => by rw [upd_other _ _ (hn e he).1.symm, upd_other _ _ (hn e he).2.symm]; exact h.first e he,
   fun e he => by rw [upd_other _ _ (hn e he).1.symm, upd_other _ _ (hn e he).2.symm]; exact h.blk e he,
   fun e he f hf => by rw [upd_other _ _ (hn e he).1.symm, upd_other _ _ (hn f hf).1.symm]; exact h.ne e he f hf⟩
theorem LL.bel (h : LL s0 L X w) (hB : Below w.heap.size w w') : LL s0 L X w' :=
  ⟨Nat.le_trans h.size hB.size, h.first, fun e he v hv => by
    obtain ⟨b, rfl, h1, h3, h4⟩ := h.blk e he v hv
    exact ⟨b, rfl, h1, fun hj => (hB.block b (lt_of_heap (h3 hj))).trans (h3 hj), fun hj => (hB.block b (lt_of_heap (h4 hj))).trans (h4 hj)⟩, h.ne⟩
theorem LL.new (h : LL s0 L X w) (e : LocE) (he : e ∈ L) (hd : ∀ f ∈ L, e.i ≠ f.j ∧ (e.i = f.i → e = f)) (hi : X e.i = none) : LL s0 L (upd X e.i (ptr w.heap.size)) (w.alloc e.o0) := by
  refine ⟨by have := h.size; simp; omega, fun f hf h0 => ?_, fun f hf v hv => ?_, fun f hf g hg hne v hv => ?_⟩
  · rw [upd_other _ _ (hd f hf).1.symm]
    by_cases hq : e.i = f.i
    · have := (hd f hf).2 hq; subst this; exact h.first e he hi
    · rw [upd_other _ _ (Ne.symm hq)] at h0; exact h.first f hf h0
  · rw [upd_other _ _ (hd f hf).1.symm]
    by_cases hq : e.i = f.i
    · have := (hd f hf).2 hq; subst this
      rw [upd_same] at hv
      cases hv
      exact ⟨_, rfl, h.size, fun _ => World.alloc_heap_new w e.o0, fun hj => absurd (h.first e he hi) hj⟩
    · rw [upd_other _ _ (Ne.symm hq)] at hv
      obtain ⟨b, rfl, h1, h3, h4⟩ := h.blk f hf v hv
      exact ⟨b, rfl, h1, fun hj => (Below.heap_alloc _ _ _ (lt_of_heap (h3 hj))).trans (h3 hj), fun hj => (Below.heap_alloc _ _ _ (lt_of_heap (h4 hj))).trans (h4 hj)⟩
  · have hlt : ∀ f ∈ L, ∀ b, X f.i = some (ptr b) → b < w.heap.size := fun f hf b hb => by
      obtain ⟨b', hbb, _, h3, h4⟩ := h.blk f hf _ hb
      cases hbb
      by_cases hx : X f.j = none
      · exact lt_of_heap (h3 hx)
      · exact lt_of_heap (h4 hx)
    by_cases hq : e.i = f.i
    · rw [← hq, upd_same] at hv
      cases hv
      rw [upd_other _ _ (fun h => hne (hq ▸ h.symm))]
      intro hg2
      have := hlt g hg _ hg2
      omega
    · rw [upd_other _ _ (Ne.symm hq)] at hv
      by_cases hq2 : e.i = g.i
      · rw [← hq2, upd_same]
        intro h2
        cases h2
        have := hlt f hf _ hv
        omega
      · rw [upd_other _ _ (Ne.symm hq2)]
        exact h.ne f hf g hg hne v hv
/-- What is found where it is stored. -/
theorem LL.at_ (h : LL s0 L X w) (e : LocE) (he : e ∈ L) {v : Value} (hv : X e.i = some v) (hj : X e.j = none) : ∃ b, v = ptr b ∧ s0 ≤ b ∧ w.heap[b]? = some e.o0 := by
  obtain ⟨b, rfl, h1, h3, h4⟩ := h.blk e he v hv
  exact ⟨b, rfl, h1, h3 hj⟩
theorem LL.stored (h : LL s0 L X w) (e : LocE) (he : e ∈ L) (hd : ∀ f ∈ L, e.j ≠ f.i ∧ (e.j = f.j → e = f) ∧ (e.i = f.i → e = f)) {b : Nat} (hv : X e.i = some (ptr b)) (hb : w'.heap[b]? = some e.o1) (ho : ∀ k, k ≠ b → w'.heap[k]? = w.heap[k]?) (hs : w.heap.size ≤ w'.heap.size) (u : Value) : LL s0 L (upd X e.j u) w' := by
  refine ⟨Nat.le_trans h.size hs, fun f hf h0 => ?_, fun f hf v hv' => ?_, fun f hf g hg hne v => ?_⟩
  · rw [upd_other _ _ (hd f hf).1.symm] at h0
    by_cases hq : e.j = f.j
    · have := (hd f hf).2.1 hq; subst this; rw [hv] at h0; cases h0
    · rw [upd_other _ _ (Ne.symm hq)]; exact h.first f hf h0
  · rw [upd_other _ _ (hd f hf).1.symm] at hv'
    by_cases hq : e.j = f.j
    · have := (hd f hf).2.1 hq; subst this
      rw [hv] at hv'
      cases hv'
      rw [upd_same]
      obtain ⟨b', hbb, h1, _⟩ := h.blk e he _ hv
      cases hbb
      exact ⟨b, rfl, h1, (fun h => by cases h), fun _ => hb⟩
    · rw [upd_other _ _ (Ne.symm hq)]
      obtain ⟨b', rfl, h1, h3, h4⟩ := h.blk f hf v hv'
      have hn : b' ≠ b := by
        rintro rfl
        by_cases hq2 : e.i = f.i
        · have := (hd f hf).2.2 hq2; subst this; exact hq rfl
        · exact h.ne e he f hf hq2 _ hv hv'
      exact ⟨b', rfl, h1, fun hj => (ho b' hn).trans (h3 hj), fun hj => (ho b' hn).trans (h4 hj)⟩
  · rw [upd_other _ _ (hd f hf).1.symm, upd_other _ _ (hd g hg).1.symm]
    exact h.ne f hf g hg hne v
theorem LL.done (h : LL s0 L X w) (e : LocE) (he : e ∈ L) {v u : Value} (hv : X e.i = some v) (hu : X e.j = some u) : ∃ b, v = ptr b ∧ s0 ≤ b ∧ w.heap[b]? = some e.o1 := by
  obtain ⟨b, rfl, h1, h3, h4⟩ := h.blk e he v hv
  exact ⟨b, rfl, h1, h4 (by simp [hu])⟩
theorem below_setNew {b o : Nat} {v : Value} (hs : s0 ≤ b) : Below s0 w (w.setCell ⟨b, o, none⟩ v) := (Below.refl s0 w).setCell (p := ⟨b, o, none⟩) hs v
theorem heap_setCell_other {b o k : Nat} {v : Value} (hk : k ≠ b) : (w.setCell ⟨b, o, none⟩ v).heap[k]? = w.heap[k]? := by
  show (w.heap.modify b _)[k]? = _
  rw [Array.getElem?_modify, if_neg (Ne.symm hk)]
/-- Stores into a block one behind the other. -/
def putsW (b : Nat) : List (Nat × Value) → World → World
  | [], w => w
  | x :: r, w => putsW b r (w.setCell ⟨b, x.1, none⟩ x.2)
theorem putsW_other {b k : Nat} (hk : k ≠ b) : ∀ (l : List (Nat × Value)) (w : World), (putsW b l w).heap[k]? = w.heap[k]?
  | [], _ => rfl
  | x :: r, w => (putsW_other hk r _).trans (heap_setCell_other hk)
theorem putsW_below {b : Nat} (hs : s0 ≤ b) : ∀ (l : List (Nat × Value)) (w : World), Below s0 w (putsW b l w)
  | [], _ => Below.refl _ _
  | x :: r, w => (below_setNew hs).trans (putsW_below hs r _)
theorem putsW_same {b : Nat} {t : TypeId} {f : Nat × Nat} : ∀ (l : List (Nat × Value)) (w : World) (c : Array Value), w.heap[b]? = some (.cells c t f) → (putsW b l w).heap[b]? = some (.cells (l.foldl (fun c x => c.setIfInBounds x.1 x.2) c) t f)
  | [], _, _, h => h
  | x :: r, w, c, h => putsW_same r _ _ (heap_setCell_same x.2 h)
/-- One struct is stored: all at once. -/
theorem LL.puts (h : LL s0 L X w) (e : LocE) (he : e ∈ L) (hd : ∀ f ∈ L, e.j ≠ f.i ∧ (e.j = f.j → e = f) ∧ (e.i = f.i → e = f)) {b : Nat} {c : Array Value} {t : TypeId} (hv : X e.i = some (ptr b)) (hs : s0 ≤ b) (hb : w.heap[b]? = some (.cells c t (0, 0))) (l : List (Nat × Value)) (ho : e.o1 = .cells (l.foldl (fun c x => c.setIfInBounds x.1 x.2) c) t (0, 0)) (u : Value) :
    Below s0 w (putsW b l w) ∧ LL s0 L (upd X e.j u) (putsW b l w) :=
  ⟨putsW_below hs l w, h.stored e he hd hv (by rw [ho]; exact putsW_same l w c hb) (fun k hk => putsW_other hk l w) (putsW_below hs l w).size u⟩
end
end Go.Proofs.Ytfdbegohjlijoaa

/- From a walk to a law's statement: what the arguments read as, before and behind the call. No function of the program here. -/
namespace Go.Proofs.Ytfdbegohjlijoaa.Law
open Go Go.ChangeShapes Go.WideShapes Go.ChangeAt Go.RowKit

section
variable {H : Type} {enc : TypeId × Value → H} {P : Program} {W W' : World}
theorem trodAll_below (hl : laidOutB P = true) (hb : Below W.heap.size W W') : ∀ (ts : List TypeId) (vs : List Value) (ds : List (DataW H)) (ps : List MemPlace),
    (∀ t ∈ ts, P.readableRec t = true ∧ t < P.types.size) → DataW.TrodAll enc P W 0 (fun _ => true) true ts vs ds ps → (∀ x ∈ ps, x.block < W.heap.size) →
    DataW.TrodAll enc P W' 0 (fun b => decide (b < W.heap.size)) true ts vs ds ps
  | [], vs, ds, ps, _, h, _ => by
    obtain ⟨rfl, rfl, rfl⟩ := trodAll_nil h
    exact trodAll_mk0
  | t :: ts, vs, ds, ps, hr, h, hlt => by
    obtain ⟨v0, vs0, d0, ds0, p0, q0, rfl, rfl, rfl, h0, r0⟩ := trodAll_cons h
    have ht := hr t (by simp)
    exact trodAll_cons_mk (Below.trod hl ht.1 ht.2 h0 hb fun x hx => hlt x (by simp [hx]))
      (trodAll_below hl hb ts vs0 ds0 q0 (fun t ht => hr t (by simp [ht])) r0 fun x hx => hlt x (by simp [hx]))

variable {base : Nat} {spare : Nat → Bool} {held : Bool}
/-- A struct of two numbers. -/
theorem shape2 {r : Reach} {b0 : Nat} {t : TypeId} {f0 f1 : Field} {q0 q1 : IntKind} {v : Value} {d : DataW H} {p : List MemPlace} (hs : P.underlying t = some (.struct #[f0, f1])) (hone : Deep.oneCellFields P #[f0, f1] = true) (hC : P.cellsOf t = 2)
    (k0 : P.underlying f0.type = some (.int q0)) (k1 : P.underlying f1.type = some (.int q1)) (hv : Value.okWide P W r b0 t v) (h : DataW.Trod enc P W base spare held t v d p) :
    ∃ a b : Int, v = .agg #[.int q0 a, .int q1 b] := by
  obtain ⟨v0, v1, y0, y1, n, rfl, _, _, h0, h1⟩ := Joins.open_agg2 hs hone hC hv h
  obtain ⟨a, e0, _, _⟩ := DataW.trod_int k0 h0
  obtain ⟨b, e1, _, _⟩ := DataW.trod_int k1 h1
  simp at e0 e1
  exact ⟨a, b, by rw [e0, e1]⟩
/-- A struct of a number and of a struct of two numbers. -/
theorem shape12 {r : Reach} {b0 : Nat} {t : TypeId} {f0 f1 g0 g1 : Field} {q0 q1 q2 : IntKind} {v : Value} {d : DataW H} {p : List MemPlace} (hs : P.underlying t = some (.struct #[f0, f1])) (hC : P.cellsOf t = 3)
    (k0 : P.underlying f0.type = some (.int q0)) (o0 : f0.offset = 0) (c0 : P.cellsOf f0.type = 1) (o1 : f1.offset = 1) (c1 : P.cellsOf f1.type = 2)
    (hs1 : P.underlying f1.type = some (.struct #[g0, g1])) (k1 : P.underlying g0.type = some (.int q1)) (k2 : P.underlying g1.type = some (.int q2)) (p0 : g0.offset = 0) (p1 : g1.offset = 1) (e0 : P.cellsOf g0.type = 1) (e1 : P.cellsOf g1.type = 1)
    (hv : Value.okWide P W r b0 t v) (h : DataW.Trod enc P W base spare held t v d p) : ∃ a b c : Int, v = .agg #[.int q0 a, .int q1 b, .int q2 c] := by
  obtain ⟨cs, rfl, hsz⟩ := okWide_struct hs hv
  obtain ⟨x0, x1, x2, rfl⟩ := Joins.array3 (hsz.trans hC)
  obtain ⟨fuel, hf⟩ := h
  obtain ⟨y0, y1, n, _, _, h0, h1⟩ := trod_struct2 hs hf
  rw [o0, c0] at h0
  rw [o1, c1] at h1
  simp [Value.cells] at h0 h1
  obtain ⟨a, ea, _, _⟩ := DataW.trod_int k0 h0
  obtain ⟨z0, z1, m, _, _, h2, h3⟩ := trod_struct2 hs1 h1
  rw [p0, e0] at h2
  rw [p1, e1] at h3
  simp at h2 h3
  obtain ⟨b, eb, _, _⟩ := DataW.trod_int k1 h2
  obtain ⟨c, ec, _, _⟩ := DataW.trod_int k2 h3
  simp at ea eb ec
  exact ⟨a, b, c, by rw [ea, eb, ec]⟩

/-- A struct of five numbers. -/
theorem shape5 {r : Reach} {b0 : Nat} {t : TypeId} {f0 f1 f2 f3 f4 : Field} {q0 q1 q2 q3 q4 : IntKind} {v : Value} {d : DataW H} {p : List MemPlace} (hs : P.underlying t = some (.struct #[f0, f1, f2, f3, f4])) (hone : Deep.oneCellFields P #[f0, f1, f2, f3, f4] = true) (hC : P.cellsOf t = 5)
    (k0 : P.underlying f0.type = some (.int q0)) (k1 : P.underlying f1.type = some (.int q1)) (k2 : P.underlying f2.type = some (.int q2)) (k3 : P.underlying f3.type = some (.int q3)) (k4 : P.underlying f4.type = some (.int q4))
    (hv : Value.okWide P W r b0 t v) (h : DataW.Trod enc P W base spare held t v d p) : ∃ a b c e f : Int, v = .agg #[.int q0 a, .int q1 b, .int q2 c, .int q3 e, .int q4 f] := by
  obtain ⟨cs, rfl, hsz⟩ := okWide_struct hs hv
  obtain ⟨l⟩ := cs
  match l, hsz.trans hC with
  | [c0, c1, c2, c3, c4], _ =>
    obtain ⟨fuel, hf⟩ := h
    obtain ⟨xs, n, _, hx, _, hlen, hg⟩ := DataW.trod_struct hs hf
    obtain ⟨o0, j0⟩ := Deep.hone_of hone 0 f0 rfl
    obtain ⟨o1, j1⟩ := Deep.hone_of hone 1 f1 rfl
    obtain ⟨o2, j2⟩ := Deep.hone_of hone 2 f2 rfl
    obtain ⟨o3, j3⟩ := Deep.hone_of hone 3 f3 rfl
    obtain ⟨o4, j4⟩ := Deep.hone_of hone 4 f4 rfl
    match xs, hlen with
    | [y0, y1, y2, y3, y4], _ =>
      have h0 : DataW.trod enc P W base spare held n f0.type [c0] = some y0 := by simpa [Value.cells, o0, j0] using hg 0 f0 rfl
      have h1 : DataW.trod enc P W base spare held n f1.type [c1] = some y1 := by simpa [Value.cells, o1, j1] using hg 1 f1 rfl
      have h2 : DataW.trod enc P W base spare held n f2.type [c2] = some y2 := by simpa [Value.cells, o2, j2] using hg 2 f2 rfl
      have h3 : DataW.trod enc P W base spare held n f3.type [c3] = some y3 := by simpa [Value.cells, o3, j3] using hg 3 f3 rfl
      have h4 : DataW.trod enc P W base spare held n f4.type [c4] = some y4 := by simpa [Value.cells, o4, j4] using hg 4 f4 rfl
      obtain ⟨a, ea, _, _⟩ := DataW.trod_int k0 h0
      obtain ⟨b, eb, _, _⟩ := DataW.trod_int k1 h1
      obtain ⟨c, ec, _, _⟩ := DataW.trod_int k2 h2
      obtain ⟨e, ee, _, _⟩ := DataW.trod_int k3 h3
      obtain ⟨f, ef, _, _⟩ := DataW.trod_int k4 h4
      simp at ea eb ec ee ef
      exact ⟨a, b, c, e, f, by rw [ea, eb, ec, ee, ef]⟩
theorem args_below {ts : List TypeId} {vs : List Value} {ds : List (DataW H)} {ps : List MemPlace} (hl : laidOutB P = true) (hr : (ts.all fun t => P.readableRec t && decide (t < P.types.size)) = true) (hb : Below W.heap.size W W')
    (h : DataW.TrodAll enc P W 0 (fun _ => true) true ts vs ds ps) (hlt : ∀ x ∈ ps, x.block < W.heap.size) : DataW.TrodAll enc P W' 0 (fun b => decide (b < W.heap.size)) true ts vs ds ps :=
  trodAll_below hl hb ts vs ds ps (fun t ht => by simpa using List.all_eq_true.1 hr t ht) h hlt
end
end Go.Proofs.Ytfdbegohjlijoaa.Law

/- An argument that is a list of terms. -/
namespace Go.Proofs.Ytfdbegohjlijoaa.Law
open Go Go.ChangeShapes Go.WideShapes Go.ChangeAt Go.RowKit
set_option linter.unusedVariables false
set_option linter.unusedSimpArgs false

set_option maxRecDepth 100000 in
theorem terms_open2 {H : Type} {enc : TypeId × Value → H} {W : World} {r : Reach} {b0 : Nat} {sp : Nat → Bool} {held : Bool} {t e : TypeId} {f0 f1 : Field} {v : Value} {d : DataW H} {p : List MemPlace}
    (ht : Try.prog.underlying t = some (.slice e)) (he : Try.prog.underlying e = some (.struct #[f0, f1])) (ce : Try.prog.cellsOf e = 2) (o0 : f0.offset = 0) (o1 : f1.offset = 1) (c0 : Try.prog.cellsOf f0.type = 1) (c1 : Try.prog.cellsOf f1.type = 1)
    (k0 : Try.prog.underlying f0.type = some (.int .i64)) (k1 : Try.prog.underlying f1.type = some (.int .i64))
    (hval : Value.okWide Try.prog W r b0 t v) (h : DataW.Trod enc Try.prog W 0 sp held t v d p) : ∃ (ts : List (Int × Int)) (pp : Option Addr) (cap : Nat), v = .slice pp ts.length cap ∧ PL ts v W ∧ (pp = none → ts = [] ∧ cap = 0) := by
  obtain ⟨a, len, cap, rfl⟩ := okWide_slice ht hval
  obtain ⟨fuel, hf⟩ := h
  rcases Deep.open_slice_pairs ht he ce o0 o1 c0 c1 hf with ⟨h0, _⟩ | ⟨a', len', cap', m, n, V0, V1, D0, D1, P0, P1, h0, _, hlc, hcm, hm, _, hx⟩
  · simp [Value.cells] at h0
    obtain ⟨rfl, rfl, rfl⟩ := h0
    exact ⟨[], none, 0, rfl, PL.nil W, fun _ => ⟨rfl, rfl⟩⟩
  · simp [Value.cells] at h0
    obtain ⟨rfl, rfl, rfl⟩ := h0
    have hlm : len ≤ m := by rw [hm]; split <;> omega
    have each : ∀ i, i < len → ∃ q : Int × Int, W.cell? (a'.add (i * 2)) = some (.int .i64 q.1) ∧ W.cell? (a'.add (i * 2 + 1)) = some (.int .i64 q.2) := by
      intro i hi
      obtain ⟨x0, x1, x2, x3⟩ := hx i (by omega)
      obtain ⟨y, e0, _, _⟩ := DataW.trod_int k0 x2
      obtain ⟨z, e1, _, _⟩ := DataW.trod_int k1 x3
      simp at e0 e1
      rw [e0] at x0
      rw [e1] at x1
      exact ⟨(y, z), x0, x1⟩
    obtain ⟨q, hq⟩ := Deep.choose_lt each
    refine ⟨(List.range len).map q, some a', cap, by simp, ⟨some a', cap, by simp, by simp; unfold maxLen at *; omega, fun hne => ?_⟩, fun h => by cases h⟩
    have hl : 0 < len := by
      rcases Nat.eq_zero_or_pos len with h | h
      · subst h; simp at hne
      · exact h
    obtain ⟨b, off, spot⟩ := a'
    have hs : spot = none := by simpa [Addr.add] using World.cell?_spot (hq 0 hl).1
    subst hs
    refine ⟨b, off, rfl, fun k hk => ?_⟩
    have hk2 : k < len := by simpa using hk
    have h3 := hq k hk2
    simp only [List.getElem_map, List.getElem_range]
    have g0 : (⟨b, off, none⟩ : Addr).add (k * 2) = ⟨b, off + k * 2, none⟩ := by
      unfold Addr.add; split
      · rename_i h; simp [h]
      · rfl
    have g1 : (⟨b, off, none⟩ : Addr).add (k * 2 + 1) = ⟨b, off + k * 2 + 1, none⟩ := by
      unfold Addr.add; rw [if_neg (by omega)]; rfl
    rw [g0, g1] at h3
    exact h3
set_option maxRecDepth 100000 in
theorem terms_open {H : Type} {enc : TypeId × Value → H} {W : World} {r : Reach} {b0 : Nat} {sp : Nat → Bool} {held : Bool} {t e : TypeId} {f0 f1 : Field} {v : Value} {d : DataW H} {p : List MemPlace}
    (ht : Try.prog.underlying t = some (.slice e)) (he : Try.prog.underlying e = some (.struct #[f0, f1])) (ce : Try.prog.cellsOf e = 2) (o0 : f0.offset = 0) (o1 : f1.offset = 1) (c0 : Try.prog.cellsOf f0.type = 1) (c1 : Try.prog.cellsOf f1.type = 1)
    (k0 : Try.prog.underlying f0.type = some (.int .i64)) (k1 : Try.prog.underlying f1.type = some (.int .i64))
    (hval : Value.okWide Try.prog W r b0 t v) (h : DataW.Trod enc Try.prog W 0 sp held t v d p) : ∃ (ts : List (Int × Int)) (pp : Option Addr) (cap : Nat), v = .slice pp ts.length cap ∧ PL ts v W := by
  obtain ⟨ts, pp, cap, h1, h2, _⟩ := terms_open2 ht he ce o0 o1 c0 c1 k0 k1 hval h
  exact ⟨ts, pp, cap, h1, h2⟩
end Go.Proofs.Ytfdbegohjlijoaa.Law

