/- The program's Drop. -/
import Derived.Test.YtknpglgpkkhhiaaDoorB4
import Derived.IntWalk
import Derived.Test.YtknpglgpkkhhiaaDoorCards
import Derived.Test.YtknpglgpkkhhiaaDoorTie
import Derived.ProofKit
import Derived.LaidMore
import Derived.Stop.Joined
import Derived.Laws.IdiomArrays
import Derived.Lib.SmallJoins
import Derived.Deep.DeepHandedRow
namespace Go.Proofs.YtknpglgpkkhhiaaDoor
set_option linter.unusedSimpArgs false
set_option linter.unusedVariables false
open Go.RowKit Go.Proofs.YtknpglgpkkhhiaaDoor.Free2

theorem row_set {base b o n size : Nat} {e : TypeId} {v x : Value} {xs : List Value} {w : World} (h : w.ownsRow base e size v n xs) (hb : b < base) : (w.setCell ⟨b, o, none⟩ x).ownsRow base e size v n xs :=
  row_block h fun k hk hl => heap_setCell_other (by
    intro e
    subst e
    exact off_base h hb hk)

set_option maxRecDepth 100000 in
set_option maxHeartbeats 16000000 in
theorem dropP_v (h id : Int) (xs : List Rk) (u : Value) (w : World) (hT : TabR w) (hu : RL xs u w) (hz : NZ u) (hn : xs.length ≤ 1000) (r : Int) (hr : Hid (RickIs xs id r)) (E Hh : Int) (hE : Hid (dropE h xs r = E)) (hHh : Hid (dropH h xs r = Hh)) :
    Calls Tryd.prog 45 #[.agg #[.int .i64 h, u], .int .i64 id] w fun e w' => (∃ v, e = .returned (.tuple #[.agg #[.int .i64 Hh, v], .int .i64 E]) ∧ w'.ownsRow w.heap.size 47 3 v (dropL h xs r).length (cellsR (dropL h xs r))) ∧ Below w.heap.size w w' := by
  have HU := Lib.hid hu
  obtain ⟨p, cp, rfl, hm, _⟩ := hu
  have HNZ := Lib.hid hz
  have HTAB := Lib.hid hT
  have HN := Lib.hid hn
  clear hz hT hm hn
  have KB : Free.Bel w ((w.alloc (.cells #[.int .i64 h, .slice p xs.length cp] 24)).alloc (.cells #[.int .i64 0, .slice none 0 0] 24)) := Bel.allocT (Bel.allocT (Free.Bel.refl _) _) _
  have m0 : ((w.alloc (.cells #[.int .i64 h, .slice p xs.length cp] 24)).alloc (.cells #[.int .i64 0, .slice none 0 0] 24)).heap[w.heap.size]? = some (.cells #[.int .i64 h, .slice p xs.length cp] 24 (0, 0)) := heap_old (World.alloc_heap_new w _)
  have m1 : ((w.alloc (.cells #[.int .i64 h, .slice p xs.length cp] 24)).alloc (.cells #[.int .i64 0, .slice none 0 0] 24)).heap[w.heap.size + 1]? = some (.cells #[.int .i64 0, .slice none 0 0] 24 (0, 0)) := by
    have := World.alloc_heap_new (w.alloc (.cells #[.int .i64 h, .slice p xs.length cp] 24)) (.cells #[.int .i64 0, .slice none 0 0] 24)
    simpa using this
  have FA : ∀ W, Free.Bel ((w.alloc (.cells #[.int .i64 h, .slice p xs.length cp] 24)).alloc (.cells #[.int .i64 0, .slice none 0 0] 24)) W → W.cell? ⟨w.heap.size, 0, none⟩ = some (.int .i64 h) ∧ W.cell? ⟨w.heap.size, 1, none⟩ = some (.slice p xs.length cp) ∧ W.cell? ⟨w.heap.size + 1, 0, none⟩ = some (.int .i64 0) ∧ W.cell? ⟨w.heap.size + 1, 1, none⟩ = some (.slice none 0 0) ∧ W.frozen? ⟨w.heap.size + 1, 0, none⟩ = false ∧ W.frozen? ⟨w.heap.size + 1, 1, none⟩ = false ∧ W.frozen? ⟨w.heap.size, 1, none⟩ = false := fun W hW => ⟨keepsB hW (cell_of_heap m0 rfl), keepsB hW (cell_of_heap m0 rfl), keepsB hW (cell_of_heap m1 rfl), keepsB hW (cell_of_heap m1 rfl), frozB hW (cell_of_heap (o := 0) m1 rfl) (frozen_of_heap m1), frozB hW (cell_of_heap (o := 1) m1 rfl) (frozen_of_heap m1), frozB hW (cell_of_heap (o := 1) m0 rfl) (frozen_of_heap m0)⟩
  have HRZ : Hid (∀ W, Free.Bel ((w.alloc (.cells #[.int .i64 h, .slice p xs.length cp] 24)).alloc (.cells #[.int .i64 0, .slice none 0 0] 24)) W → W.heap[w.heap.size]? = some (.cells #[.int .i64 h, .slice p xs.length cp] 24 (0, 0)) ∧ W.heap[w.heap.size + 1]? = some (.cells #[.int .i64 0, .slice none 0 0] 24 (0, 0))) := fun W hW => ⟨(hW.block _ (lt_of_heap m0)).trans m0, (hW.block _ (lt_of_heap m1)).trans m1⟩
  have KE : Free.Bel ((w.alloc (.cells #[.int .i64 h, .slice p xs.length cp] 24)).alloc (.cells #[.int .i64 0, .slice none 0 0] 24)) ((w.alloc (.cells #[.int .i64 h, .slice p xs.length cp] 24)).alloc (.cells #[.int .i64 0, .slice none 0 0] 24)) := Free.Bel.refl _
  clear m0 m1
  cases hw : watchB h xs
  · have HC := Lib.hid (checkP_v h xs _ ((w.alloc (.cells #[.int .i64 h, .slice p xs.length cp] 24)).alloc (.cells #[.int .i64 0, .slice none 0 0] 24)) (HTAB.out.bel KB) (HU.out.keeps KB) 70 (by show _ = _; simp [hw]))
    have hE1 : dropE h xs r = 70 := by simp [dropE, hw]
    obtain rfl : E = 70 := hE.out.symm.trans hE1
    obtain rfl : Hh = 0 := hHh.out.symm.trans (by rw [dropH, hE1]; rfl)
    have HL : Hid (dropL h xs r = []) := by show _ = _; rw [dropL, hE1]; rfl
    clear hw hE1
    go_enter Tryd.func45, Tryd.ntmps45
    go_wp2_with fail
    refine HC.out.mono ?_
    rintro e w1 ⟨rfl, hB1⟩
    have K1 : Free.Bel ((w.alloc (.cells #[.int .i64 h, .slice p xs.length cp] 24)).alloc (.cells #[.int .i64 0, .slice none 0 0] 24)) w1 := hB1
    clear hB1 KE
    go_wp2_with fail
    have hrz := (HRZ.out _ K1).2
    have hst := two_stores (.int .i64 0) (.slice none 0 0) (cell_of_heap (o := 0) hrz rfl) (cell_of_heap (o := 1) hrz rfl)
    exact bodyPost_ret (v := .tuple #[.agg #[.int .i64 0, .slice none 0 0], .int .i64 70]) (by simp [results, Tryd.results45, go_sem, hst]) rfl ⟨⟨_, rfl, by rw [HL.out]; simpa [cellsR] using World.ownsRow_nil _ _ _ _⟩, ((bt KB K1).setCell (by simp) _).setCell (by simp) _⟩
  · have HC := Lib.hid (checkP_v h xs _ ((w.alloc (.cells #[.int .i64 h, .slice p xs.length cp] 24)).alloc (.cells #[.int .i64 0, .slice none 0 0] 24)) (HTAB.out.bel KB) (HU.out.keeps KB) 0 (by show _ = _; simp [hw]))
    have HW := Lib.hid hw
    clear hw
    go_enter Tryd.func45, Tryd.ntmps45
    go_wp2_with fail
    refine HC.out.mono ?_
    rintro e w1 ⟨rfl, hB1⟩
    have K1 : Free.Bel ((w.alloc (.cells #[.int .i64 h, .slice p xs.length cp] 24)).alloc (.cells #[.int .i64 0, .slice none 0 0] 24)) w1 := hB1
    clear hB1 KE
    go_wp2_with fail
    refine (indexP_v h id xs _ w1 (HU.out.keeps (bt KB K1)) r hr).mono ?_
    rintro e w2 ⟨rfl, hB2⟩
    have K2 : Free.Bel ((w.alloc (.cells #[.int .i64 h, .slice p xs.length cp] 24)).alloc (.cells #[.int .i64 0, .slice none 0 0] 24)) w2 := bt K1 hB2
    clear hB2 K1
    by_cases h0 : r < 0
    · have g0 : decide (r < 0) = true := decide_eq_true h0
      have hE1 : dropE h xs r = 6 := by rw [dropE, if_neg (by rw [HW.out]; simp), if_pos h0]
      obtain rfl : E = 6 := hE.out.symm.trans hE1
      obtain rfl : Hh = 0 := hHh.out.symm.trans (by rw [dropH, hE1]; rfl)
      have HL : Hid (dropL h xs r = []) := by show _ = _; rw [dropL, hE1]; rfl
      clear hE1
      go_wp2_with fail
      have hrz := (HRZ.out _ K2).2
      have hst := two_stores (.int .i64 0) (.slice none 0 0) (cell_of_heap (o := 0) hrz rfl) (cell_of_heap (o := 1) hrz rfl)
      exact bodyPost_ret (v := .tuple #[.agg #[.int .i64 0, .slice none 0 0], .int .i64 6]) (by simp [results, Tryd.results45, go_sem, hst]) rfl ⟨⟨_, rfl, by rw [HL.out]; simpa [cellsR] using World.ownsRow_nil _ _ _ _⟩, ((bt KB K2).setCell (by simp) _).setCell (by simp) _⟩
    · obtain ⟨k, hk, hrk⟩ : ∃ k : Nat, k < xs.length ∧ r = k := by
        rcases hr.out with ⟨h9, _⟩ | ⟨k, h9, h8, _⟩
        · omega
        · exact ⟨k, h9, h8⟩
      subst hrk
      have g0 : decide ((k : Int) < 0) = false := decide_eq_false h0
      have hE1 : dropE h xs (k : Int) = 0 := by rw [dropE, if_neg (by rw [HW.out]; simp), if_neg h0]
      obtain rfl : E = 0 := hE.out.symm.trans hE1
      obtain rfl : Hh = h := hHh.out.symm.trans (by rw [dropH, hE1]; rfl)
      have HL : Hid (dropL Hh xs (k : Int) = xs.take k ++ xs.drop (k + 1)) := by show _ = _; rw [dropL, hE1]; simp
      have hkw : IntKind.i64.wrap ((k : Int) + 1) = (k : Int) + 1 := IntWalk.i64_in _ (by have := HN.out; omega)
      have HK := Lib.hid hk
      clear hE1 h0 hk
      go_wp2_with fail
      refine (clone_any xs _ w2 (HU.out.keeps (bt KB K2)) HNZ.out HN.out).mono ?_
      rintro e w3 ⟨v3, rfl, hr3, hB3⟩
      obtain ⟨g, cap, hvg, hgg⟩ : ∃ g cap, v3 = .slice (some ⟨g, 0, none⟩) xs.length cap ∧ w2.heap.size ≤ g ∧ g < w3.heap.size := by
        rcases hr3.2 with ⟨_, h9⟩ | ⟨g, cap, cur, h9, hb9, hg9, _⟩
        · have := HK.out; omega
        · exact ⟨g, cap, h9, hb9, lt_of_heap hg9⟩
      subst hvg
      have K3 : Free.Bel ((w.alloc (.cells #[.int .i64 Hh, .slice p xs.length cp] 24)).alloc (.cells #[.int .i64 0, .slice none 0 0] 24)) w3 := bt K2 hB3
      have hdel := deleteP_any w2.heap.size g cap k xs w3 hr3 HK.out HN.out
      have HDEL := Lib.hid hdel
      have HGG := Lib.hid hgg
      have HS2 := Lib.hid K2.size
      clear hr3 hB3 hdel hgg K2
      go_wp2_with fail
      refine HDEL.out.mono ?_
      rintro e w4 ⟨rfl, hr4, hB4⟩
      have hs2 : w.heap.size + 1 + 1 ≤ w2.heap.size := by have := HS2.out; simp at this; omega
      have K4 : Free.Bel ((w.alloc (.cells #[.int .i64 Hh, .slice p xs.length cp] 24)).alloc (.cells #[.int .i64 0, .slice none 0 0] 24)) w4 := hB4.below (w0 := ((w.alloc (.cells #[.int .i64 Hh, .slice p xs.length cp] 24)).alloc (.cells #[.int .i64 0, .slice none 0 0] 24))) (s := ((w.alloc (.cells #[.int .i64 Hh, .slice p xs.length cp] 24)).alloc (.cells #[.int .i64 0, .slice none 0 0] 24)).heap.size) K3 K3.size (Nat.le_trans HS2.out HGG.out.1)
      have hlen : (dropL Hh xs (k : Int)).length = xs.length - 1 := by rw [HL.out]; simp; have := HK.out; omega
      have HR4 := Lib.hid (row_mono hr4 (show w.heap.size + 2 ≤ w2.heap.size from hs2))
      have HLEN := Lib.hid hlen
      obtain ⟨n, hn⟩ : ∃ n, xs.length - 1 = n := ⟨_, rfl⟩
      rw [hn] at HR4 HLEN ⊢
      clear hr4 hB4 hlen hn K3 hs2
      go_wp2_with fail
      have hrz := HRZ.out _ K4
      have hz0 := cell_of_heap (o := 0) hrz.2 rfl
      have hz1 := cell_of_heap (o := 1) hrz.2 rfl
      have hz4 := cell_of_heap (o := 1) hrz.1 rfl
      have hst := two_stores (w := w4.setCell ⟨w.heap.size, 1, none⟩ (.slice (some ⟨g, 0, none⟩) n cap)) (.int .i64 Hh) (.slice (some ⟨g, 0, none⟩) n cap) (by rw [World.cell?_setCell_other _ _ _ _ (by simp)]; exact hz0) (by rw [World.cell?_setCell_other _ _ _ _ (by simp)]; exact hz1)
      refine bodyPost_ret (v := .tuple #[.agg #[.int .i64 Hh, .slice (some ⟨g, 0, none⟩) n cap], .int .i64 0]) (by simp [results, Tryd.results45, go_sem, hst]) rfl ⟨⟨_, rfl, ?_⟩, (((bt KB K4).setCell (by simp) _).setCell (by simp) _).setCell (by simp) _⟩
      rw [HLEN.out, HL.out]
      exact row_mono (row_set (row_set (row_set HR4.out (by omega)) (by omega)) (by omega)) (by omega)
end Go.Proofs.YtknpglgpkkhhiaaDoor

/- Watches: Great, Same. -/
namespace Go.Proofs.YtknpglgpkkhhiaaDoor
set_option linter.unusedSimpArgs false
set_option linter.unusedVariables false
open Go.RowKit

set_option maxRecDepth 100000 in
set_option maxHeartbeats 4000000 in
theorem sameW_any (h : Int) (xs : List (Int × Int × Int)) (u v : Value) (w : World) (hu : RL xs u w) (hv : RL xs v w) :
    Calls Tryd.prog 28 #[.agg #[.int .i64 h, u], .agg #[.int .i64 h, v]] w fun e w' => e = .returned (.bool true) ∧ Below w.heap.size w w' := by
  obtain ⟨p, cp, rfl, hm, hp⟩ := hu
  obtain ⟨q, cq, rfl, _, hq⟩ := hv
  unfold maxLen at hm
  have HP := Lib.hid hp
  have HQ := Lib.hid hq
  clear hp hq
  have hB0 : Below w.heap.size w ((w.alloc (.cells #[.int .i64 h, .slice p xs.length cp] 24)).alloc (.cells #[.int .i64 h, .slice q xs.length cq] 24)) := ((Below.refl _ w).alloc (Nat.le_refl _) _).alloc (by simp) _
  have c0_0 : ((w.alloc (.cells #[.int .i64 h, .slice p xs.length cp] 24)).alloc (.cells #[.int .i64 h, .slice q xs.length cq] 24)).cell? ⟨w.heap.size, 0, none⟩ = some (.int .i64 h) := by simp [go_sem]
  have c0_1 : ((w.alloc (.cells #[.int .i64 h, .slice p xs.length cp] 24)).alloc (.cells #[.int .i64 h, .slice q xs.length cq] 24)).cell? ⟨w.heap.size, 1, none⟩ = some (.slice p xs.length cp) := by simp [go_sem]
  have c1_0 : ((w.alloc (.cells #[.int .i64 h, .slice p xs.length cp] 24)).alloc (.cells #[.int .i64 h, .slice q xs.length cq] 24)).cell? ⟨w.heap.size + 1, 0, none⟩ = some (.int .i64 h) := by simp [go_sem]
  have c1_1 : ((w.alloc (.cells #[.int .i64 h, .slice p xs.length cp] 24)).alloc (.cells #[.int .i64 h, .slice q xs.length cq] 24)).cell? ⟨w.heap.size + 1, 1, none⟩ = some (.slice q xs.length cq) := by simp [go_sem]
  have FA : ∀ W, Free.Bel ((w.alloc (.cells #[.int .i64 h, .slice p xs.length cp] 24)).alloc (.cells #[.int .i64 h, .slice q xs.length cq] 24)) W → W.cell? ⟨w.heap.size, 0, none⟩ = some (.int .i64 h) ∧ W.cell? ⟨w.heap.size, 1, none⟩ = some (.slice p xs.length cp) ∧ W.cell? ⟨w.heap.size + 1, 0, none⟩ = some (.int .i64 h) ∧ W.cell? ⟨w.heap.size + 1, 1, none⟩ = some (.slice q xs.length cq) := fun W hW => ⟨keepsB hW c0_0, keepsB hW c0_1, keepsB hW c1_0, keepsB hW c1_1⟩
  go_enter Tryd.func28, Tryd.ntmps28
  go_wp2_with fail
  have hB9 : Below w.heap.size w ((w.alloc (.cells #[.int .i64 h, .slice p xs.length cp] 24)).alloc (.cells #[.int .i64 h, .slice q xs.length cq] 24)) := hB0
  clear hB0 c0_0 c0_1 c1_0 c1_1
  generalize ((w.alloc (.cells #[.int .i64 h, .slice p xs.length cp] 24)).alloc (.cells #[.int .i64 h, .slice q xs.length cq] 24)) = w1 at *
  go_loopw [5] (fun i wr => ∃ k : Nat, k ≤ xs.length ∧ i = .int .i64 k ∧ Free.Bel w1 wr) (fun i _ => xs.length - (intOf i).toNat)
  case atStart => exact ⟨0, Nat.zero_le _, rfl, Free.Bel.refl _⟩
  case round =>
    obtain ⟨k, hk, rfl, hB⟩ := hrel
    by_cases hlt : k < xs.length
    · have hx : xs ≠ [] := by intro e; simp [e] at hlt
      obtain ⟨b, off, rfl, hcp⟩ := HP.out hx
      obtain ⟨b2, off2, rfl, hcq⟩ := HQ.out hx
      have hww : Below w.heap.size w wr := hB9.trans (hB.mono hB9.size)
      obtain ⟨e1, e2, e3⟩ := hcp k hlt
      obtain ⟨e4, e5, e6⟩ := hcq k hlt
      have HC := Lib.hid (And.intro (keepsB hww e1) (And.intro (keepsB hww e2) (And.intro (keepsB hww e3) (And.intro (keepsB hww e4) (And.intro (keepsB hww e5) (keepsB hww e6))))))
      have hklt : (k : Int) < xs.length := by omega
      clear hcp hcq e1 e2 e3 e4 e5 e6 hx
      generalize xs[k] = x at *
      obtain ⟨x1, x2, x3⟩ := x
      go_wp2_with fail
      have hF : ∀ W, Free.Bel wr.drew W → (W.cell? ⟨b, off + k * 3, none⟩ = some (.int .i64 x1) ∧ W.cell? ⟨b, off + k * 3 + 1, none⟩ = some (.int .i64 x2) ∧ W.cell? ⟨b, off + k * 3 + 2, none⟩ = some (.int .i64 x3) ∧ W.cell? ⟨b2, off2 + k * 3, none⟩ = some (.int .i64 x1) ∧ W.cell? ⟨b2, off2 + k * 3 + 1, none⟩ = some (.int .i64 x2) ∧ W.cell? ⟨b2, off2 + k * 3 + 2, none⟩ = some (.int .i64 x3)) ∧ Free.Bel w1 W :=
        fun W hW => ⟨⟨keepsB (Free.Bel.first hW) HC.out.1, keepsB (Free.Bel.first hW) HC.out.2.1, keepsB (Free.Bel.first hW) HC.out.2.2.1, keepsB (Free.Bel.first hW) HC.out.2.2.2.1, keepsB (Free.Bel.first hW) HC.out.2.2.2.2.1, keepsB (Free.Bel.first hW) HC.out.2.2.2.2.2⟩, bt hB (Free.Bel.first hW)⟩
      refine Free.wp_free (R := Free.Bel) (by kernel_rfl) (by kernel_rfl) Free.Bel.refl Free.Bel.trans ?_
      refine Free.Chain.ex ?_ [] [2] (by kernel_rfl) (by kernel_rfl) rfl Free.Bel.refl ?_ ?_
      rotate_left 2
      simp only [an1, an2]
      refine Free.Chain.ex ?_ [(0, 27)] [] (by kernel_rfl) (by kernel_rfl) rfl Free.Bel.refl ?_ ?_
      rotate_left 2
      simp only [an1, an2]
      refine Free.Chain.ex ?_ [] [5] (by kernel_rfl) (by kernel_rfl) rfl Free.Bel.refl ?_ ?_
      rotate_left 2
      simp only [an1, an2]
      refine Free.Chain.ex ?_ [(1, 28), (2, 29)] [] (by kernel_rfl) (by kernel_rfl) rfl Free.Bel.refl ?_ ?_
      rotate_left 2
      simp only [an1, an2]
      refine Free.Chain.ex ?_ [(3, 30)] [] (by kernel_rfl) (by kernel_rfl) rfl Free.Bel.refl ?_ ?_
      rotate_left 2
      simp only [an1, an2]
      refine Free.Chain.ex ?_ [] [3] (by kernel_rfl) (by kernel_rfl) rfl Free.Bel.refl ?_ ?_
      rotate_left 2
      simp only [an1, an2]
      refine Free.Chain.ex ?_ [(5, 32)] [] (by kernel_rfl) (by kernel_rfl) rfl Free.Bel.refl ?_ ?_
      rotate_left 2
      simp only [an1, an2]
      refine Free.Chain.ex ?_ [] [5] (by kernel_rfl) (by kernel_rfl) rfl Free.Bel.refl ?_ ?_
      rotate_left 2
      simp only [an1, an2]
      refine Free.Chain.ex ?_ [(6, 33), (7, 34)] [] (by kernel_rfl) (by kernel_rfl) rfl Free.Bel.refl ?_ ?_
      rotate_left 2
      simp only [an1, an2]
      refine Free.Chain.ex ?_ [(8, 35)] [] (by kernel_rfl) (by kernel_rfl) rfl Free.Bel.refl ?_ ?_
      rotate_left 2
      simp only [an1, an2]
      refine Free.Chain.ex ?_ [(4, 31), (9, 36)] [] (by kernel_rfl) (by kernel_rfl) rfl Free.Bel.refl ?_ ?_
      rotate_left 2
      simp only [an1, an2]
      rotate_left
      iterate 11 (rotate_left; intro ev W hb hR hO hD; have hS := hF W hR; obtain ⟨hb1, hb2, hb3⟩ := hb; simp only [Free.AllDeps, Free.AllOuts, Free.At, al1, al2, al3, al4, al5, and_true] at hO hD; obtain ⟨hS, hS2⟩ := hS; go_simp; rfl)
      intro xs w' hR hV
      simp only [Free.AllV, Free.At, List.length_cons, List.length_nil, Nat.reduceAdd, List.getElem?_cons_succ, List.getElem?_cons_zero, true_and] at hV
      simp only [Free.putsFrom, Act.put, hV, List.setIfInBounds_toArray, List.set_cons_succ, List.set_cons_zero]
      have hB2 : Free.Bel w1 w' := bt hB (Free.Bel.first hR)
      clear hR hV hF
      go_wp2_with fail
      go_roundw
      case rel => exact ⟨k + 1, by omega, by go_num, hB2⟩
      case measure => simp [intOf]; omega
    · obtain rfl : k = xs.length := by omega
      go_wp2_with fail
      go_ret
      exact ⟨rfl, hB9.trans (hB.mono hB9.size)⟩

set_option maxRecDepth 100000 in
set_option maxHeartbeats 2000000 in
theorem great_any (h : Int) (n cap : Nat) (p : Option Addr) (w : World) :
    Calls Tryd.prog 17 #[.agg #[.int .i64 h, .slice p n cap]] w fun e w' => e = .returned (.bool (decide (10 < (n : Int)))) ∧ Below w.heap.size w w' := by
  have hB0 : Below w.heap.size w (w.alloc (.cells #[.int .i64 h, .slice p n cap] 24)) := (Below.refl _ w).alloc (Nat.le_refl _) _
  go_enter Tryd.func17, Tryd.ntmps17
  go_wp2_with fail
  go_ret
  exact ⟨by simp, hB0⟩
end Go.Proofs.YtknpglgpkkhhiaaDoor

/- The table of what a watch is asked: what the row's list gives; a start that meets it. -/
namespace Go.Proofs.YtknpglgpkkhhiaaDoor.Tab
open Go Go.ChangeShapes Go.WideShapes Go.ChangeAt Go.RowKit

abbrev laid {H : Type} : List (String × DataW H) := [("oilcake/round.checks", Rows.laid_oilcake_round_checks)]
theorem own : ownKnob Tryd.prog.godebug = none := by kernel_rfl
theorem laidOut : laidOutB Tryd.prog = true := by kernel_rfl
theorem gTab : Tryd.prog.globalNamed "oilcake/round.checks" = some 0 := by kernel_rfl
theorem tTab : (Tryd.prog.globals[0]?).map (·.type) = some 121 := by kernel_rfl
theorem c118 : Tryd.prog.cellsOf 121 = 3 := by kernel_rfl
theorem c117 : Tryd.prog.cellsOf 120 = 1 := by kernel_rfl
theorem c116 : Tryd.prog.cellsOf 26 = 1 := by kernel_rfl

/-- The door's own heap meets the condition. -/
theorem door_met (os : Os) (args : Array Value) : laidMetH Tryd.prog laid ((World.doorLaid Tryd.prog 17 os).forCall (fun _ _ => 0) ⟨#[], args, []⟩).memory :=
  laidMetH_of_parts3 (fuel := 8) (laidMet_of_run' 8 (by kernel_rfl) (by kernel_rfl)) (by kernel_rfl) (by kernel_rfl)

theorem one {W : World} {n : Nat} {c : Value} {y : DataW (List UInt8) × List MemPlace} {b : UInt8} {r : List UInt8} {f0 : FuncId} (hy : y.1 = .agg [.held (b :: r)])
    (hone : ((List.range Tryd.prog.funcs.size).filter fun f => (Tryd.prog.funcs[f]?).any (·.name.toUTF8.data.toList == b :: r)) = [f0])
    (h : DataW.trod (funcToken Tryd.prog) Tryd.prog W 0 (fun _ => true) true n 120 [c] = some y) : c = .func (.func f0) #[] #[] := by
  obtain ⟨y0, m, rfl, _, h0⟩ := trod_struct1 Tryd.underlying120 h
  simp only [c116, List.drop_zero, List.take_one, List.head?_cons, Option.toList_some] at h0
  simp at hy
  obtain ⟨z, q⟩ := y0
  simp only at hy
  subst hy
  exact func_of_trod Tryd.underlying26 hone (by simpa using h0)

theorem of_laid {W : World} (h : laidMetH Tryd.prog laid W) : TabR W := by
  obtain ⟨g, t, cs, fuel, p, hg, ht, hv, hd⟩ := h.funcs (List.mem_singleton.2 rfl)
  obtain rfl := Option.some.inj (gTab.symm.trans hg)
  obtain rfl := Option.some.inj (tTab.symm.trans ht)
  have hd' : DataW.trod (funcToken Tryd.prog) Tryd.prog W 0 (fun _ => true) true fuel 121 cs.toList = some (.agg [.agg [.held [111, 105, 108, 99, 97, 107, 101, 47, 114, 111, 117, 110, 100, 46, 99, 104, 101, 99, 107, 115, 36, 49]], .agg [.held [111, 105, 108, 99, 97, 107, 101, 47, 114, 111, 117, 110, 100, 46, 99, 104, 101, 99, 107, 115, 36, 50]], .agg [.held [111, 105, 108, 99, 97, 107, 101, 47, 114, 111, 117, 110, 100, 46, 99, 104, 101, 99, 107, 115, 36, 51]]], p) := hd
  have hl : cs.size = 3 := by
    obtain ⟨_, _, _, _, hl, _, _⟩ := DataW.trod_array Tryd.underlying121 hd'
    simpa [c118] using hl
  obtain ⟨c0, c1, c2, rfl⟩ := Joins.array3 hl
  obtain ⟨y0, y1, y2, n, hx, h0, h1, h2⟩ := trod_array3 Tryd.underlying121 c117 hd'
  simp only [Prod.mk.injEq, DataW.agg.injEq, List.cons.injEq, and_true] at hx
  obtain ⟨⟨e0, e1, e2⟩, _⟩ := hx
  have f0 := one (f0 := 135) e0.symm (by kernel_rfl) h0
  have f1 := one (f0 := 136) e1.symm (by kernel_rfl) h1
  have f2 := one (f0 := 137) e2.symm (by kernel_rfl) h2
  subst f0 f1 f2
  exact ⟨World.var?_cell hg hv 0, World.var?_cell hg hv 1, World.var?_cell hg hv 2⟩
end Go.Proofs.YtknpglgpkkhhiaaDoor.Tab

