/- The program's Drop. -/
import Derived.Test.YtknpglgpkkhhiaaDoorB4
import Derived.IntWalk
import Derived.Test.YtknpglgpkkhhiaaDoorCards
import Derived.Test.YtknpglgpkkhhiaaDoorTie
import Derived.ProofKit
import Derived.LaidMore
import Derived.Stop.Joined
import Derived.Laws.IdiomArrays
import Derived.Lib.SmallJoins
import Derived.Deep.DeepHandedRow
import Derived.WalkMore
import Derived.Laws.StructEq
namespace Go.Proofs.YtknpglgpkkhhiaaDoor
set_option linter.unusedSimpArgs false
set_option linter.unusedVariables false
open Go.RowKit Go.Proofs.YtknpglgpkkhhiaaDoor.Free2

theorem row_set {base b o n size : Nat} {e : TypeId} {v x : Value} {xs : List Value} {w : World} (h : w.ownsRow base e size v n xs) (hb : b < base) : (w.setCell ⟨b, o, none⟩ x).ownsRow base e size v n xs :=
  row_block h fun k hk hl => heap_setCell_other (by
    intro e
    subst e
    exact off_base h hb hk)

set_option maxRecDepth 100000 in
set_option maxHeartbeats 16000000 in
theorem dropP_v (h id : Int) (xs : List Rk) (u : Value) (w : World) (hT : TabR w) (hu : RL xs u w) (hz : NZ u) (hn : xs.length ≤ 1000) (r : Int) (hr : Hid (RickIs xs id r)) (E Hh : Int) (hE : Hid (dropE h xs r = E)) (hHh : Hid (dropH h xs r = Hh)) :
    Calls Tryd.prog 45 #[.agg #[.int .i64 h, u], .int .i64 id] w fun e w' => (∃ v, e = .returned (.tuple #[.agg #[.int .i64 Hh, v], .int .i64 E]) ∧ w'.ownsRow w.heap.size 47 3 v (dropL h xs r).length (cellsR (dropL h xs r))) ∧ Below w.heap.size w w' := by
  have HU := Lib.hid hu
  obtain ⟨p, cp, rfl, hm, _⟩ := hu
  have HNZ := Lib.hid hz
  have HTAB := Lib.hid hT
  have HN := Lib.hid hn
  clear hz hT hm hn
  have KB : Free.Bel w ((w.alloc (.cells #[.int .i64 h, .slice p xs.length cp] 24)).alloc (.cells #[.int .i64 0, .slice none 0 0] 24)) := Bel.allocT (Bel.allocT (Free.Bel.refl _) _) _
  have m0 : ((w.alloc (.cells #[.int .i64 h, .slice p xs.length cp] 24)).alloc (.cells #[.int .i64 0, .slice none 0 0] 24)).heap[w.heap.size]? = some (.cells #[.int .i64 h, .slice p xs.length cp] 24 (0, 0)) := heap_old (World.alloc_heap_new w _)
  have m1 : ((w.alloc (.cells #[.int .i64 h, .slice p xs.length cp] 24)).alloc (.cells #[.int .i64 0, .slice none 0 0] 24)).heap[w.heap.size + 1]? = some (.cells #[.int .i64 0, .slice none 0 0] 24 (0, 0)) := by
    have := World.alloc_heap_new (w.alloc (.cells #[.int .i64 h, .slice p xs.length cp] 24)) (.cells #[.int .i64 0, .slice none 0 0] 24)
    simpa using this
  have FA : ∀ W, Free.Bel ((w.alloc (.cells #[.int .i64 h, .slice p xs.length cp] 24)).alloc (.cells #[.int .i64 0, .slice none 0 0] 24)) W → W.cell? ⟨w.heap.size, 0, none⟩ = some (.int .i64 h) ∧ W.cell? ⟨w.heap.size, 1, none⟩ = some (.slice p xs.length cp) ∧ W.cell? ⟨w.heap.size + 1, 0, none⟩ = some (.int .i64 0) ∧ W.cell? ⟨w.heap.size + 1, 1, none⟩ = some (.slice none 0 0) ∧ W.frozen? ⟨w.heap.size + 1, 0, none⟩ = false ∧ W.frozen? ⟨w.heap.size + 1, 1, none⟩ = false ∧ W.frozen? ⟨w.heap.size, 1, none⟩ = false := fun W hW => ⟨keepsB hW (cell_of_heap m0 rfl), keepsB hW (cell_of_heap m0 rfl), keepsB hW (cell_of_heap m1 rfl), keepsB hW (cell_of_heap m1 rfl), frozB hW (cell_of_heap (o := 0) m1 rfl) (frozen_of_heap m1), frozB hW (cell_of_heap (o := 1) m1 rfl) (frozen_of_heap m1), frozB hW (cell_of_heap (o := 1) m0 rfl) (frozen_of_heap m0)⟩
  have HRZ : Hid (∀ W, Free.Bel ((w.alloc (.cells #[.int .i64 h, .slice p xs.length cp] 24)).alloc (.cells #[.int .i64 0, .slice none 0 0] 24)) W → W.heap[w.heap.size]? = some (.cells #[.int .i64 h, .slice p xs.length cp] 24 (0, 0)) ∧ W.heap[w.heap.size + 1]? = some (.cells #[.int .i64 0, .slice none 0 0] 24 (0, 0))) := fun W hW => ⟨(hW.block _ (lt_of_heap m0)).trans m0, (hW.block _ (lt_of_heap m1)).trans m1⟩
  have KE : Free.Bel ((w.alloc (.cells #[.int .i64 h, .slice p xs.length cp] 24)).alloc (.cells #[.int .i64 0, .slice none 0 0] 24)) ((w.alloc (.cells #[.int .i64 h, .slice p xs.length cp] 24)).alloc (.cells #[.int .i64 0, .slice none 0 0] 24)) := Free.Bel.refl _
  clear m0 m1
  cases hw : watchB h xs
  · have HC := Lib.hid (checkP_v h xs _ ((w.alloc (.cells #[.int .i64 h, .slice p xs.length cp] 24)).alloc (.cells #[.int .i64 0, .slice none 0 0] 24)) (HTAB.out.bel KB) (HU.out.keeps KB) 70 (by show _ = _; simp [hw]))
    have hE1 : dropE h xs r = 70 := by simp [dropE, hw]
    obtain rfl : E = 70 := hE.out.symm.trans hE1
    obtain rfl : Hh = 0 := hHh.out.symm.trans (by rw [dropH, hE1]; rfl)
    have HL : Hid (dropL h xs r = []) := by show _ = _; rw [dropL, hE1]; rfl
    clear hw hE1
    go_enter Tryd.func45, Tryd.ntmps45
    go_wp2_with fail
    refine HC.out.mono ?_
    rintro e w1 ⟨rfl, hB1⟩
    have K1 : Free.Bel ((w.alloc (.cells #[.int .i64 h, .slice p xs.length cp] 24)).alloc (.cells #[.int .i64 0, .slice none 0 0] 24)) w1 := hB1
    clear hB1 KE
    go_wp2_with fail
    have hrz := (HRZ.out _ K1).2
    have hst := two_stores (.int .i64 0) (.slice none 0 0) (cell_of_heap (o := 0) hrz rfl) (cell_of_heap (o := 1) hrz rfl)
    exact bodyPost_ret (v := .tuple #[.agg #[.int .i64 0, .slice none 0 0], .int .i64 70]) (by simp [results, Tryd.results45, go_sem, hst]) rfl ⟨⟨_, rfl, by rw [HL.out]; simpa [cellsR] using World.ownsRow_nil _ _ _ _⟩, ((bt KB K1).setCell (by simp) _).setCell (by simp) _⟩
  · have HC := Lib.hid (checkP_v h xs _ ((w.alloc (.cells #[.int .i64 h, .slice p xs.length cp] 24)).alloc (.cells #[.int .i64 0, .slice none 0 0] 24)) (HTAB.out.bel KB) (HU.out.keeps KB) 0 (by show _ = _; simp [hw]))
    have HW := Lib.hid hw
    clear hw
    go_enter Tryd.func45, Tryd.ntmps45
    go_wp2_with fail
    refine HC.out.mono ?_
    rintro e w1 ⟨rfl, hB1⟩
    have K1 : Free.Bel ((w.alloc (.cells #[.int .i64 h, .slice p xs.length cp] 24)).alloc (.cells #[.int .i64 0, .slice none 0 0] 24)) w1 := hB1
    clear hB1 KE
    go_wp2_with fail
    refine (indexP_v h id xs _ w1 (HU.out.keeps (bt KB K1)) r hr).mono ?_
    rintro e w2 ⟨rfl, hB2⟩
    have K2 : Free.Bel ((w.alloc (.cells #[.int .i64 h, .slice p xs.length cp] 24)).alloc (.cells #[.int .i64 0, .slice none 0 0] 24)) w2 := bt K1 hB2
    clear hB2 K1
    by_cases h0 : r < 0
    · have g0 : decide (r < 0) = true := decide_eq_true h0
      have hE1 : dropE h xs r = 6 := by rw [dropE, if_neg (by rw [HW.out]; simp), if_pos h0]
      obtain rfl : E = 6 := hE.out.symm.trans hE1
      obtain rfl : Hh = 0 := hHh.out.symm.trans (by rw [dropH, hE1]; rfl)
      have HL : Hid (dropL h xs r = []) := by show _ = _; rw [dropL, hE1]; rfl
      clear hE1
      go_wp2_with fail
      have hrz := (HRZ.out _ K2).2
      have hst := two_stores (.int .i64 0) (.slice none 0 0) (cell_of_heap (o := 0) hrz rfl) (cell_of_heap (o := 1) hrz rfl)
      exact bodyPost_ret (v := .tuple #[.agg #[.int .i64 0, .slice none 0 0], .int .i64 6]) (by simp [results, Tryd.results45, go_sem, hst]) rfl ⟨⟨_, rfl, by rw [HL.out]; simpa [cellsR] using World.ownsRow_nil _ _ _ _⟩, ((bt KB K2).setCell (by simp) _).setCell (by simp) _⟩
    · obtain ⟨k, hk, hrk⟩ : ∃ k : Nat, k < xs.length ∧ r = k := by
        rcases hr.out with ⟨h9, _⟩ | ⟨k, h9, h8, _⟩
        · omega
        · exact ⟨k, h9, h8⟩
      subst hrk
      have g0 : decide ((k : Int) < 0) = false := decide_eq_false h0
      have hE1 : dropE h xs (k : Int) = 0 := by rw [dropE, if_neg (by rw [HW.out]; simp), if_neg h0]
      obtain rfl : E = 0 := hE.out.symm.trans hE1
      obtain rfl : Hh = h := hHh.out.symm.trans (by rw [dropH, hE1]; rfl)
      have HL : Hid (dropL Hh xs (k : Int) = xs.take k ++ xs.drop (k + 1)) := by show _ = _; rw [dropL, hE1]; simp
      have hkw : IntKind.i64.wrap ((k : Int) + 1) = (k : Int) + 1 := IntWalk.i64_in _ (by have := HN.out; omega)
      have HK := Lib.hid hk
      clear hE1 h0 hk
      go_wp2_with fail
      refine (clone_any xs _ w2 (HU.out.keeps (bt KB K2)) HNZ.out HN.out).mono ?_
      rintro e w3 ⟨v3, rfl, hr3, hB3⟩
      obtain ⟨g, cap, hvg, hgg⟩ : ∃ g cap, v3 = .slice (some ⟨g, 0, none⟩) xs.length cap ∧ w2.heap.size ≤ g ∧ g < w3.heap.size := by
        rcases hr3.2 with ⟨_, h9⟩ | ⟨g, cap, cur, h9, hb9, hg9, _⟩
        · have := HK.out; omega
        · exact ⟨g, cap, h9, hb9, lt_of_heap hg9⟩
      subst hvg
      have K3 : Free.Bel ((w.alloc (.cells #[.int .i64 Hh, .slice p xs.length cp] 24)).alloc (.cells #[.int .i64 0, .slice none 0 0] 24)) w3 := bt K2 hB3
      have hdel := deleteP_any w2.heap.size g cap k xs w3 hr3 HK.out HN.out
      have HDEL := Lib.hid hdel
      have HGG := Lib.hid hgg
      have HS2 := Lib.hid K2.size
      clear hr3 hB3 hdel hgg K2
      go_wp2_with fail
      refine HDEL.out.mono ?_
      rintro e w4 ⟨rfl, hr4, hB4⟩
      have hs2 : w.heap.size + 1 + 1 ≤ w2.heap.size := by have := HS2.out; simp at this; omega
      have K4 : Free.Bel ((w.alloc (.cells #[.int .i64 Hh, .slice p xs.length cp] 24)).alloc (.cells #[.int .i64 0, .slice none 0 0] 24)) w4 := hB4.below (w0 := ((w.alloc (.cells #[.int .i64 Hh, .slice p xs.length cp] 24)).alloc (.cells #[.int .i64 0, .slice none 0 0] 24))) (s := ((w.alloc (.cells #[.int .i64 Hh, .slice p xs.length cp] 24)).alloc (.cells #[.int .i64 0, .slice none 0 0] 24)).heap.size) K3 K3.size (Nat.le_trans HS2.out HGG.out.1)
      have hlen : (dropL Hh xs (k : Int)).length = xs.length - 1 := by rw [HL.out]; simp; have := HK.out; omega
      have HR4 := Lib.hid (row_mono hr4 (show w.heap.size + 2 ≤ w2.heap.size from hs2))
      have HLEN := Lib.hid hlen
      obtain ⟨n, hn⟩ : ∃ n, xs.length - 1 = n := ⟨_, rfl⟩
      rw [hn] at HR4 HLEN ⊢
      clear hr4 hB4 hlen hn K3 hs2
      go_wp2_with fail
      have hrz := HRZ.out _ K4
      have hz0 := cell_of_heap (o := 0) hrz.2 rfl
      have hz1 := cell_of_heap (o := 1) hrz.2 rfl
      have hz4 := cell_of_heap (o := 1) hrz.1 rfl
      have hst := two_stores (w := w4.setCell ⟨w.heap.size, 1, none⟩ (.slice (some ⟨g, 0, none⟩) n cap)) (.int .i64 Hh) (.slice (some ⟨g, 0, none⟩) n cap) (by rw [World.cell?_setCell_other _ _ _ _ (by simp)]; exact hz0) (by rw [World.cell?_setCell_other _ _ _ _ (by simp)]; exact hz1)
      refine bodyPost_ret (v := .tuple #[.agg #[.int .i64 Hh, .slice (some ⟨g, 0, none⟩) n cap], .int .i64 0]) (by simp [results, Tryd.results45, go_sem, hst]) rfl ⟨⟨_, rfl, ?_⟩, (((bt KB K4).setCell (by simp) _).setCell (by simp) _).setCell (by simp) _⟩
      rw [HLEN.out, HL.out]
      exact row_mono (row_set (row_set (row_set HR4.out (by omega)) (by omega)) (by omega)) (by omega)
end Go.Proofs.YtknpglgpkkhhiaaDoor

/- Watches: Great, Same. -/
namespace Go.Proofs.YtknpglgpkkhhiaaDoor
set_option linter.unusedSimpArgs false
set_option linter.unusedVariables false
open Go.RowKit

set_option maxRecDepth 100000 in
set_option maxHeartbeats 4000000 in
theorem sameW_any (h : Int) (xs : List (Int × Int × Int)) (u v : Value) (w : World) (hu : RL xs u w) (hv : RL xs v w) :
    Calls Tryd.prog 28 #[.agg #[.int .i64 h, u], .agg #[.int .i64 h, v]] w fun e w' => e = .returned (.bool true) ∧ Below w.heap.size w w' := by
  obtain ⟨p, cp, rfl, hm, hp⟩ := hu
  obtain ⟨q, cq, rfl, _, hq⟩ := hv
  unfold maxLen at hm
  have HP := Lib.hid hp
  have HQ := Lib.hid hq
  clear hp hq
  have hB0 : Below w.heap.size w ((w.alloc (.cells #[.int .i64 h, .slice p xs.length cp] 24)).alloc (.cells #[.int .i64 h, .slice q xs.length cq] 24)) := ((Below.refl _ w).alloc (Nat.le_refl _) _).alloc (by simp) _
  have c0_0 : ((w.alloc (.cells #[.int .i64 h, .slice p xs.length cp] 24)).alloc (.cells #[.int .i64 h, .slice q xs.length cq] 24)).cell? ⟨w.heap.size, 0, none⟩ = some (.int .i64 h) := by simp [go_sem]
  have c0_1 : ((w.alloc (.cells #[.int .i64 h, .slice p xs.length cp] 24)).alloc (.cells #[.int .i64 h, .slice q xs.length cq] 24)).cell? ⟨w.heap.size, 1, none⟩ = some (.slice p xs.length cp) := by simp [go_sem]
  have c1_0 : ((w.alloc (.cells #[.int .i64 h, .slice p xs.length cp] 24)).alloc (.cells #[.int .i64 h, .slice q xs.length cq] 24)).cell? ⟨w.heap.size + 1, 0, none⟩ = some (.int .i64 h) := by simp [go_sem]
  have c1_1 : ((w.alloc (.cells #[.int .i64 h, .slice p xs.length cp] 24)).alloc (.cells #[.int .i64 h, .slice q xs.length cq] 24)).cell? ⟨w.heap.size + 1, 1, none⟩ = some (.slice q xs.length cq) := by simp [go_sem]
  have FA : ∀ W, Free.Bel ((w.alloc (.cells #[.int .i64 h, .slice p xs.length cp] 24)).alloc (.cells #[.int .i64 h, .slice q xs.length cq] 24)) W → W.cell? ⟨w.heap.size, 0, none⟩ = some (.int .i64 h) ∧ W.cell? ⟨w.heap.size, 1, none⟩ = some (.slice p xs.length cp) ∧ W.cell? ⟨w.heap.size + 1, 0, none⟩ = some (.int .i64 h) ∧ W.cell? ⟨w.heap.size + 1, 1, none⟩ = some (.slice q xs.length cq) := fun W hW => ⟨keepsB hW c0_0, keepsB hW c0_1, keepsB hW c1_0, keepsB hW c1_1⟩
  go_enter Tryd.func28, Tryd.ntmps28
  go_wp2_with fail
  have hB9 : Below w.heap.size w ((w.alloc (.cells #[.int .i64 h, .slice p xs.length cp] 24)).alloc (.cells #[.int .i64 h, .slice q xs.length cq] 24)) := hB0
  clear hB0 c0_0 c0_1 c1_0 c1_1
  generalize ((w.alloc (.cells #[.int .i64 h, .slice p xs.length cp] 24)).alloc (.cells #[.int .i64 h, .slice q xs.length cq] 24)) = w1 at *
  go_loopw [5] (fun i wr => ∃ k : Nat, k ≤ xs.length ∧ i = .int .i64 k ∧ Free.Bel w1 wr) (fun i _ => xs.length - (intOf i).toNat)
  case atStart => exact ⟨0, Nat.zero_le _, rfl, Free.Bel.refl _⟩
  case round =>
    obtain ⟨k, hk, rfl, hB⟩ := hrel
    by_cases hlt : k < xs.length
    · have hx : xs ≠ [] := by intro e; simp [e] at hlt
      obtain ⟨b, off, rfl, hcp⟩ := HP.out hx
      obtain ⟨b2, off2, rfl, hcq⟩ := HQ.out hx
      have hww : Below w.heap.size w wr := hB9.trans (hB.mono hB9.size)
      obtain ⟨e1, e2, e3⟩ := hcp k hlt
      obtain ⟨e4, e5, e6⟩ := hcq k hlt
      have HC := Lib.hid (And.intro (keepsB hww e1) (And.intro (keepsB hww e2) (And.intro (keepsB hww e3) (And.intro (keepsB hww e4) (And.intro (keepsB hww e5) (keepsB hww e6))))))
      have hklt : (k : Int) < xs.length := by omega
      clear hcp hcq e1 e2 e3 e4 e5 e6 hx
      generalize xs[k] = x at *
      obtain ⟨x1, x2, x3⟩ := x
      go_wp2_with fail
      have hF : ∀ W, Free.Bel wr.drew W → (W.cell? ⟨b, off + k * 3, none⟩ = some (.int .i64 x1) ∧ W.cell? ⟨b, off + k * 3 + 1, none⟩ = some (.int .i64 x2) ∧ W.cell? ⟨b, off + k * 3 + 2, none⟩ = some (.int .i64 x3) ∧ W.cell? ⟨b2, off2 + k * 3, none⟩ = some (.int .i64 x1) ∧ W.cell? ⟨b2, off2 + k * 3 + 1, none⟩ = some (.int .i64 x2) ∧ W.cell? ⟨b2, off2 + k * 3 + 2, none⟩ = some (.int .i64 x3)) ∧ Free.Bel w1 W :=
        fun W hW => ⟨⟨keepsB (Free.Bel.first hW) HC.out.1, keepsB (Free.Bel.first hW) HC.out.2.1, keepsB (Free.Bel.first hW) HC.out.2.2.1, keepsB (Free.Bel.first hW) HC.out.2.2.2.1, keepsB (Free.Bel.first hW) HC.out.2.2.2.2.1, keepsB (Free.Bel.first hW) HC.out.2.2.2.2.2⟩, bt hB (Free.Bel.first hW)⟩
      refine Free.wp_free (R := Free.Bel) (by kernel_rfl) (by kernel_rfl) Free.Bel.refl Free.Bel.trans ?_
      refine Free.Chain.ex ?_ [] [2] (by kernel_rfl) (by kernel_rfl) rfl Free.Bel.refl ?_ ?_
      rotate_left 2
      simp only [an1, an2]
      refine Free.Chain.ex ?_ [(0, 27)] [] (by kernel_rfl) (by kernel_rfl) rfl Free.Bel.refl ?_ ?_
      rotate_left 2
      simp only [an1, an2]
      refine Free.Chain.ex ?_ [] [5] (by kernel_rfl) (by kernel_rfl) rfl Free.Bel.refl ?_ ?_
      rotate_left 2
      simp only [an1, an2]
      refine Free.Chain.ex ?_ [(1, 28), (2, 29)] [] (by kernel_rfl) (by kernel_rfl) rfl Free.Bel.refl ?_ ?_
      rotate_left 2
      simp only [an1, an2]
      refine Free.Chain.ex ?_ [(3, 30)] [] (by kernel_rfl) (by kernel_rfl) rfl Free.Bel.refl ?_ ?_
      rotate_left 2
      simp only [an1, an2]
      refine Free.Chain.ex ?_ [] [3] (by kernel_rfl) (by kernel_rfl) rfl Free.Bel.refl ?_ ?_
      rotate_left 2
      simp only [an1, an2]
      refine Free.Chain.ex ?_ [(5, 32)] [] (by kernel_rfl) (by kernel_rfl) rfl Free.Bel.refl ?_ ?_
      rotate_left 2
      simp only [an1, an2]
      refine Free.Chain.ex ?_ [] [5] (by kernel_rfl) (by kernel_rfl) rfl Free.Bel.refl ?_ ?_
      rotate_left 2
      simp only [an1, an2]
      refine Free.Chain.ex ?_ [(6, 33), (7, 34)] [] (by kernel_rfl) (by kernel_rfl) rfl Free.Bel.refl ?_ ?_
      rotate_left 2
      simp only [an1, an2]
      refine Free.Chain.ex ?_ [(8, 35)] [] (by kernel_rfl) (by kernel_rfl) rfl Free.Bel.refl ?_ ?_
      rotate_left 2
      simp only [an1, an2]
      refine Free.Chain.ex ?_ [(4, 31), (9, 36)] [] (by kernel_rfl) (by kernel_rfl) rfl Free.Bel.refl ?_ ?_
      rotate_left 2
      simp only [an1, an2]
      rotate_left
      iterate 11 (rotate_left; intro ev W hb hR hO hD; have hS := hF W hR; obtain ⟨hb1, hb2, hb3⟩ := hb; simp only [Free.AllDeps, Free.AllOuts, Free.At, al1, al2, al3, al4, al5, and_true] at hO hD; obtain ⟨hS, hS2⟩ := hS; go_simp; rfl)
      intro xs w' hR hV
      simp only [Free.AllV, Free.At, List.length_cons, List.length_nil, Nat.reduceAdd, List.getElem?_cons_succ, List.getElem?_cons_zero, true_and] at hV
      simp only [Free.putsFrom, Act.put, hV, List.setIfInBounds_toArray, List.set_cons_succ, List.set_cons_zero]
      have hB2 : Free.Bel w1 w' := bt hB (Free.Bel.first hR)
      clear hR hV hF
      go_wp2_with fail
      go_roundw
      case rel => exact ⟨k + 1, by omega, by go_num, hB2⟩
      case measure => simp [intOf]; omega
    · obtain rfl : k = xs.length := by omega
      go_wp2_with fail
      go_ret
      exact ⟨rfl, hB9.trans (hB.mono hB9.size)⟩

set_option maxRecDepth 100000 in
set_option maxHeartbeats 2000000 in
theorem great_any (h : Int) (n cap : Nat) (p : Option Addr) (w : World) :
    Calls Tryd.prog 17 #[.agg #[.int .i64 h, .slice p n cap]] w fun e w' => e = .returned (.bool (decide (10 < (n : Int)))) ∧ Below w.heap.size w w' := by
  have hB0 : Below w.heap.size w (w.alloc (.cells #[.int .i64 h, .slice p n cap] 24)) := (Below.refl _ w).alloc (Nat.le_refl _) _
  go_enter Tryd.func17, Tryd.ntmps17
  go_wp2_with fail
  go_ret
  exact ⟨by simp, hB0⟩
end Go.Proofs.YtknpglgpkkhhiaaDoor

/- The table of what a watch is asked: what the row's list gives; a start that meets it. -/
namespace Go.Proofs.YtknpglgpkkhhiaaDoor.Tab
open Go Go.ChangeShapes Go.WideShapes Go.ChangeAt Go.RowKit

abbrev laid {H : Type} : List (String × DataW H) := [("oilcake/round.checks", Rows.laid_oilcake_round_checks)]
theorem own : ownKnob Tryd.prog.godebug = none := by kernel_rfl
theorem laidOut : laidOutB Tryd.prog = true := by kernel_rfl
theorem gTab : Tryd.prog.globalNamed "oilcake/round.checks" = some 0 := by kernel_rfl
theorem tTab : (Tryd.prog.globals[0]?).map (·.type) = some 121 := by kernel_rfl
theorem c118 : Tryd.prog.cellsOf 121 = 3 := by kernel_rfl
theorem c117 : Tryd.prog.cellsOf 120 = 1 := by kernel_rfl
theorem c116 : Tryd.prog.cellsOf 26 = 1 := by kernel_rfl

/-- The door's own heap meets the condition. -/
theorem door_met (os : Os) (args : Array Value) : laidMetH Tryd.prog laid ((World.doorLaid Tryd.prog 17 os).forCall (fun _ _ => 0) ⟨#[], args, []⟩).memory :=
  laidMetH_of_parts3 (fuel := 8) (laidMet_of_run' 8 (by kernel_rfl) (by kernel_rfl)) (by kernel_rfl) (by kernel_rfl)

theorem one {W : World} {n : Nat} {c : Value} {y : DataW (List UInt8) × List MemPlace} {b : UInt8} {r : List UInt8} {f0 : FuncId} (hy : y.1 = .agg [.held (b :: r)])
    (hone : ((List.range Tryd.prog.funcs.size).filter fun f => (Tryd.prog.funcs[f]?).any (·.name.toUTF8.data.toList == b :: r)) = [f0])
    (h : DataW.trod (funcToken Tryd.prog) Tryd.prog W 0 (fun _ => true) true n 120 [c] = some y) : c = .func (.func f0) #[] #[] := by
  obtain ⟨y0, m, rfl, _, h0⟩ := trod_struct1 Tryd.underlying120 h
  simp only [c116, List.drop_zero, List.take_one, List.head?_cons, Option.toList_some] at h0
  simp at hy
  obtain ⟨z, q⟩ := y0
  simp only at hy
  subst hy
  exact func_of_trod Tryd.underlying26 hone (by simpa using h0)

theorem of_laid {W : World} (h : laidMetH Tryd.prog laid W) : TabR W := by
  obtain ⟨g, t, cs, fuel, p, hg, ht, hv, hd⟩ := h.funcs (List.mem_singleton.2 rfl)
  obtain rfl := Option.some.inj (gTab.symm.trans hg)
  obtain rfl := Option.some.inj (tTab.symm.trans ht)
  have hd' : DataW.trod (funcToken Tryd.prog) Tryd.prog W 0 (fun _ => true) true fuel 121 cs.toList = some (.agg [.agg [.held [111, 105, 108, 99, 97, 107, 101, 47, 114, 111, 117, 110, 100, 46, 99, 104, 101, 99, 107, 115, 36, 49]], .agg [.held [111, 105, 108, 99, 97, 107, 101, 47, 114, 111, 117, 110, 100, 46, 99, 104, 101, 99, 107, 115, 36, 50]], .agg [.held [111, 105, 108, 99, 97, 107, 101, 47, 114, 111, 117, 110, 100, 46, 99, 104, 101, 99, 107, 115, 36, 51]]], p) := hd
  have hl : cs.size = 3 := by
    obtain ⟨_, _, _, _, hl, _, _⟩ := DataW.trod_array Tryd.underlying121 hd'
    simpa [c118] using hl
  obtain ⟨c0, c1, c2, rfl⟩ := Joins.array3 hl
  obtain ⟨y0, y1, y2, n, hx, h0, h1, h2⟩ := trod_array3 Tryd.underlying121 c117 hd'
  simp only [Prod.mk.injEq, DataW.agg.injEq, List.cons.injEq, and_true] at hx
  obtain ⟨⟨e0, e1, e2⟩, _⟩ := hx
  have f0 := one (f0 := 135) e0.symm (by kernel_rfl) h0
  have f1 := one (f0 := 136) e1.symm (by kernel_rfl) h1
  have f2 := one (f0 := 137) e2.symm (by kernel_rfl) h2
  subst f0 f1 f2
  exact ⟨World.var?_cell hg hv 0, World.var?_cell hg hv 1, World.var?_cell hg hv 2⟩
end Go.Proofs.YtknpglgpkkhhiaaDoor.Tab

/- The program's Hot, After. -/
namespace Go.Proofs.YtknpglgpkkhhiaaDoor
set_option linter.unusedSimpArgs false
set_option linter.unusedVariables false
open Go.RowKit Go.Proofs.YtknpglgpkkhhiaaDoor.Free2

/-- What the program's played returns, in one form. -/
theorem PlayedP.one {h : Int} {xs : List Rk} {ds : List (List Int)} {e : Ending} {w' : World} (H : PlayedP h xs ds e w') :
    ∃ (pt : Option Addr) (S : Nat → Int) (p4 : Option Addr) (n4 c4 : Nat), e = .returned (.tuple #[.pointer pt, stV S, .slice p4 n4 c4, .int .i64 (askE h xs ds)]) ∧ n4 = (hotOut h xs ds).length ∧ PL (hotOut h xs ds) (.slice p4 n4 c4) w' ∧ (askE h xs ds = 0 → S = waits (endR xs ds)) := by
  rcases H with ⟨h1, S, rfl⟩ | ⟨h1, h2, S, rfl⟩ | ⟨h1, h2, yb, v, rfl, hpl⟩
  · have ha : askE h xs ds = 70 := by simp [askE, h1]
    have hh : hotOut h xs ds = [] := by rw [hotOut, if_neg (by rw [ha]; decide)]
    rw [ha, hh]
    exact ⟨_, S, none, 0, 0, rfl, rfl, PL.nil _, fun h => by simp at h⟩
  · have ha : askE h xs ds = 72 := by simp [askE, h1, h2]
    have hh : hotOut h xs ds = [] := by rw [hotOut, if_neg (by rw [ha]; decide)]
    rw [ha, hh]
    exact ⟨_, S, none, 0, 0, rfl, rfl, PL.nil _, fun h => by simp at h⟩
  · have ha : askE h xs ds = 0 := by simp [askE, h1, h2]
    have hh : hotOut h xs ds = heatR 0 xs ds := by rw [hotOut, if_pos ha]
    rw [ha, hh]
    obtain ⟨p4, c4, rfl, h5, h6⟩ := hpl
    exact ⟨_, _, p4, _, c4, rfl, rfl, ⟨p4, c4, rfl, h5, h6⟩, fun _ => rfl⟩

set_option maxRecDepth 100000 in
set_option maxHeartbeats 4000000 in
theorem hotP_any (h : Int) (xs : List Rk) (ds : List (List Int)) (u v : Value) (w : World) (hT : TabR w) (hu : RL xs u w) (hv : DL ds v w) (hd : ds.length ≤ 1000) :
    Calls Tryd.prog 21 #[.agg #[.int .i64 h, u], v] w fun e w' => (∃ v2, e = .returned (.tuple #[v2, .int .i64 (askE h xs ds)]) ∧ PL (hotOut h xs ds) v2 w') ∧ Below w.heap.size w w' := by
  have HU := Lib.hid hu
  have HV := Lib.hid hv
  obtain ⟨p, cp, rfl, _, _⟩ := hu
  obtain ⟨q, cq, rfl, hm, _⟩ := hv
  have KB : Free.Bel w (w.alloc (.cells #[.int .i64 h, .slice p xs.length cp] 24)) := belAlloc _ _
  have HPL := Lib.hid (playedP_any h xs ds _ _ _ (hT.bel KB) (HU.out.keeps KB) (HV.out.keeps KB) hd)
  obtain ⟨c, hc0⟩ : ∃ c, askE h xs ds = c := ⟨_, rfl⟩
  obtain ⟨H9, hH9⟩ : ∃ x, hotOut h xs ds = x := ⟨_, rfl⟩
  rw [hc0, hH9]
  have HC := Lib.hid (And.intro hc0 hH9)
  clear hT hc0 hH9
  go_enter Tryd.func21, Tryd.ntmps21
  go_wp2_with fail
  refine HPL.out.mono ?_
  rintro e w1 ⟨hP, hB1⟩
  obtain ⟨pt, S, p4, n4, c4, rfl, hn4, hpl, _⟩ := hP.one
  rw [HC.out.1]
  rw [HC.out.2] at hpl hn4
  have HP4 := Lib.hid hpl
  clear hpl hn4 HPL hP
  go_wp2_with fail
  exact bodyPost_ret (v := .tuple #[.slice p4 n4 c4, .int .i64 c]) (by simp [results, Tryd.results21, go_sem]) rfl ⟨⟨_, rfl, HP4.out.keeps (belAlloc _ _)⟩, bt KB (bt hB1 (belAlloc _ _))⟩

def RowIs (base : Nat) (e : TypeId) (v : Value) (n : Nat) (xs : List Value) (W : World) : Prop := W.ownsRow base e 3 v n xs
theorem RowIs.kept {base : Nat} {e : TypeId} {v : Value} {n : Nat} {xs : List Value} : ∀ a b : World, Below a.heap.size a b → RowIs base e v n xs a → RowIs base e v n xs b := fun a b h k => bel_row k h
/-- The first k ricks with what they have waited behind, the rest ahead. -/
def mixW (zs xs : List Rk) (k : Nat) : List Rk := zs.take k ++ xs.drop k
theorem mixW_get {zs xs : List Rk} (hl : zs.length = xs.length) {k : Nat} (h : k < xs.length) (h' : k < (mixW zs xs k).length) : (mixW zs xs k)[k] = xs[k] := by
  have hm : min k zs.length = k := Nat.min_eq_left (by omega)
  simp [mixW, List.getElem_append, hm]
theorem mixW_length {zs xs : List Rk} (hl : zs.length = xs.length) {k : Nat} (h : k ≤ xs.length) : (mixW zs xs k).length = xs.length := by simp [mixW]; omega
theorem mixW_step {zs xs : List Rk} (hl : zs.length = xs.length) {k : Nat} (h : k < xs.length) : (mixW zs xs k).set k (zs[k]'(by omega)) = mixW zs xs (k + 1) := by
  unfold mixW
  rw [take_step zs k (by omega), List.append_assoc, List.set_append_right _ _ (by simp; omega)]
  have hm : min k zs.length = k := Nat.min_eq_left (by omega)
  rw [List.length_take, hm, Nat.sub_self, List.drop_eq_getElem_cons h]
  rfl
theorem mixW_set {zs xs : List Rk} (hl : zs.length = xs.length) {k : Nat} (h : k < xs.length) (h' : k < (mixW zs xs (k + 1)).length) : (mixW zs xs (k + 1))[k] = zs[k]'(by omega) ∧ (mixW zs xs (k + 1)).set k (zs[k]'(by omega)) = mixW zs xs (k + 1) := by
  have hm : min (k + 1) zs.length = k + 1 := Nat.min_eq_left (by omega)
  have hg : (mixW zs xs (k + 1))[k] = zs[k]'(by omega) := by simp [mixW, List.getElem_append, hm]
  exact ⟨hg, by rw [← hg]; exact List.set_getElem_self _⟩

set_option maxRecDepth 100000 in
set_option maxHeartbeats 16000000 in
theorem aftP_any (h : Int) (xs : List Rk) (ds : List (List Int)) (u v : Value) (w : World) (hT : TabR w) (hu : RL xs u w) (hz : NZ u) (hv : DL ds v w) (hd : ds.length ≤ 1000) :
    Calls Tryd.prog 23 #[.agg #[.int .i64 h, u], v] w fun e w' => (∃ v2, e = .returned (.tuple #[.agg #[.int .i64 (aftH h xs ds), v2], .int .i64 (aftE h xs ds)]) ∧ w'.ownsRow w.heap.size 47 3 v2 (aftL h xs ds).length (cellsR (aftL h xs ds))) ∧ Below w.heap.size w w' := by
  have HU := Lib.hid hu
  have HV := Lib.hid hv
  obtain ⟨p, cp, rfl, _, _⟩ := hu
  obtain ⟨q, cq, rfl, hm, _⟩ := hv
  have KB : Free.Bel w ((w.alloc (.cells #[.int .i64 h, .slice p xs.length cp] 24)).alloc (.cells #[.int .i64 0, .slice none 0 0] 24)) := Bel.allocT (Bel.allocT (Free.Bel.refl _) _) _
  have m0 : ((w.alloc (.cells #[.int .i64 h, .slice p xs.length cp] 24)).alloc (.cells #[.int .i64 0, .slice none 0 0] 24)).heap[w.heap.size]? = some (.cells #[.int .i64 h, .slice p xs.length cp] 24 (0, 0)) := heap_old (World.alloc_heap_new w _)
  have m1 : ((w.alloc (.cells #[.int .i64 h, .slice p xs.length cp] 24)).alloc (.cells #[.int .i64 0, .slice none 0 0] 24)).heap[w.heap.size + 1]? = some (.cells #[.int .i64 0, .slice none 0 0] 24 (0, 0)) := by
    have := World.alloc_heap_new (w.alloc (.cells #[.int .i64 h, .slice p xs.length cp] 24)) (.cells #[.int .i64 0, .slice none 0 0] 24)
    simpa using this
  have HPL := Lib.hid (playedP_any h xs ds _ _ _ (hT.bel KB) (HU.out.keeps KB) (HV.out.keeps KB) hd)
  have HM := Lib.hid (And.intro KB (And.intro m0 m1))
  have HNZ := Lib.hid hz
  obtain ⟨E, hE⟩ : ∃ x, aftE h xs ds = x := ⟨_, rfl⟩
  obtain ⟨Hh, hHh⟩ : ∃ x, aftH h xs ds = x := ⟨_, rfl⟩
  rw [hE, hHh]
  have HE := Lib.hid hE
  have HHh := Lib.hid hHh
  clear hT m0 m1 hz hE hHh
  go_enter Tryd.func23, Tryd.ntmps23
  go_wp2_with fail
  refine HPL.out.mono ?_
  rintro e w1 ⟨hP, hB1⟩
  obtain ⟨pt, S, p4, n4, c4, rfl, hn4, _, hS4⟩ := hP.one
  have HS4 := Lib.hid hS4
  have K1 : Free.Bel ((w.alloc (.cells #[.int .i64 h, .slice p xs.length cp] 24)).alloc (.cells #[.int .i64 0, .slice none 0 0] 24)) (w1.alloc (.cells (arrV S) 109)) := bt hB1 (belAlloc _ _)
  have hs7 : (w1.alloc (.cells (arrV S) 109)).heap[w1.heap.size]? = some (.cells (arrV S) 109 (0, 0)) := World.alloc_heap_new _ _
  have hb0 := (K1.block _ (lt_of_heap HM.out.2.1)).trans HM.out.2.1
  have hrz := (K1.block _ (lt_of_heap HM.out.2.2)).trans HM.out.2.2
  have b0 := cell_of_heap (o := 0) hb0 rfl
  have b1 := cell_of_heap (o := 1) hb0 rfl
  have b2 := frozen_of_heap (o := 1) hb0
  have z0 := cell_of_heap (o := 0) hrz rfl
  have z1 := cell_of_heap (o := 1) hrz rfl
  have z2 := frozen_of_heap (o := 0) hrz
  have z3 := frozen_of_heap (o := 1) hrz
  have HBW := Lib.hid (bt KB K1)
  have HRZ := Lib.hid hrz
  have HB0 := Lib.hid hb0
  have HS7 := Lib.hid hs7
  have HZ2 := Lib.hid (And.intro (two_stores (.int .i64 0) (.slice none 0 0) z0 z1) hn4)
  obtain ⟨c, hc0⟩ : ∃ c, askE h xs ds = c := ⟨_, rfl⟩
  have hc := Lib.hid hc0
  rw [hc0]
  clear hS4 hP HPL hB1 hn4 hs7 hb0 hrz hc0 K1 KB HM
  by_cases h0 : c = 0
  · have hask := hc.out
    rw [h0] at hask
    have hho : hotOut h xs ds = heatR 0 xs ds := if_pos hask
    by_cases hh : n4 = 0
    · have hem : (heatR 0 xs ds).isEmpty = true := by rw [List.isEmpty_iff]; exact List.eq_nil_of_length_eq_zero (by rw [← hho, ← HZ2.out.2]; exact hh)
      have hE : aftE h xs ds = 0 := by rw [aftE, if_pos hask, if_pos hem]
      have hH : aftH h xs ds = h := if_pos hE
      have HL : Hid (aftL h xs ds = endR xs ds) := if_pos hE
      have hwv := askE_zero.1 hask
      have HX4 := Lib.hid (watchB_iff.1 hwv.1).2.1
      obtain rfl : S = waits (endR xs ds) := HS4.out hask
      obtain rfl : E = 0 := HE.out.symm.trans hE
      obtain rfl : Hh = h := HHh.out.symm.trans hH
      subst h0 hh
      obtain ⟨zs, hzs⟩ : ∃ x, endR xs ds = x := ⟨_, rfl⟩
      have hzl : zs.length = xs.length := by rw [← hzs]; exact endR_length _ _
      have hkey : Hid (∀ k (h1 : k < xs.length) (h2 : k < zs.length), zs[k] = (xs[k].1, xs[k].2.1, waits zs k)) := by
        intro k h1 h2
        have h3 := endR_get xs ds k
        rw [hzs, List.getElem?_eq_getElem h2, List.getElem?_eq_getElem h1] at h3
        simp only [Option.map_some, Option.some.injEq] at h3
        have h4 := runW_keys xs[k] ds
        rw [← h3] at h4
        exact Prod.ext h4.1 (Prod.ext h4.2 (by rw [waits_lt zs k h2]))
      rw [hzs] at HL HS7 HBW HRZ HB0 b0 b1 b2 z0 z1 z2 z3 ⊢
      have HZS := Lib.hid hzs
      have HZL := Lib.hid hzl
      clear hem hE hH hwv hask hho hzs HS4 HZ2 hzl
      go_wp2_with fail
      generalize (w1.alloc _) = wa at *
      refine (clone_any xs _ wa (HU.out.keeps HBW.out) HNZ.out (by have := HX4.out; omega)).mono ?_
      rintro e w2 ⟨v2, rfl, hr2, hB2⟩
      obtain ⟨p2, c2, rfl⟩ := row_slice hr2
      have d0 := keepsB hB2 b0
      have d1 := keepsB hB2 b1
      have d2 := frozB hB2 b1 b2
      have hi : ∀ o, o = w2.setCell ⟨w.heap.size, 1, none⟩ (.slice p2 xs.length c2) → Below w.heap.size w o ∧ o.heap[w.heap.size]? = some (.cells #[.int .i64 Hh, .slice p2 xs.length c2] 24 (0, 0)) ∧ o.heap[w.heap.size + 1]? = some (.cells #[.int .i64 0, .slice none 0 0] 24 (0, 0)) ∧ o.heap[w1.heap.size]? = some (.cells (arrV (waits zs)) 109 (0, 0)) ∧ o.ownsRow wa.heap.size 47 3 (.slice p2 xs.length c2) xs.length (cellsR xs) := by
        intro o ho
        subst ho
        have hlt1 := lt_of_heap HS7.out
        have hlt2 := lt_of_heap HRZ.out
        have hw1 : w.heap.size ≠ w1.heap.size := by
          intro e
          have h9 := HS7.out
          have h8 := HB0.out
          rw [e, h9] at h8
          cases h8
        refine ⟨(show Below w.heap.size w w2 from bt HBW.out hB2).setCell (by simp) _, ?_, heap_other ((hB2.block _ hlt2).trans HRZ.out) (by simp), heap_other ((hB2.block _ hlt1).trans HS7.out) (by simpa using Ne.symm hw1), ownsRow_setCell_below hr2 (by simp; omega) _⟩
        have := heap_setCell_same (o := 1) (.slice p2 xs.length c2) ((hB2.block _ (lt_of_heap HB0.out)).trans HB0.out)
        simpa using this
      have HIH := Lib.hid hi
      clear hi hr2 hB2 b0 b1 b2 z0 z1 z2 z3
      go_wp2_with fail
      have hi2 := HIH.out _ rfl
      have HI2 := Lib.hid hi2
      clear hi2 HIH d0 d1 d2
      have q1 := cell_of_heap (o := 1) HI2.out.2.1 rfl
      generalize w2.setCell _ _ = w3 at *
      go_wp2_with fail
      clear q1
      go_loopw [36] (fun i wr => ∃ k : Nat, k ≤ xs.length ∧ i = .int .i64 k ∧ Below w.heap.size w wr ∧ wr.heap[w.heap.size]? = some (.cells #[.int .i64 Hh, .slice p2 xs.length c2] 24 (0, 0)) ∧ wr.heap[w.heap.size + 1]? = some (.cells #[.int .i64 0, .slice none 0 0] 24 (0, 0)) ∧ wr.heap[w1.heap.size]? = some (.cells (arrV (waits zs)) 109 (0, 0)) ∧ wr.ownsRow wa.heap.size 47 3 (.slice p2 xs.length c2) xs.length (cellsR (mixW zs xs k))) (fun i _ => xs.length - (intOf i).toNat)
      case atStart => exact ⟨0, Nat.zero_le _, rfl, HI2.out.1, HI2.out.2.1, HI2.out.2.2.1, HI2.out.2.2.2.1, by simpa [mixW] using HI2.out.2.2.2.2⟩
      case round =>
        obtain ⟨k, hk, rfl, hB, hb0, hrz, hs7, hrow⟩ := hrel
        have hlw0 := lt_of_heap HRZ.out
        have hlw1 := lt_of_heap HS7.out
        by_cases hlt : k < xs.length
        · have hklt : (k : Int) < xs.length := by omega
          have hk4 : (k : Int) < 4 := by have := HX4.out; omega
          have hk5 : k < 4 := by have := HX4.out; omega
          obtain ⟨g, hg1, hg2, hg3⟩ : ∃ g, p2 = some ⟨g, 0, none⟩ ∧ wa.heap.size ≤ g ∧ g < wr.heap.size := by
            rcases hrow.2 with ⟨_, h8⟩ | ⟨g, cap, cur, h8, hb8, hg8, _⟩
            · omega
            · simp only [Value.slice.injEq] at h8
              exact ⟨g, h8.1, hb8, lt_of_heap hg8⟩
          subst hg1
          have HALL := Lib.hid (And.intro hB (And.intro hb0 (And.intro hrz (And.intro hs7 hrow))))
          have e1 := cell_of_heap (o := 1) hb0 rfl
          have e2 := cell_of_heap (o := k) hs7 (arrV_get _ k hk5)
          clear hB hb0 hrz hs7 hrow
          go_wp2_with fail
          have hF : ∀ W, RS g (RowIs wa.heap.size 47 (.slice (some ⟨g, 0, none⟩) xs.length c2) xs.length (cellsR (mixW zs xs (k + 1)))) wr.drew W → (W.cell? ⟨w.heap.size, 1, none⟩ = some (.slice (some ⟨g, 0, none⟩) xs.length c2) ∧ W.cell? ⟨w1.heap.size, k, none⟩ = some (.int .i64 (waits zs k))) ∧ (W.ownsRow wa.heap.size 47 3 (.slice (some ⟨g, 0, none⟩) xs.length c2) xs.length (cellsR (mixW zs xs k)) ∨ RowIs wa.heap.size 47 (.slice (some ⟨g, 0, none⟩) xs.length c2) xs.length (cellsR (mixW zs xs (k + 1))) W) := fun W hW => by
            refine ⟨⟨hW.bx.cell (show wr.drew.cell? _ = _ from e1) (by simp; omega), hW.bx.cell (show wr.drew.cell? _ = _ from e2) (by simp; omega)⟩, ?_⟩
            rcases hW.now with e | e
            · exact .inl (bel_row (show wr.drew.ownsRow _ _ _ _ _ _ from HALL.out.2.2.2.2) (hW.bx.bel e))
            · exact .inr e
          refine Free.wp_free (R := RS g (RowIs wa.heap.size 47 (.slice (some ⟨g, 0, none⟩) xs.length c2) xs.length (cellsR (mixW zs xs (k + 1))))) (by kernel_rfl) (by kernel_rfl) (RS.refl _ _) (RS.trans RowIs.kept) ?_
          refine Free.Chain.ex ?_ [] [2] (by kernel_rfl) (by kernel_rfl) rfl (RS.refl _ _) ?_ ?_
          rotate_left
          · (intro ev W hb hR hO hD; have hS := hF W hR; obtain ⟨hb1, hb2, hb3⟩ := hb; simp only [Free.AllDeps, Free.AllOuts, Free.At, al1, al2, al3, al4, al5, and_true] at hO hD; obtain ⟨hS, hS2⟩ := hS; go_simp; rfl)
          simp only [an1, an2]
          refine Free.Chain.ex ?_ [(0, 39)] [] (by kernel_rfl) (by kernel_rfl) rfl (RS.refl _ _) ?_ ?_
          rotate_left
          · (intro ev W hb hR hO hD; have hS := hF W hR; obtain ⟨hb1, hb2, hb3⟩ := hb; simp only [Free.AllDeps, Free.AllOuts, Free.At, al1, al2, al3, al4, al5, and_true] at hO hD; obtain ⟨hS, hS2⟩ := hS; go_simp; rfl)
          simp only [an1, an2]
          refine Free.Chain.ex ?_ [] [10] (by kernel_rfl) (by kernel_rfl) rfl (RS.refl _ _) ?_ ?_
          rotate_left
          · (intro ev W hb hR hO hD; have hS := hF W hR; obtain ⟨hb1, hb2, hb3⟩ := hb; simp only [Free.AllDeps, Free.AllOuts, Free.At, al1, al2, al3, al4, al5, and_true] at hO hD; obtain ⟨hS, hS2⟩ := hS; go_simp; rfl)
          simp only [an1, an2]
          refine Free.Chain.ex ?_ [] [10] (by kernel_rfl) (by kernel_rfl) rfl (RS.refl _ _) ?_ ?_
          rotate_left
          · (intro ev W hb hR hO hD; have hS := hF W hR; obtain ⟨hb1, hb2, hb3⟩ := hb; simp only [Free.AllDeps, Free.AllOuts, Free.At, al1, al2, al3, al4, al5, and_true] at hO hD; obtain ⟨hS, hS2⟩ := hS; go_simp; rfl)
          simp only [an1, an2]
          refine Free.Chain.ex ?_ [(3, 42)] [7] (by kernel_rfl) (by kernel_rfl) rfl (RS.refl _ _) ?_ ?_
          rotate_left
          · (intro ev W hb hR hO hD; have hS := hF W hR; obtain ⟨hb1, hb2, hb3⟩ := hb; simp only [Free.AllDeps, Free.AllOuts, Free.At, al1, al2, al3, al4, al5, and_true] at hO hD; obtain ⟨hS, hS2⟩ := hS; go_simp; rfl)
          simp only [an1, an2]
          refine Free.Chain.ex ?_ [(4, 43)] [] (by kernel_rfl) (by kernel_rfl) rfl (RS.refl _ _) ?_ ?_
          rotate_left
          · (intro ev W hb hR hO hD; have hS := hF W hR; obtain ⟨hb1, hb2, hb3⟩ := hb; simp only [Free.AllDeps, Free.AllOuts, Free.At, al1, al2, al3, al4, al5, and_true] at hO hD; obtain ⟨hS, hS2⟩ := hS; go_simp; rfl)
          simp only [an1, an2]
          refine Free.Chain.ex ?_ [(1, 40), (2, 41), (0, 39), (1, 40), (2, 41), (3, 42), (4, 43), (5, 44)] [] (by kernel_rfl) (by kernel_rfl) rfl (RS.refl _ _) ?_ ?_
          rotate_left
          · (intro ev W hb hR hO hD; have hS := hF W hR; obtain ⟨hb1, hb2, hb3⟩ := hb; simp only [Free.AllDeps, Free.AllOuts, Free.At, al1, al2, al3, al4, al5, and_true] at hO hD; obtain ⟨hS, hS2⟩ := hS; go_simp; rfl)
          simp only [an1, an2]
          refine Free.Chain.ex ?_ [(6, 45), (0, 39), (1, 40), (2, 41), (3, 42), (4, 43), (5, 44)] [] (by kernel_rfl) (by kernel_rfl) rfl (RS.refl _ _) ?_ ?_
          rotate_left
          · (intro ev W hb hR hO hD; have hS := hF W hR; obtain ⟨hb1, hb2, hb3⟩ := hb; simp only [Free.AllDeps, Free.AllOuts, Free.At, al1, al2, al3, al4, al5, and_true] at hO hD; obtain ⟨hS, hS2⟩ := hS; go_simp; rfl)
          simp only [an1, an2]
          refine Free.Chain.pr (fun _ w1 => RowIs wa.heap.size 47 (.slice (some ⟨g, 0, none⟩) xs.length c2) xs.length (cellsR (mixW zs xs (k + 1))) w1) [(7, 46), (5, 44), (0, 39), (1, 40), (2, 41), (3, 42), (4, 43), (5, 44)] [] (by kernel_rfl) (by kernel_rfl) rfl (RS.stable RowIs.kept) ?_ ?_
          · (intro ev W hb hR hO hD; have hS := hF W hR; obtain ⟨hb1, hb2, hb3⟩ := hb; simp only [Free.AllDeps, Free.AllOuts, Free.At, al1, al2, al3, al4, al5, and_true] at hO hD; obtain ⟨hS, hS2⟩ := hS; have hml := mixW_length HZL.out (Nat.le_of_lt hlt); have hml2 := mixW_length HZL.out (show k + 1 ≤ xs.length from hlt); have hkm : k < (mixW zs xs k).length := (by omega); have hkm2 : k < (mixW zs xs (k + 1)).length := (by omega); have hke := hkey.out k hlt (by have := HZL.out; omega); have hph : RowIs wa.heap.size 47 (.slice (some ⟨g, 0, none⟩) xs.length c2) xs.length (cellsR (mixW zs xs (k + 1))) (W.setCell ⟨g, k * 3 + 2, none⟩ (.int .i64 (waits zs k))) ∧ W.cell? ⟨g, k * 3 + 2, none⟩ ≠ none ∧ W.frozen? ⟨g, k * 3 + 2, none⟩ = false := Or.elim hS2 (fun h9 => (by have h8 := rick_store h9 k hkm (waits zs k); rw [mixW_get HZL.out hlt hkm, ← hke, mixW_step HZL.out hlt] at h8; exact ⟨h8, by rw [(rick_row h9 hml k hkm).2.2.1]; simp, (rick_row h9 hml k hkm).2.2.2⟩)) (fun h9 => (by have h8 := rick_store h9 k hkm2 (waits zs k); rw [(mixW_set HZL.out hlt hkm2).1, hke] at h8; simp only at h8; rw [← hke, (mixW_set HZL.out hlt hkm2).2] at h8; exact ⟨h8, by rw [(rick_row h9 hml2 k hkm2).2.2.1]; simp, (rick_row h9 hml2 k hkm2).2.2.2⟩)); obtain ⟨hp1, hp2, hp3⟩ := hph; obtain ⟨v9, hv9⟩ := Option.ne_none_iff_exists'.1 hp2; go_simp; exact ⟨⟨BX.set, .inr hp1⟩, hp1⟩)
          simp only [an1, an2]
          intro ys w' hR hV
          simp only [Free.AllV, Free.At, List.length_cons, List.length_nil, Nat.reduceAdd, List.getElem?_cons_succ, List.getElem?_cons_zero, true_and] at hV
          simp only [Free.putsFrom, Act.put, Nat.zero_add, Nat.reduceAdd, hV, List.setIfInBounds_toArray, List.set_cons_succ, List.set_cons_zero]
          have HPH : Hid (RowIs wa.heap.size 47 (.slice (some ⟨g, 0, none⟩) xs.length c2) xs.length (cellsR (mixW zs xs (k + 1))) w') := hV.2
          have HBX := Lib.hid hR.bx
          clear hR hV hF e1 e2
          go_wp2_with fail
          go_roundw
          case rel => exact ⟨k + 1, by omega, by go_num, BX.below HALL.out.1.drew HBX.out HALL.out.1.size (by have := HALL.out.1.size; omega), (HBX.out.block _ (by have := lt_of_heap HALL.out.2.1; exact this) (by omega)).trans HALL.out.2.1, (HBX.out.block _ (by have := lt_of_heap HALL.out.2.2.1; exact this) (by omega)).trans HALL.out.2.2.1, (HBX.out.block _ (by have := lt_of_heap HALL.out.2.2.2.1; exact this) (by omega)).trans HALL.out.2.2.2.1, HPH.out⟩
          case measure => simp [intOf]; omega
        · obtain rfl : k = xs.length := by omega
          have hmx : mixW zs xs xs.length = zs := by simp [mixW, List.take_of_length_le (Nat.le_of_eq HZL.out)]
          rw [hmx] at hrow
          have e0 := cell_of_heap (o := 0) hb0 rfl
          have e1 := cell_of_heap (o := 1) hb0 rfl
          have z0 := cell_of_heap (o := 0) hrz rfl
          have z1 := cell_of_heap (o := 1) hrz rfl
          have z2 := frozen_of_heap (o := 0) hrz
          have z3 := frozen_of_heap (o := 1) hrz
          have HROW := Lib.hid hrow
          have HB9 := Lib.hid hB
          have hlw2 : w.heap.size + 1 < wa.heap.size := hlw0
          clear hrow hmx hb0 hrz hs7 hB
          go_wp2_with fail
          have hst := two_stores (.int .i64 Hh) (.slice p2 xs.length c2) z0 z1
          exact bodyPost_ret (v := .tuple #[.agg #[.int .i64 Hh, .slice p2 xs.length c2], .int .i64 0]) (by simp [results, Tryd.results23, go_sem, hst]) rfl ⟨⟨_, rfl, by
            rw [HL.out, HZL.out]
            exact row_mono (ownsRow_setCell_below (ownsRow_setCell_below HROW.out (by simp; omega) _) (by simp; omega) _) (by omega)⟩, (HB9.out.setCell (by simp) _).setCell (by simp) _⟩
    · have hem : ¬ (heatR 0 xs ds).isEmpty = true := by rw [List.isEmpty_iff, ← hho]; intro e; rw [e] at HZ2; exact hh HZ2.out.2
      have hE : aftE h xs ds = 73 := by rw [aftE, if_pos hask, if_neg hem]
      have hH : aftH h xs ds = 0 := if_neg (by rw [hE]; decide)
      have HL : Hid (aftL h xs ds = []) := if_neg (by rw [hE]; decide)
      have g0 : decide (0 < (n4 : Int)) = true := decide_eq_true (by omega)
      have g1 : 0 < n4 := by omega
      obtain rfl : E = 73 := HE.out.symm.trans hE
      obtain rfl : Hh = 0 := HHh.out.symm.trans hH
      subst h0
      clear hem hE hH hask hho hh
      go_wp2_with fail
      have hst := HZ2.out.1
      exact bodyPost_ret (v := .tuple #[.agg #[.int .i64 0, .slice none 0 0], .int .i64 73]) (by simp [results, Tryd.results23, go_sem, hst]) rfl ⟨⟨_, rfl, by rw [HL.out]; simpa [cellsR] using World.ownsRow_nil _ _ _ _⟩, (HBW.out.setCell (by simp) _).setCell (by simp) _⟩
  · have g0 : (c == 0) = false := by simp [h0]
    have hE : aftE h xs ds = c := by rw [aftE, if_neg (by rw [hc.out]; exact h0)]; exact hc.out
    have hH : aftH h xs ds = 0 := by rw [aftH, if_neg (by rw [hE]; exact h0)]
    have HL : Hid (aftL h xs ds = []) := if_neg (by rw [hE]; exact h0)
    obtain rfl : E = c := HE.out.symm.trans hE
    obtain rfl : Hh = 0 := HHh.out.symm.trans hH
    clear hE hH
    go_wp2_with fail
    have hst := HZ2.out.1
    exact bodyPost_ret (v := .tuple #[.agg #[.int .i64 0, .slice none 0 0], .int .i64 E]) (by simp [results, Tryd.results23, go_sem, hst]) rfl ⟨⟨_, rfl, by rw [HL.out]; simpa [cellsR] using World.ownsRow_nil _ _ _ _⟩, (HBW.out.setCell (by simp) _).setCell (by simp) _⟩
end Go.Proofs.YtknpglgpkkhhiaaDoor

/- The program's Repeats. -/
namespace Go.Proofs.YtknpglgpkkhhiaaDoor
set_option linter.unusedSimpArgs false
set_option linter.unusedVariables false
open Go.RowKit Go.Proofs.YtknpglgpkkhhiaaDoor.Free2

set_option maxRecDepth 100000 in
theorem eqS (S : Nat → Int) (W : World) : (binOp .eql 109 (stV S) (stV S)).run Tryd.prog W = .ok (.bool true) W := by
  rw [run_eql_struct]
  have hi : ∀ (i : Nat), i < 4 → ∀ W : World, (Op.equalIn 9999 3 (.int .i64 (S i)) (.int .i64 (S i))).run Tryd.prog W = .ok true W := fun i _ W => by
    rw [show (9999 : Nat) = 9998 + 1 from rfl, run_equalIn_int W 9998 3 .i64 .i64 _ _ Tryd.underlying3]; simp
  have hsz : ∀ W : World, (Go.sizeOf 3).run Tryd.prog W = .ok 1 W := fun W => by kernel_rfl
  have h0 := hi 0 (by omega)
  have h1 := hi 1 (by omega)
  have h2 := hi 2 (by omega)
  have h3 := hi 3 (by omega)
  rw [show (10000 : Nat) = 9999 + 1 from rfl]
  unfold Op.equalIn
  simp [go_sem, hsz, Std.Legacy.Range.forIn_eq_forIn_range', List.range', h0, h1, h2, h3]
theorem rep_cases {h : Int} {xs : List Rk} {ds : List (List Int)} (ha : askE h xs ds = 0) : repE h xs ds = (if ds.isEmpty = true then 72 else 0) ∧ (ds.isEmpty = true → repB h xs ds = false) ∧ (ds.isEmpty = false → repB h xs ds = repP xs ds) := by
  have hw := askE_zero.1 ha
  refine ⟨by rw [repE, if_pos ha], fun he => ?_, fun he => ?_⟩
  · rw [repB, repE, if_pos ha, if_pos he]; rfl
  · rw [repB, repE, if_pos ha, if_neg (by rw [he]; simp), repP_eq (watchB_ok hw.1) (by intro e; rw [e] at he; cases he)]
    rfl

set_option maxRecDepth 100000 in
set_option maxHeartbeats 16000000 in
theorem repP_v (h : Int) (xs : List Rk) (ds : List (List Int)) (u v : Value) (w : World) (hT : TabR w) (hu : RL xs u w) (hz : NZ u) (hv : DL ds v w) (hd : ds.length ≤ 1000) (c : Int) (r : Bool) (hcr : Hid (repE h xs ds = c ∧ repB h xs ds = r)) :
    Calls Tryd.prog 25 #[.agg #[.int .i64 h, u], v] w fun e w' => e = .returned (.tuple #[.bool r, .int .i64 c]) ∧ Below w.heap.size w w' := by
  have HU := Lib.hid hu
  have HV := Lib.hid hv
  obtain ⟨p, cp, rfl, _, _⟩ := hu
  obtain ⟨q, cq, rfl, hm, hq⟩ := hv
  unfold maxLen at hm
  have HQ := Lib.hid hq
  have KB : Free.Bel w (w.alloc (.cells #[.int .i64 h, .slice p xs.length cp] 24)) := belAlloc _ _
  have FA : ∀ W, Free.Bel (w.alloc (.cells #[.int .i64 h, .slice p xs.length cp] 24)) W → W.cell? ⟨w.heap.size, 0, none⟩ = some (.int .i64 h) ∧ W.cell? ⟨w.heap.size, 1, none⟩ = some (.slice p xs.length cp) := fun W hW => ⟨keepsB hW (by simp [go_sem]), keepsB hW (by simp [go_sem])⟩
  have KE : Free.Bel (w.alloc (.cells #[.int .i64 h, .slice p xs.length cp] 24)) (w.alloc (.cells #[.int .i64 h, .slice p xs.length cp] 24)) := Free.Bel.refl _
  have HPL := Lib.hid (playedP_any h xs ds _ _ _ (hT.bel KB) (HU.out.keeps KB) (HV.out.keeps KB) hd)
  have HTAB := Lib.hid hT
  have HNZ := Lib.hid hz
  clear hT hq hz
  go_enter Tryd.func25, Tryd.ntmps25
  go_wp2_with fail
  go_step3
  go_wp2_with fail
  refine HPL.out.mono ?_
  rintro e w1 ⟨hP, hB1⟩
  obtain ⟨pt, S, p4, n4, c4, rfl, hn4, _, hS4⟩ := hP.one
  have HS4 := Lib.hid hS4
  have K1 : Free.Bel (w.alloc (.cells #[.int .i64 h, .slice p xs.length cp] 24)) (w1.alloc (.cells (arrV S) 109)) := bt hB1 (belAlloc _ _)
  have hs7 : (w1.alloc (.cells (arrV S) 109)).heap[w1.heap.size]? = some (.cells (arrV S) 109 (0, 0)) := World.alloc_heap_new _ _
  have HBW := Lib.hid (bt KB K1)
  have HS7 := Lib.hid hs7
  have HN4 := Lib.hid hn4
  obtain ⟨a, ha0⟩ : ∃ a, askE h xs ds = a := ⟨_, rfl⟩
  have ha := Lib.hid ha0
  rw [ha0]
  clear hS4 hP HPL hB1 hn4 hs7 ha0 KE
  by_cases h0 : a = 0
  · have hask := ha.out
    rw [h0] at hask
    have hho : hotOut h xs ds = heatR 0 xs ds := if_pos hask
    have hrc := rep_cases hask
    by_cases hem : ds.length = 0
    · obtain rfl : ds = [] := List.eq_nil_of_length_eq_zero hem
      obtain rfl : c = 72 := by rw [← hcr.out.1, hrc.1]; rfl
      obtain rfl : r = false := by rw [← hcr.out.2, hrc.2.1 rfl]
      subst h0
      clear hask hho hrc hem
      go_wp2_with fail
      rw [Exit.noGoto_ret]
      simp +zetaDelta only [Exit.inBlock, Exit.then]
      exact bodyPost_ret (v := .tuple #[.bool false, .int .i64 72]) (by simp [results, Tryd.results25, go_sem]) rfl ⟨rfl, HBW.out⟩
    · have hem2 : ds.isEmpty = false := by
        cases h9 : ds.isEmpty
        · rfl
        · rw [List.isEmpty_iff] at h9; rw [h9] at hem; exact absurd rfl hem
      obtain rfl : c = 0 := by rw [← hcr.out.1, hrc.1, hem2]; rfl
      have hr2 : repP xs ds = r := by rw [← hcr.out.2, hrc.2.2 hem2]
      have g5 : ((ds.length : Int) == 0) = false := by simp; intro e; rw [e] at hem; exact hem rfl
      have g6 : ¬ ds = [] := by intro e; rw [e] at hem; exact hem rfl
      by_cases hh : n4 = 0
      · have hem3 : (heatR 0 xs ds).isEmpty = true := by rw [List.isEmpty_iff]; exact List.eq_nil_of_length_eq_zero (by rw [← hho, ← HN4.out]; exact hh)
        have hr3 : Hid ((allTurned xs ds && (heatR 0 (endR xs ds) ds).isEmpty) = r) := by show _ = _; rw [← hr2, repP, hem3, Bool.true_and]
        have hE : aftE h xs ds = 0 := by rw [aftE, if_pos hask, if_pos hem3]
        have hH : aftH h xs ds = h := if_pos hE
        have HL : aftL h xs ds = endR xs ds := if_pos hE
        have hwv := askE_zero.1 hask
        have HWV := Lib.hid hwv
        have HX4 := Lib.hid (watchB_iff.1 hwv.1).2.1
        obtain rfl : S = waits (endR xs ds) := HS4.out hask
        have HAFT := Lib.hid (aftP_any h xs ds _ _ _ (HTAB.out.bel HBW.out) (HU.out.keeps HBW.out) HNZ.out (HV.out.keeps HBW.out) hd)
        rw [hE, hH, HL] at HAFT
        have HEM3 := Lib.hid hem3
        subst h0 hh
        clear hask hho hrc hem hem2 hem3 hE hH HL hwv hr2
        go_wp2_with fail
        refine HAFT.out.mono ?_
        rintro e w2 ⟨⟨v2, rfl, hr2⟩, hB2⟩
        obtain ⟨p2, c2, rfl⟩ := row_slice hr2
        obtain ⟨zs, hzs⟩ : ∃ x, endR xs ds = x := ⟨_, rfl⟩
        have hzl : zs.length = xs.length := by rw [← hzs]; exact endR_length _ _
        rw [hzs] at hr2 HBW HS7 hB2 hr3 ⊢
        rw [hzl] at hr2 ⊢
        have HZS := Lib.hid hzs
        have HZL := Lib.hid hzl
        have K2 : Free.Bel w w2 := bt HBW.out hB2
        have KC0 : Free.Bel w (w2.alloc (.cells #[.int .i64 h, .slice p2 xs.length c2] 24)) := bt K2 (belAlloc _ _)
        have hrow := bel_row hr2 (belAlloc w2 (.cells #[.int .i64 h, .slice p2 xs.length c2] 24))
        have hs7 := (bt hB2 (belAlloc w2 (.cells #[.int .i64 h, .slice p2 xs.length c2] 24))).block _ (lt_of_heap HS7.out) |>.trans HS7.out
        have ht10 : (w2.alloc (.cells #[.int .i64 h, .slice p2 xs.length c2] 24)).heap[w2.heap.size]? = some (.cells #[.int .i64 h, .slice p2 xs.length c2] 24 (0, 0)) := World.alloc_heap_new _ _
        have FB : ∀ W, Free.Bel (w2.alloc (.cells #[.int .i64 h, .slice p2 xs.length c2] 24)) W → W.cell? ⟨w.heap.size, 0, none⟩ = some (.int .i64 h) ∧ W.cell? ⟨w.heap.size, 1, none⟩ = some (.slice p xs.length cp) ∧ W.cell? ⟨w2.heap.size, 0, none⟩ = some (.int .i64 h) ∧ W.cell? ⟨w2.heap.size, 1, none⟩ = some (.slice p2 xs.length c2) ∧ W.cell? ⟨w1.heap.size, 0, none⟩ = some (.int .i64 (waits zs 0)) ∧ W.cell? ⟨w1.heap.size, 1, none⟩ = some (.int .i64 (waits zs 1)) ∧ W.cell? ⟨w1.heap.size, 2, none⟩ = some (.int .i64 (waits zs 2)) ∧ W.cell? ⟨w1.heap.size, 3, none⟩ = some (.int .i64 (waits zs 3)) := fun W hW =>
          ⟨(FA W (bt K1 (by rw [hzs]; exact bt hB2 (bt (belAlloc _ _) hW)))).1, (FA W (bt K1 (by rw [hzs]; exact bt hB2 (bt (belAlloc _ _) hW)))).2, keepsB hW (cell_of_heap ht10 rfl), keepsB hW (cell_of_heap ht10 rfl), keepsB hW (cell_of_heap hs7 rfl), keepsB hW (cell_of_heap hs7 rfl), keepsB hW (cell_of_heap hs7 rfl), keepsB hW (cell_of_heap hs7 rfl)⟩
        have KE := Free.Bel.refl (w2.alloc (.cells #[.int .i64 h, .slice p2 xs.length c2] 24))
        have HROW := Lib.hid hrow
        have HKC := Lib.hid KC0
        clear FA hrow KC0 hs7 ht10 hr2 hzs hzl K2 HAFT HNZ K1 KB hB2
        go_wp2_with fail
        go_step3
        go_wp2_with fail
        generalize (w2.alloc _) = wC at *
        go_loopw [50] (fun i wr => ∃ k : Nat, k ≤ xs.length ∧ i = .int .i64 k ∧ Hid (allTurned (xs.take k) ds = true) ∧ Free.Bel wC wr) (fun i _ => xs.length - (intOf i).toNat)
        case atStart => exact ⟨0, Nat.zero_le _, rfl, rfl, KE⟩
        case round =>
          obtain ⟨k, hk, rfl, hall, hB⟩ := hrel
          obtain ⟨wo, hwo⟩ : ∃ x, x = wr := ⟨_, rfl⟩
          subst hwo
          have hww : Free.Bel w wo := bt HKC.out hB
          have hx4 := HX4.out
          by_cases hlt : k < xs.length
          · obtain ⟨p9, c9, hp9, _, hq9⟩ := HU.out
            obtain ⟨b, off, hb, hcc⟩ := hq9 (by intro e; simp [e] at hlt)
            simp only [Value.slice.injEq] at hp9
            obtain ⟨rfl, hl0, rfl⟩ := hp9
            subst hb
            obtain ⟨d1, d2, d3⟩ := hcc k hlt
            have e1 := keepsB hww d1
            have e2 := keepsB hww d2
            have e3 := keepsB hww d3
            have hklt : (k : Int) < xs.length := by omega
            have hat : Hid (allTurned (xs.take (k + 1)) ds = (allTurned (xs.take k) ds && ds.any fun d => d.contains xs[k].1)) := by
              show _ = _
              rw [take_step xs k hlt]
              simp only [allTurned, List.all_append, List.all_cons, List.all_nil, Bool.and_true]
            have hmem : Hid (xs[k] ∈ xs) := List.getElem_mem hlt
            have KA : Free.Bel wo (wo.alloc (.cells #[.int .i64 xs[k].1, .int .i64 xs[k].2.1, .int .i64 xs[k].2.2] 47)) := belAlloc _ _
            clear hl0 hcc hq9 d1 d2 d3
            generalize xs[k] = x at *
            obtain ⟨x1, x2, x3⟩ := x
            have FX : ∀ W, Free.Bel (wo.alloc (.cells #[.int .i64 x1, .int .i64 x2, .int .i64 x3] 47)) W → W.cell? ⟨wo.heap.size, 0, none⟩ = some (.int .i64 x1) := fun W hW => keepsB hW (by simp [go_sem])
            go_wp2_with fail
            have HKA := Lib.hid KA
            have KE2 := Free.Bel.refl (wo.alloc (.cells #[.int .i64 x1, .int .i64 x2, .int .i64 x3] 47))
            clear KA e1 e2 e3 KE
            generalize (wo.alloc (.cells #[.int .i64 x1, .int .i64 x2, .int .i64 x3] 47)) = wa at *
            go_loopw [56] (fun i wr => ∃ j : Nat, j ≤ ds.length ∧ i = .int .i64 j ∧ Hid (((ds.take j).any fun d => d.contains x1) = false) ∧ Free.Bel wa wr) (fun i _ => ds.length - (intOf i).toNat)
            case atStart => exact ⟨0, Nat.zero_le _, rfl, rfl, KE2⟩
            case round =>
              obtain ⟨j, hj, rfl, hno, hB2⟩ := hrel
              have hw2 : Free.Bel w wr := bt hww (bt HKA.out hB2)
              by_cases hlt2 : j < ds.length
              · obtain ⟨b2, off2, rfl, hcp⟩ := HQ.out (by intro e; simp [e] at hlt2)
                obtain ⟨u1, d1, i1⟩ := hcp j hlt2
                have e1 := keepsB hw2 d1
                have i2 := i1.keeps hw2
                have hjlt : (j : Int) < ds.length := by omega
                have hst : Hid (((ds.take (j + 1)).any fun d => d.contains x1) = (((ds.take j).any fun d => d.contains x1) || ds[j].contains x1)) := by
                  show _ = _
                  rw [take_step ds j hlt2]
                  simp only [List.any_append, List.any_cons, List.any_nil, Bool.or_false]
                have hmem2 : Hid (ds[j] ∈ ds) := List.getElem_mem hlt2
                have HCON := Lib.hid (contI7_any ds[j] x1 u1 wr i2)
                obtain ⟨q1, c1, rfl, _, _⟩ := i2
                clear hcp d1 i1
                generalize ds[j] = day at *
                obtain ⟨qc, hqc⟩ : ∃ y, day.contains x1 = y := ⟨_, rfl⟩
                rw [hqc] at hst HCON
                have HQC := Lib.hid hqc
                clear hqc
                cases qc
                · go_wp2_with fail
                  refine HCON.out.mono ?_
                  rintro e w5 ⟨rfl, hB5⟩
                  go_wp2_with fail
                  go_roundw
                  case rel => exact ⟨j + 1, by omega, by go_num, by show _ = _; rw [hst.out, hno.out]; rfl, bt hB2 hB5⟩
                  case measure => simp [intOf]; omega
                · go_wp2_with fail
                  refine HCON.out.mono ?_
                  rintro e w5 ⟨rfl, hB5⟩
                  go_wp2_with fail
                  go_roundw
                  case rel => exact ⟨k + 1, by omega, by go_num, by
                    show _ = _
                    rw [hat.out, hall.out, Bool.true_and, List.any_eq_true]
                    exact ⟨day, hmem2.out, HQC.out⟩, bt hB (bt HKA.out (bt hB2 hB5))⟩
                  case measure => simp [intOf]; omega
              · obtain rfl : j = ds.length := by omega
                have hf : r = false := by
                  rw [← hr3.out]
                  have h9 := hno.out
                  rw [List.take_length] at h9
                  have h8 : allTurned xs ds = false := by
                    rw [allTurned, List.all_eq_false]
                    exact ⟨_, hmem.out, by rw [h9]; simp⟩
                  rw [h8, Bool.false_and]
                subst hf
                go_wp2_with fail
                rw [Exit.noGoto_ret]
                simp +zetaDelta only [Exit.inBlock, Exit.then]
                exact bodyPost_ret (v := .tuple #[.bool false, .int .i64 0]) (by simp [results, Tryd.results25, go_sem]) rfl ⟨rfl, hw2⟩
          · obtain rfl : k = xs.length := by omega
            rw [List.take_length] at hall
            have HALL := Lib.hid hall
            have hcool := (heat_empty xs ds).1 HEM3.out
            have hwz : watchB h zs = true := by rw [← HZS.out]; exact watchB_end HWV.out.1 hcool
            have hvz : validB h zs ds = true := by rw [← HZS.out, validB_ids (endR_ids xs ds)]; exact HWV.out.2
            have haz : askE h zs ds = 0 := askE_zero.2 ⟨hwz, hvz⟩
            have hez : endR zs ds = zs := by rw [← HZS.out]; exact end_end hall
            have hhz : hotOut h zs ds = heatR 0 zs ds := if_pos haz
            have hrlz := RL.of_row HZL.out (by have := HX4.out; unfold maxLen; omega) (bel_row HROW.out hB)
            have HPL2 := Lib.hid (playedP_any h zs ds _ _ wo (HTAB.out.bel hww) hrlz (HV.out.keeps hww) hd)
            have HZ9 := Lib.hid (And.intro haz (And.intro hez hhz))
            have hrr : Hid ((heatR 0 zs ds).isEmpty = r) := by show _ = _; rw [← hr3.out, hall, Bool.true_and]
            clear hcool hwz hvz haz hez hhz hrlz hall
            go_wp2_with fail
            refine HPL2.out.mono ?_
            rintro e w6 ⟨hP, hB6⟩
            obtain ⟨pt2, S2, p5, n5, c5, rfl, hn5, _, hS5⟩ := hP.one
            obtain rfl : S2 = waits zs := (hS5 HZ9.out.1).trans (by rw [HZ9.out.2.1])
            rw [HZ9.out.1]
            have hn6 : n5 = (heatR 0 zs ds).length := by rw [hn5, HZ9.out.2.2]
            have HN6 := Lib.hid hn6
            have KF : Free.Bel wC (w6.alloc (.cells (arrV (waits zs)) 109)) := bt hB (bt hB6 (belAlloc _ _))
            have HKF := Lib.hid (bt HKC.out KF)
            have y0 : (w6.alloc (.cells (arrV (waits zs)) 109)).heap[w6.heap.size]? = some (.cells (arrV (waits zs)) 109 (0, 0)) := World.alloc_heap_new _ _
            obtain ⟨y1, y2, y3, y4, _, _, _, _⟩ := cells4 y0
            clear hn5 hn6 hS5 hP y0 hB6
            have heq := eqS (waits zs)
            have hgd : Tryd.prog.eqGuardType Tryd.prog.depth 109 = false := by kernel_rfl
            by_cases h5 : n5 = 0
            · have hrt : r = true := by
                rw [← hrr.out, List.isEmpty_iff]
                exact List.eq_nil_of_length_eq_zero (by rw [← HN6.out]; exact h5)
              subst hrt h5
              go_wp2_with fail
              rw [Exit.noGoto_ret]
              simp +zetaDelta only [Exit.inBlock, Exit.then]
              exact bodyPost_ret (v := .tuple #[.bool true, .int .i64 0]) (by simp [results, Tryd.results25, go_sem]) rfl ⟨rfl, HKF.out⟩
            · have hrt : r = false := by
                rw [← hrr.out]
                cases h9 : (heatR 0 zs ds).isEmpty
                · rfl
                · rw [List.isEmpty_iff] at h9; rw [h9] at HN6; exact absurd HN6.out h5
              subst hrt
              have g9 : ((n5 : Int) == 0) = false := by simp; exact h5
              go_wp2_with fail
              rw [Exit.noGoto_ret]
              simp +zetaDelta only [Exit.inBlock, Exit.then]
              exact bodyPost_ret (v := .tuple #[.bool false, .int .i64 0]) (by simp [results, Tryd.results25, go_sem]) rfl ⟨rfl, HKF.out⟩
      · have hem3 : (heatR 0 xs ds).isEmpty = false := by
          cases h9 : (heatR 0 xs ds).isEmpty
          · rfl
          · rw [List.isEmpty_iff, ← hho] at h9; rw [h9] at HN4; exact absurd HN4.out hh
        obtain rfl : r = false := by rw [← hr2, repP, hem3, Bool.false_and]
        have g7 : decide (0 < (n4 : Int)) = true := decide_eq_true (by omega)
        have g8 : 0 < n4 := by omega
        subst h0
        clear hask hho hrc hem hem2 hem3 hh hr2
        go_wp2_with fail
        rw [Exit.noGoto_ret]
        simp +zetaDelta only [Exit.inBlock, Exit.then]
        exact bodyPost_ret (v := .tuple #[.bool false, .int .i64 0]) (by simp [results, Tryd.results25, go_sem]) rfl ⟨rfl, HBW.out⟩
  · have g0 : (a == 0) = false := by simp [h0]
    obtain rfl : c = a := by rw [← hcr.out.1, repE, if_neg (by rw [ha.out]; exact h0)]; exact ha.out
    obtain rfl : r = false := by rw [← hcr.out.2, repB, hcr.out.1, decide_eq_false h0, Bool.false_and]
    clear hcr
    go_wp2_with fail
    rw [Exit.noGoto_ret]
    simp +zetaDelta only [Exit.inBlock, Exit.then]
    exact bodyPost_ret (v := .tuple #[.bool false, .int .i64 c]) (by simp [results, Tryd.results25, go_sem]) rfl ⟨rfl, HBW.out⟩
end Go.Proofs.YtknpglgpkkhhiaaDoor

/- The reference's TwinDays. -/
namespace Go.Proofs.YtknpglgpkkhhiaaDoor
set_option linter.unusedSimpArgs false
set_option linter.unusedVariables false
open Go.RowKit Go.Proofs.YtknpglgpkkhhiaaDoor.Free2

theorem T.infoSl : (Tryd.prog.info? 58).map (fun i => (i.zero, i.size, i.bytes)) = some (some (.slice none 0 0), 1, 24) := by kernel_rfl
theorem IL.rowK {xs : List Int} {u v v' : Value} {a b : World} (h : IL xs u a) (ho : xs ≠ [] → OffS v u) (hR : RowK v a v' b) : IL xs u b := by
  obtain ⟨p, cap, rfl, h2, h3⟩ := h
  refine ⟨p, cap, rfl, h2, fun hx => ?_⟩
  obtain ⟨g, off, rfl, h5⟩ := h3 hx
  have ho2 : Off v g := ho hx ⟨g, off, none⟩ _ _ rfl
  exact ⟨g, off, rfl, fun k hk => hR.cell ho2 (h5 k hk)⟩
/-- Slices of these lists, none of which lies in the row v. -/
def Elts (v : Value) (ds : List (List Int)) (us : List Value) (W : World) : Prop := us.length = ds.length ∧ ∀ i (h : i < ds.length) (h' : i < us.length), IL ds[i] us[i] W ∧ (ds[i] ≠ [] → ∀ a n c, us[i] = .slice (some a) n c → Off v a.block ∧ a.block < W.heap.size)
theorem Elts.rowK {v v' : Value} {ds : List (List Int)} {us : List Value} {a b : World} (h : Elts v ds us a) (hR : RowK v a v' b) : Elts v' ds us b :=
  ⟨h.1, fun i h1 h2 => by
    obtain ⟨h3, h4⟩ := h.2 i h1 h2
    refine ⟨h3.rowK (fun hx a' n c he => (h4 hx a' n c he).1) hR, fun hx a' n c he => ?_⟩
    obtain ⟨o1, o2⟩ := h4 hx a' n c he
    exact ⟨hR.off o1 o2, Nat.lt_of_lt_of_le o2 hR.size⟩⟩
theorem Elts.snoc {v : Value} {ds : List (List Int)} {us : List Value} {W : World} {d : List Int} {u : Value} (h : Elts v ds us W) (hd : IL d u W) (ho : d ≠ [] → ∀ a n c, u = .slice (some a) n c → Off v a.block ∧ a.block < W.heap.size) : Elts v (ds ++ [d]) (us ++ [u]) W :=
  ⟨by simp [h.1], fun i h1 h2 => by
    by_cases hi : i < ds.length
    · have hi2 : i < us.length := by rw [h.1]; exact hi
      simp only [List.getElem_append_left hi, List.getElem_append_left hi2]
      exact h.2 i hi hi2
    · have e : i = ds.length := by simp at h1; omega
      subst e
      have e2 : us.length = ds.length := h.1
      simp only [List.getElem_append_right (Nat.le_refl _), Nat.sub_self, List.getElem_cons_zero]
      have : (us ++ [u])[ds.length] = u := by simp [List.getElem_append, e2]
      rw [this]
      exact ⟨hd, ho⟩⟩
theorem Elts.dl {v : Value} {ds : List (List Int)} {us : List Value} {W : World} {base : Nat} {e : TypeId} (h : Elts v ds us W) (hr : W.ownsRow base e 1 v ds.length us) (hm : ds.length ≤ maxLen) : DL ds v W := by
  rcases hr.2 with ⟨rfl, h0⟩ | ⟨g, cap, cur, rfl, _, hg, _⟩
  · have : ds = [] := List.eq_nil_of_length_eq_zero h0
    subst this
    exact DL.nil W
  · refine ⟨_, cap, rfl, hm, fun _ => ⟨g, 0, rfl, fun k hk => ?_⟩⟩
    have hk2 : k < us.length := by rw [h.1]; exact hk
    have hc := hr.cells (g := g) rfl k us[k] (by simp [hk2])
    exact ⟨us[k], by simpa [Addr.add_lit] using hc, (h.2 k hk hk2).1⟩

set_option maxRecDepth 100000 in
set_option maxHeartbeats 8000000 in
theorem twinD_any (ds : List (List Int)) (v : Value) (w : World) (hv : DZ ds v w) (hl : ds.length ≤ 80) (h10 : ∀ d ∈ ds, d.length ≤ 10) :
    Calls Tryd.prog 20 #[v] w fun e w' => (∃ v', e = .returned v' ∧ DL ds v' w') ∧ Below w.heap.size w w' := by
  obtain ⟨q, cq, rfl, hm, _, hq⟩ := hv
  unfold maxLen at hm
  have HC := Lib.hid hq
  have H10 := Lib.hid h10
  obtain ⟨i0, hi0, hz0, hz1, hz2⟩ := info_parts T.infoInt
  have HZ := Lib.hid (And.intro hi0 (And.intro hz0 (And.intro hz1 hz2)))
  obtain ⟨i1, hi1, hy0, hy1, hy2⟩ := info_parts T.infoSl
  have HY := Lib.hid (And.intro hi1 (And.intro hy0 (And.intro hy1 hy2)))
  clear hi0 hz0 hz1 hz2 hi1 hy0 hy1 hy2 hq h10
  go_enter Tryd.func20, Tryd.ntmps20
  go_wp2_with fail
  go_loopw [8, 3] (fun i v wr => ∃ (k : Nat) (us : List Value), k ≤ ds.length ∧ i = .int .i64 k ∧ Below w.heap.size w wr ∧ Elts v (ds.take k) us wr ∧ wr.ownsRow w.heap.size 58 1 v k us) (fun i _ _ => ds.length - (intOf i).toNat)
  case atStart => exact ⟨0, [], Nat.zero_le _, rfl, Below.refl _ _, ⟨rfl, fun i h => by simp at h⟩, World.ownsRow_nil _ _ _ _⟩
  case round =>
    obtain ⟨k, us, hk, rfl, hB, hel, hrow⟩ := hrel
    by_cases hlt : k < ds.length
    · have hx : ds ≠ [] := by intro e; simp [e] at hlt
      obtain ⟨b, off, rfl, hcp⟩ := HC.out hx
      obtain ⟨u1, d1, il1, nz1⟩ := hcp k hlt
      have e1 := keepsB hB d1
      have il2 := il1.keeps hB
      have hklt : (k : Int) < ds.length := by omega
      have htk : Hid (ds.take (k + 1) = ds.take k ++ [ds[k]]) := by show _ = _; rw [List.take_add_one, List.getElem?_eq_getElem hlt]; rfl
      have hd10 := H10.out ds[k] (List.getElem_mem hlt)
      clear hcp d1 il1
      generalize ds[k] = day at *
      obtain ⟨p1, c1, rfl, _, hq1⟩ := il2
      have HNEW : Hid (∀ W, Below wr.heap.size wr W → ∀ ad, p1 = some ad → ∀ j u, (day.map (Value.int .i64))[j]? = some u → W.cell? (ad.add j) = some u) := by
        intro W hW ad hpa j u hj
        have hjl : j < day.length := by
          have := (List.getElem?_eq_some_iff.1 hj).1
          simpa using this
        obtain ⟨b2, off2, rfl, hc2⟩ := hq1 (by intro e; simp [e] at hjl)
        cases hpa
        rw [addE]
        have := keepsB hW (hc2 j hjl)
        rw [this]
        simpa [hjl] using hj
      have HNIL : Hid (p1 = none → day.length = 0 ∧ c1 = 0) := fun e => nz1 _ _ (by rw [e])
      have HEL := Lib.hid hel
      have how : wr.ownsRow w.heap.size 58 1 _ _ _ := hrow
      have hszw : w.heap.size ≤ wr.heap.size := hB.size
      have HB := Lib.hid hB
      have KA : Free.Bel wr (wr.alloc (.cells #[] 3)) := belAlloc _ _
      clear hq1 nz1 hel hrow hB
      go_wp2_with (first | (at_builtin; (refine wpList_append_full rfl _ _ 58 rfl wr.heap.size 3 i0 (.int .i64 0) 1 8 Tryd.underlying58 HZ.out.1 HZ.out.2.1 HZ.out.2.2.1 HZ.out.2.2.2 rfl (by decide) wr.heap.size 0 #[] rfl (World.alloc_heap_new _ _) rfl (Nat.le_refl _) p1 day.length c1 (day.map (Value.int .i64)) rfl (by simp) (HNEW.out _ KA) HNIL.out (by unfold maxLen; omega) (by omega) ?_); intro v9 w9 ho8 hb9; have ho9 : w9.ownsRow wr.heap.size 3 1 v9 day.length (day.map (Value.int .i64)) := (by simpa using ho8); clear ho8; obtain ⟨p9, c9, hv9⟩ := row_slice ho9; subst hv9) | (at_builtin; go_loud (refine wpList_append_row rfl _ _ 25 rfl w.heap.size 58 i1 (.slice none 0 0) 1 24 Tryd.underlying25 HY.out.1 HY.out.2.1 HY.out.2.2.1 HY.out.2.2.2 rfl (by decide) _ _ _ rfl (bel_row (bel_row (bel_row how KA) hb9) (belAlloc _ _)) ⟨w9.heap.size, 0, none⟩ 1 1 [.slice p9 (day.length) c9] (by first | rfl | simp) (by decide) rfl (cell_one_new _ _ _) (fun x hx => by simp at hx; subst hx; rfl) (by unfold maxLen; omega) (by omega) (by have := KA.size; have := hb9.size; simp at *; omega) ?_); intro v8 w8 hown8 hgrow8) | fail)
      have K9 : Free.Bel wr (w9.alloc (.cells #[.slice p9 (day.length) c9] 58)) := bt KA (bt hb9 (belAlloc _ _))
      have hday : IL day (.slice p9 (day.length) c9) (w9.alloc (.cells #[.slice p9 (day.length) c9] 58)) := by
        have h8 := bel_row ho9 (belAlloc w9 (.cells #[.slice p9 (day.length) c9] 58))
        exact IL.of_own (by unfold maxLen; omega) h8
      have hoff : day ≠ [] → ∀ a n c, Value.slice p9 (day.length) c9 = .slice (some a) n c → Off u3 a.block ∧ a.block < (w9.alloc (.cells #[.slice p9 (day.length) c9] 58)).heap.size := by
        intro hx a n c he
        rcases ho9.2 with ⟨h7, _⟩ | ⟨g, cap, cur, h7, hg, hgg, _⟩
        · rw [h7] at he; cases he
        · rw [h7] at he; cases he
          exact ⟨off_new how hg, by have := lt_of_heap hgg; simp; omega⟩
      have hel9 := (Elts.snoc (HEL.out.rowK (RowK.of_bel K9)) hday hoff).rowK hgrow8
      rw [← htk.out] at hel9
      have HE9 := Lib.hid hel9
      have HBB := Lib.hid (HB.out.trans ((K9.mono hszw).trans (hgrow8.below (bel_row how K9) (Nat.le_trans hszw K9.size))))
      have HO8 := Lib.hid hown8
      clear hel9 hoff hday K9 hown8 hgrow8 ho9 hb9 KA
      go_roundw
      case rel => exact ⟨k + 1, us ++ [.slice p9 (day.length) c9], by omega, by go_num, HBB.out, HE9.out, HO8.out⟩
      case measure => simp [intOf]; omega
    · obtain rfl : k = ds.length := by omega
      rw [List.take_length] at hel
      have HD := Lib.hid (hel.dl hrow (by unfold maxLen; omega))
      clear hel hrow
      go_wp2_with fail
      go_ret
      exact ⟨⟨_, rfl, HD.out⟩, hB⟩
end Go.Proofs.YtknpglgpkkhhiaaDoor

/- The reference's comparison of heats. -/
namespace Go.Proofs.YtknpglgpkkhhiaaDoor
set_option linter.unusedSimpArgs false
set_option linter.unusedVariables false
open Go.RowKit

set_option maxRecDepth 100000 in
set_option maxHeartbeats 2000000 in
theorem sameH_any (xs : List (Int × Int)) (u v : Value) (w : World) (hu : PL xs u w) (hv : PL xs v w) :
    Calls Tryd.prog 27 #[u, v] w fun e w' => e = .returned (.bool true) ∧ Below w.heap.size w w' := by
  obtain ⟨p, cp, rfl, hm, hp⟩ := hu
  obtain ⟨q, cq, rfl, _, hq⟩ := hv
  unfold maxLen at hm
  have HP := Lib.hid hp
  have HQ := Lib.hid hq
  clear hp hq
  go_enter Tryd.func27, Tryd.ntmps27
  go_wp2_with fail
  go_loopw [5] (fun i wr => ∃ k : Nat, k ≤ xs.length ∧ i = .int .i64 k ∧ Below w.heap.size w wr) (fun i _ => xs.length - (intOf i).toNat)
  case atStart => exact ⟨0, Nat.zero_le _, rfl, Below.refl _ _⟩
  case round =>
    obtain ⟨k, hk, rfl, hB⟩ := hrel
    by_cases hlt : k < xs.length
    · have hx : xs ≠ [] := by intro e; simp [e] at hlt
      obtain ⟨b, off, rfl, hcp⟩ := HP.out hx
      obtain ⟨b2, off2, rfl, hcq⟩ := HQ.out hx
      have e1 := keepsB hB (hcp k hlt).1
      have e2 := keepsB hB (hcp k hlt).2
      have e3 := keepsB hB (hcq k hlt).1
      have e4 := keepsB hB (hcq k hlt).2
      have HC := Lib.hid (And.intro e1 (And.intro e2 (And.intro e3 e4)))
      have hklt : (k : Int) < xs.length := by omega
      generalize xs[k] = x at *
      obtain ⟨x1, x2⟩ := x
      clear hcp hcq
      go_wp2_with fail
      have hF : ∀ W, Free.Bel wr.drew W → W.cell? ⟨b, off + k * 2, none⟩ = some (.int .i64 x1) ∧ W.cell? ⟨b, off + k * 2 + 1, none⟩ = some (.int .i64 x2) ∧ W.cell? ⟨b2, off2 + k * 2, none⟩ = some (.int .i64 x1) ∧ W.cell? ⟨b2, off2 + k * 2 + 1, none⟩ = some (.int .i64 x2) :=
        fun W hW => ⟨keepsB (Free.Bel.first hW) HC.out.1, keepsB (Free.Bel.first hW) HC.out.2.1, keepsB (Free.Bel.first hW) HC.out.2.2.1, keepsB (Free.Bel.first hW) HC.out.2.2.2⟩
      refine Free.wp_free (R := Free.Bel) (by kernel_rfl) (by kernel_rfl) Free.Bel.refl Free.Bel.trans ?_
      refine Free.Chain.ex ?_ [] [0] (by kernel_rfl) (by kernel_rfl) rfl Free.Bel.refl ?_ ?_
      rotate_left 2
      simp only [an1, an2]
      refine Free.Chain.ex ?_ [] [5] (by kernel_rfl) (by kernel_rfl) rfl Free.Bel.refl ?_ ?_
      rotate_left 2
      simp only [an1, an2]
      refine Free.Chain.ex ?_ [(0, 17), (1, 18)] [] (by kernel_rfl) (by kernel_rfl) rfl Free.Bel.refl ?_ ?_
      rotate_left 2
      simp only [an1, an2]
      refine Free.Chain.ex ?_ [(2, 19)] [] (by kernel_rfl) (by kernel_rfl) rfl Free.Bel.refl ?_ ?_
      rotate_left 2
      simp only [an1, an2]
      refine Free.Chain.ex ?_ [] [1] (by kernel_rfl) (by kernel_rfl) rfl Free.Bel.refl ?_ ?_
      rotate_left 2
      simp only [an1, an2]
      refine Free.Chain.ex ?_ [] [5] (by kernel_rfl) (by kernel_rfl) rfl Free.Bel.refl ?_ ?_
      rotate_left 2
      simp only [an1, an2]
      refine Free.Chain.ex ?_ [(4, 21), (5, 22)] [] (by kernel_rfl) (by kernel_rfl) rfl Free.Bel.refl ?_ ?_
      rotate_left 2
      simp only [an1, an2]
      refine Free.Chain.ex ?_ [(6, 23)] [] (by kernel_rfl) (by kernel_rfl) rfl Free.Bel.refl ?_ ?_
      rotate_left 2
      simp only [an1, an2]
      refine Free.Chain.ex ?_ [(3, 20), (7, 24)] [] (by kernel_rfl) (by kernel_rfl) rfl Free.Bel.refl ?_ ?_
      rotate_left 2
      simp only [an1, an2]
      rotate_left
      iterate 9 (rotate_left; intro ev W hb hR hO hD; have hS := hF W hR; obtain ⟨hb1, hb2, hb3⟩ := hb; simp only [Free.AllDeps, Free.AllOuts, Free.At, al1, al2, al3, al4, al5, and_true] at hO hD; go_simp; rfl)
      intro xs w' hR hV
      simp only [Free.AllV, Free.At, List.length_cons, List.length_nil, Nat.reduceAdd, List.getElem?_cons_succ, List.getElem?_cons_zero, true_and] at hV
      simp only [Free.putsFrom, Act.put, hV, List.setIfInBounds_toArray, List.set_cons_succ, List.set_cons_zero]
      have HB2 := Lib.hid (hB.trans ((Free.Bel.first hR).mono hB.size))
      clear hR hV hF
      go_wp2_with fail
      go_roundw
      case rel => exact ⟨k + 1, by omega, by go_num, HB2.out⟩
      case measure => simp [intOf]; omega
    · obtain rfl : k = xs.length := by omega
      go_wp2_with fail
      go_ret
      exact ⟨rfl, hB⟩
end Go.Proofs.YtknpglgpkkhhiaaDoor

/- Whether days are too many. -/
namespace Go.Proofs.YtknpglgpkkhhiaaDoor
set_option linter.unusedSimpArgs false
set_option linter.unusedVariables false
open Go.RowKit

def greatD (ds : List (List Int)) : Bool := decide (80 < ds.length) || ds.any (fun l => decide (10 < l.length))
set_option maxRecDepth 100000 in
set_option maxHeartbeats 2000000 in
theorem greatD_any (ds : List (List Int)) (v : Value) (w : World) (hv : DL ds v w) (r : Bool) (hr : Hid (greatD ds = r)) :
    Calls Tryd.prog 18 #[v] w fun e w' => e = .returned (.bool r) ∧ Below w.heap.size w w' := by
  obtain ⟨p, cp, rfl, hm, hp⟩ := hv
  unfold maxLen at hm
  have HP := Lib.hid hp
  clear hp
  by_cases h80 : 80 < ds.length
  · have k0 : decide (80 < (ds.length : Int)) = true := decide_eq_true (by omega)
    obtain rfl : r = true := by rw [← hr.out, greatD, decide_eq_true h80, Bool.true_or]
    go_enter Tryd.func18, Tryd.ntmps18
    go_wp2_with fail
    go_ret
    exact ⟨rfl, Below.refl _ _⟩
  · have k0 : decide (80 < (ds.length : Int)) = false := decide_eq_false (by omega)
    have hr2 : Hid (ds.any (fun l => decide (10 < l.length)) = r) := by show _ = _; rw [← hr.out, greatD, decide_eq_false h80, Bool.false_or]
    go_enter Tryd.func18, Tryd.ntmps18
    go_wp2_with fail
    go_loopw [10] (fun i wr => ∃ k : Nat, k ≤ ds.length ∧ i = .int .i64 k ∧ Hid ((ds.drop k).any (fun l => decide (10 < l.length)) = r) ∧ Below w.heap.size w wr) (fun i _ => ds.length - (intOf i).toNat)
    case atStart => exact ⟨0, Nat.zero_le _, rfl, hr2, Below.refl _ _⟩
    case round =>
      obtain ⟨k, hk, rfl, hrest, hB⟩ := hrel
      by_cases hlt : k < ds.length
      · have hx : ds ≠ [] := by intro e; simp [e] at hlt
        obtain ⟨b, off, rfl, hcp⟩ := HP.out hx
        obtain ⟨u1, e1, i1⟩ := hcp k hlt
        have c1 := keepsB hB e1
        have hklt : (k : Int) < ds.length := by omega
        obtain ⟨p1, cc, rfl, _, _⟩ := i1
        have hst : Hid ((decide (10 < ds[k].length) || (ds.drop (k + 1)).any (fun l => decide (10 < l.length))) = r) := by
          show _ = _
          rw [← hrest.out, List.drop_eq_getElem_cons hlt, List.any_cons]
        clear hcp e1 hx
        generalize ds[k] = L at *
        by_cases h10 : 10 < L.length
        · have k1 : decide (10 < (L.length : Int)) = true := decide_eq_true (by omega)
          obtain rfl : r = true := by rw [← hst.out, decide_eq_true h10, Bool.true_or]
          go_wp2_with fail
          go_ret
          exact ⟨rfl, hB⟩
        · have k1 : decide (10 < (L.length : Int)) = false := decide_eq_false (by omega)
          go_wp2_with fail
          go_roundw
          case rel => exact ⟨k + 1, by omega, by go_num, by show _ = _; rw [← hst.out, decide_eq_false h10, Bool.false_or], hB⟩
          case measure => simp [intOf]; omega
      · obtain rfl : k = ds.length := by omega
        obtain rfl : r = false := by rw [← hrest.out, List.drop_length]; rfl
        go_wp2_with fail
        go_ret
        exact ⟨rfl, hB⟩
end Go.Proofs.YtknpglgpkkhhiaaDoor

