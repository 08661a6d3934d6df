/- The program's Hot, After. -/
import Derived.Test.YtknpglgpkkhhiaaDoorB7
import Derived.WalkMore
import Derived.Laws.StructEq
import Derived.IntWalk
import Derived.Test.YtknpglgpkkhhiaaDoorCards
import Derived.Test.YtknpglgpkkhhiaaDoorTie
import Derived.ProofKit
import Derived.LaidMore
import Derived.Stop.Joined
import Derived.Laws.IdiomArrays
import Derived.Lib.SmallJoins
import Derived.Deep.DeepHandedRow
namespace Go.Proofs.YtknpglgpkkhhiaaDoor
set_option linter.unusedSimpArgs false
set_option linter.unusedVariables false
open Go.RowKit Go.Proofs.YtknpglgpkkhhiaaDoor.Free2

/-- What the program's played returns, in one form. -/
theorem PlayedP.one {h : Int} {xs : List Rk} {ds : List (List Int)} {e : Ending} {w' : World} (H : PlayedP h xs ds e w') :
    ∃ (pt : Option Addr) (S : Nat → Int) (p4 : Option Addr) (n4 c4 : Nat), e = .returned (.tuple #[.pointer pt, stV S, .slice p4 n4 c4, .int .i64 (askE h xs ds)]) ∧ n4 = (hotOut h xs ds).length ∧ PL (hotOut h xs ds) (.slice p4 n4 c4) w' ∧ (askE h xs ds = 0 → S = waits (endR xs ds)) := by
  rcases H with ⟨h1, S, rfl⟩ | ⟨h1, h2, S, rfl⟩ | ⟨h1, h2, yb, v, rfl, hpl⟩
  · have ha : askE h xs ds = 70 := by simp [askE, h1]
    have hh : hotOut h xs ds = [] := by rw [hotOut, if_neg (by rw [ha]; decide)]
    rw [ha, hh]
    exact ⟨_, S, none, 0, 0, rfl, rfl, PL.nil _, fun h => by simp at h⟩
  · have ha : askE h xs ds = 72 := by simp [askE, h1, h2]
    have hh : hotOut h xs ds = [] := by rw [hotOut, if_neg (by rw [ha]; decide)]
    rw [ha, hh]
    exact ⟨_, S, none, 0, 0, rfl, rfl, PL.nil _, fun h => by simp at h⟩
  · have ha : askE h xs ds = 0 := by simp [askE, h1, h2]
    have hh : hotOut h xs ds = heatR 0 xs ds := by rw [hotOut, if_pos ha]
    rw [ha, hh]
    obtain ⟨p4, c4, rfl, h5, h6⟩ := hpl
    exact ⟨_, _, p4, _, c4, rfl, rfl, ⟨p4, c4, rfl, h5, h6⟩, fun _ => rfl⟩

set_option maxRecDepth 100000 in
set_option maxHeartbeats 4000000 in
theorem hotP_any (h : Int) (xs : List Rk) (ds : List (List Int)) (u v : Value) (w : World) (hT : TabR w) (hu : RL xs u w) (hv : DL ds v w) (hd : ds.length ≤ 1000) :
    Calls Tryd.prog 21 #[.agg #[.int .i64 h, u], v] w fun e w' => (∃ v2, e = .returned (.tuple #[v2, .int .i64 (askE h xs ds)]) ∧ PL (hotOut h xs ds) v2 w') ∧ Below w.heap.size w w' := by
  have HU := Lib.hid hu
  have HV := Lib.hid hv
  obtain ⟨p, cp, rfl, _, _⟩ := hu
  obtain ⟨q, cq, rfl, hm, _⟩ := hv
  have KB : Free.Bel w (w.alloc (.cells #[.int .i64 h, .slice p xs.length cp] 24)) := belAlloc _ _
  have HPL := Lib.hid (playedP_any h xs ds _ _ _ (hT.bel KB) (HU.out.keeps KB) (HV.out.keeps KB) hd)
  obtain ⟨c, hc0⟩ : ∃ c, askE h xs ds = c := ⟨_, rfl⟩
  obtain ⟨H9, hH9⟩ : ∃ x, hotOut h xs ds = x := ⟨_, rfl⟩
  rw [hc0, hH9]
  have HC := Lib.hid (And.intro hc0 hH9)
  clear hT hc0 hH9
  go_enter Tryd.func21, Tryd.ntmps21
  go_wp2_with fail
  refine HPL.out.mono ?_
  rintro e w1 ⟨hP, hB1⟩
  obtain ⟨pt, S, p4, n4, c4, rfl, hn4, hpl, _⟩ := hP.one
  rw [HC.out.1]
  rw [HC.out.2] at hpl hn4
  have HP4 := Lib.hid hpl
  clear hpl hn4 HPL hP
  go_wp2_with fail
  exact bodyPost_ret (v := .tuple #[.slice p4 n4 c4, .int .i64 c]) (by simp [results, Tryd.results21, go_sem]) rfl ⟨⟨_, rfl, HP4.out.keeps (belAlloc _ _)⟩, bt KB (bt hB1 (belAlloc _ _))⟩

def RowIs (base : Nat) (e : TypeId) (v : Value) (n : Nat) (xs : List Value) (W : World) : Prop := W.ownsRow base e 3 v n xs
theorem RowIs.kept {base : Nat} {e : TypeId} {v : Value} {n : Nat} {xs : List Value} : ∀ a b : World, Below a.heap.size a b → RowIs base e v n xs a → RowIs base e v n xs b := fun a b h k => bel_row k h
/-- The first k ricks with what they have waited behind, the rest ahead. -/
def mixW (zs xs : List Rk) (k : Nat) : List Rk := zs.take k ++ xs.drop k
theorem mixW_get {zs xs : List Rk} (hl : zs.length = xs.length) {k : Nat} (h : k < xs.length) (h' : k < (mixW zs xs k).length) : (mixW zs xs k)[k] = xs[k] := by
  have hm : min k zs.length = k := Nat.min_eq_left (by omega)
  simp [mixW, List.getElem_append, hm]
theorem mixW_length {zs xs : List Rk} (hl : zs.length = xs.length) {k : Nat} (h : k ≤ xs.length) : (mixW zs xs k).length = xs.length := by simp [mixW]; omega
theorem mixW_step {zs xs : List Rk} (hl : zs.length = xs.length) {k : Nat} (h : k < xs.length) : (mixW zs xs k).set k (zs[k]'(by omega)) = mixW zs xs (k + 1) := by
  unfold mixW
  rw [take_step zs k (by omega), List.append_assoc, List.set_append_right _ _ (by simp; omega)]
  have hm : min k zs.length = k := Nat.min_eq_left (by omega)
  rw [List.length_take, hm, Nat.sub_self, List.drop_eq_getElem_cons h]
  rfl
theorem mixW_set {zs xs : List Rk} (hl : zs.length = xs.length) {k : Nat} (h : k < xs.length) (h' : k < (mixW zs xs (k + 1)).length) : (mixW zs xs (k + 1))[k] = zs[k]'(by omega) ∧ (mixW zs xs (k + 1)).set k (zs[k]'(by omega)) = mixW zs xs (k + 1) := by
  have hm : min (k + 1) zs.length = k + 1 := Nat.min_eq_left (by omega)
  have hg : (mixW zs xs (k + 1))[k] = zs[k]'(by omega) := by simp [mixW, List.getElem_append, hm]
  exact ⟨hg, by rw [← hg]; exact List.set_getElem_self _⟩

set_option maxRecDepth 100000 in
set_option maxHeartbeats 16000000 in
theorem aftP_any (h : Int) (xs : List Rk) (ds : List (List Int)) (u v : Value) (w : World) (hT : TabR w) (hu : RL xs u w) (hz : NZ u) (hv : DL ds v w) (hd : ds.length ≤ 1000) :
    Calls Tryd.prog 23 #[.agg #[.int .i64 h, u], v] w fun e w' => (∃ v2, e = .returned (.tuple #[.agg #[.int .i64 (aftH h xs ds), v2], .int .i64 (aftE h xs ds)]) ∧ w'.ownsRow w.heap.size 47 3 v2 (aftL h xs ds).length (cellsR (aftL h xs ds))) ∧ Below w.heap.size w w' := by
  have HU := Lib.hid hu
  have HV := Lib.hid hv
  obtain ⟨p, cp, rfl, _, _⟩ := hu
  obtain ⟨q, cq, rfl, hm, _⟩ := hv
  have KB : Free.Bel w ((w.alloc (.cells #[.int .i64 h, .slice p xs.length cp] 24)).alloc (.cells #[.int .i64 0, .slice none 0 0] 24)) := Bel.allocT (Bel.allocT (Free.Bel.refl _) _) _
  have m0 : ((w.alloc (.cells #[.int .i64 h, .slice p xs.length cp] 24)).alloc (.cells #[.int .i64 0, .slice none 0 0] 24)).heap[w.heap.size]? = some (.cells #[.int .i64 h, .slice p xs.length cp] 24 (0, 0)) := heap_old (World.alloc_heap_new w _)
  have m1 : ((w.alloc (.cells #[.int .i64 h, .slice p xs.length cp] 24)).alloc (.cells #[.int .i64 0, .slice none 0 0] 24)).heap[w.heap.size + 1]? = some (.cells #[.int .i64 0, .slice none 0 0] 24 (0, 0)) := by
    have := World.alloc_heap_new (w.alloc (.cells #[.int .i64 h, .slice p xs.length cp] 24)) (.cells #[.int .i64 0, .slice none 0 0] 24)
    simpa using this
  have HPL := Lib.hid (playedP_any h xs ds _ _ _ (hT.bel KB) (HU.out.keeps KB) (HV.out.keeps KB) hd)
  have HM := Lib.hid (And.intro KB (And.intro m0 m1))
  have HNZ := Lib.hid hz
  obtain ⟨E, hE⟩ : ∃ x, aftE h xs ds = x := ⟨_, rfl⟩
  obtain ⟨Hh, hHh⟩ : ∃ x, aftH h xs ds = x := ⟨_, rfl⟩
  rw [hE, hHh]
  have HE := Lib.hid hE
  have HHh := Lib.hid hHh
  clear hT m0 m1 hz hE hHh
  go_enter Tryd.func23, Tryd.ntmps23
  go_wp2_with fail
  refine HPL.out.mono ?_
  rintro e w1 ⟨hP, hB1⟩
  obtain ⟨pt, S, p4, n4, c4, rfl, hn4, _, hS4⟩ := hP.one
  have HS4 := Lib.hid hS4
  have K1 : Free.Bel ((w.alloc (.cells #[.int .i64 h, .slice p xs.length cp] 24)).alloc (.cells #[.int .i64 0, .slice none 0 0] 24)) (w1.alloc (.cells (arrV S) 109)) := bt hB1 (belAlloc _ _)
  have hs7 : (w1.alloc (.cells (arrV S) 109)).heap[w1.heap.size]? = some (.cells (arrV S) 109 (0, 0)) := World.alloc_heap_new _ _
  have hb0 := (K1.block _ (lt_of_heap HM.out.2.1)).trans HM.out.2.1
  have hrz := (K1.block _ (lt_of_heap HM.out.2.2)).trans HM.out.2.2
  have b0 := cell_of_heap (o := 0) hb0 rfl
  have b1 := cell_of_heap (o := 1) hb0 rfl
  have b2 := frozen_of_heap (o := 1) hb0
  have z0 := cell_of_heap (o := 0) hrz rfl
  have z1 := cell_of_heap (o := 1) hrz rfl
  have z2 := frozen_of_heap (o := 0) hrz
  have z3 := frozen_of_heap (o := 1) hrz
  have HBW := Lib.hid (bt KB K1)
  have HRZ := Lib.hid hrz
  have HB0 := Lib.hid hb0
  have HS7 := Lib.hid hs7
  have HZ2 := Lib.hid (And.intro (two_stores (.int .i64 0) (.slice none 0 0) z0 z1) hn4)
  obtain ⟨c, hc0⟩ : ∃ c, askE h xs ds = c := ⟨_, rfl⟩
  have hc := Lib.hid hc0
  rw [hc0]
  clear hS4 hP HPL hB1 hn4 hs7 hb0 hrz hc0 K1 KB HM
  by_cases h0 : c = 0
  · have hask := hc.out
    rw [h0] at hask
    have hho : hotOut h xs ds = heatR 0 xs ds := if_pos hask
    by_cases hh : n4 = 0
    · have hem : (heatR 0 xs ds).isEmpty = true := by rw [List.isEmpty_iff]; exact List.eq_nil_of_length_eq_zero (by rw [← hho, ← HZ2.out.2]; exact hh)
      have hE : aftE h xs ds = 0 := by rw [aftE, if_pos hask, if_pos hem]
      have hH : aftH h xs ds = h := if_pos hE
      have HL : Hid (aftL h xs ds = endR xs ds) := if_pos hE
      have hwv := askE_zero.1 hask
      have HX4 := Lib.hid (watchB_iff.1 hwv.1).2.1
      obtain rfl : S = waits (endR xs ds) := HS4.out hask
      obtain rfl : E = 0 := HE.out.symm.trans hE
      obtain rfl : Hh = h := HHh.out.symm.trans hH
      subst h0 hh
      obtain ⟨zs, hzs⟩ : ∃ x, endR xs ds = x := ⟨_, rfl⟩
      have hzl : zs.length = xs.length := by rw [← hzs]; exact endR_length _ _
      have hkey : Hid (∀ k (h1 : k < xs.length) (h2 : k < zs.length), zs[k] = (xs[k].1, xs[k].2.1, waits zs k)) := by
        intro k h1 h2
        have h3 := endR_get xs ds k
        rw [hzs, List.getElem?_eq_getElem h2, List.getElem?_eq_getElem h1] at h3
        simp only [Option.map_some, Option.some.injEq] at h3
        have h4 := runW_keys xs[k] ds
        rw [← h3] at h4
        exact Prod.ext h4.1 (Prod.ext h4.2 (by rw [waits_lt zs k h2]))
      rw [hzs] at HL HS7 HBW HRZ HB0 b0 b1 b2 z0 z1 z2 z3 ⊢
      have HZS := Lib.hid hzs
      have HZL := Lib.hid hzl
      clear hem hE hH hwv hask hho hzs HS4 HZ2 hzl
      go_wp2_with fail
      generalize (w1.alloc _) = wa at *
      refine (clone_any xs _ wa (HU.out.keeps HBW.out) HNZ.out (by have := HX4.out; omega)).mono ?_
      rintro e w2 ⟨v2, rfl, hr2, hB2⟩
      obtain ⟨p2, c2, rfl⟩ := row_slice hr2
      have d0 := keepsB hB2 b0
      have d1 := keepsB hB2 b1
      have d2 := frozB hB2 b1 b2
      have hi : ∀ o, o = w2.setCell ⟨w.heap.size, 1, none⟩ (.slice p2 xs.length c2) → Below w.heap.size w o ∧ o.heap[w.heap.size]? = some (.cells #[.int .i64 Hh, .slice p2 xs.length c2] 24 (0, 0)) ∧ o.heap[w.heap.size + 1]? = some (.cells #[.int .i64 0, .slice none 0 0] 24 (0, 0)) ∧ o.heap[w1.heap.size]? = some (.cells (arrV (waits zs)) 109 (0, 0)) ∧ o.ownsRow wa.heap.size 47 3 (.slice p2 xs.length c2) xs.length (cellsR xs) := by
        intro o ho
        subst ho
        have hlt1 := lt_of_heap HS7.out
        have hlt2 := lt_of_heap HRZ.out
        have hw1 : w.heap.size ≠ w1.heap.size := by
          intro e
          have h9 := HS7.out
          have h8 := HB0.out
          rw [e, h9] at h8
          cases h8
        refine ⟨(show Below w.heap.size w w2 from bt HBW.out hB2).setCell (by simp) _, ?_, heap_other ((hB2.block _ hlt2).trans HRZ.out) (by simp), heap_other ((hB2.block _ hlt1).trans HS7.out) (by simpa using Ne.symm hw1), ownsRow_setCell_below hr2 (by simp; omega) _⟩
        have := heap_setCell_same (o := 1) (.slice p2 xs.length c2) ((hB2.block _ (lt_of_heap HB0.out)).trans HB0.out)
        simpa using this
      have HIH := Lib.hid hi
      clear hi hr2 hB2 b0 b1 b2 z0 z1 z2 z3
      go_wp2_with fail
      have hi2 := HIH.out _ rfl
      have HI2 := Lib.hid hi2
      clear hi2 HIH d0 d1 d2
      have q1 := cell_of_heap (o := 1) HI2.out.2.1 rfl
      generalize w2.setCell _ _ = w3 at *
      go_wp2_with fail
      clear q1
      go_loopw [36] (fun i wr => ∃ k : Nat, k ≤ xs.length ∧ i = .int .i64 k ∧ Below w.heap.size w wr ∧ wr.heap[w.heap.size]? = some (.cells #[.int .i64 Hh, .slice p2 xs.length c2] 24 (0, 0)) ∧ wr.heap[w.heap.size + 1]? = some (.cells #[.int .i64 0, .slice none 0 0] 24 (0, 0)) ∧ wr.heap[w1.heap.size]? = some (.cells (arrV (waits zs)) 109 (0, 0)) ∧ wr.ownsRow wa.heap.size 47 3 (.slice p2 xs.length c2) xs.length (cellsR (mixW zs xs k))) (fun i _ => xs.length - (intOf i).toNat)
      case atStart => exact ⟨0, Nat.zero_le _, rfl, HI2.out.1, HI2.out.2.1, HI2.out.2.2.1, HI2.out.2.2.2.1, by simpa [mixW] using HI2.out.2.2.2.2⟩
      case round =>
        obtain ⟨k, hk, rfl, hB, hb0, hrz, hs7, hrow⟩ := hrel
        have hlw0 := lt_of_heap HRZ.out
        have hlw1 := lt_of_heap HS7.out
        by_cases hlt : k < xs.length
        · have hklt : (k : Int) < xs.length := by omega
          have hk4 : (k : Int) < 4 := by have := HX4.out; omega
          have hk5 : k < 4 := by have := HX4.out; omega
          obtain ⟨g, hg1, hg2, hg3⟩ : ∃ g, p2 = some ⟨g, 0, none⟩ ∧ wa.heap.size ≤ g ∧ g < wr.heap.size := by
            rcases hrow.2 with ⟨_, h8⟩ | ⟨g, cap, cur, h8, hb8, hg8, _⟩
            · omega
            · simp only [Value.slice.injEq] at h8
              exact ⟨g, h8.1, hb8, lt_of_heap hg8⟩
          subst hg1
          have HALL := Lib.hid (And.intro hB (And.intro hb0 (And.intro hrz (And.intro hs7 hrow))))
          have e1 := cell_of_heap (o := 1) hb0 rfl
          have e2 := cell_of_heap (o := k) hs7 (arrV_get _ k hk5)
          clear hB hb0 hrz hs7 hrow
          go_wp2_with fail
          have hF : ∀ W, RS g (RowIs wa.heap.size 47 (.slice (some ⟨g, 0, none⟩) xs.length c2) xs.length (cellsR (mixW zs xs (k + 1)))) wr.drew W → (W.cell? ⟨w.heap.size, 1, none⟩ = some (.slice (some ⟨g, 0, none⟩) xs.length c2) ∧ W.cell? ⟨w1.heap.size, k, none⟩ = some (.int .i64 (waits zs k))) ∧ (W.ownsRow wa.heap.size 47 3 (.slice (some ⟨g, 0, none⟩) xs.length c2) xs.length (cellsR (mixW zs xs k)) ∨ RowIs wa.heap.size 47 (.slice (some ⟨g, 0, none⟩) xs.length c2) xs.length (cellsR (mixW zs xs (k + 1))) W) := fun W hW => by
            refine ⟨⟨hW.bx.cell (show wr.drew.cell? _ = _ from e1) (by simp; omega), hW.bx.cell (show wr.drew.cell? _ = _ from e2) (by simp; omega)⟩, ?_⟩
            rcases hW.now with e | e
            · exact .inl (bel_row (show wr.drew.ownsRow _ _ _ _ _ _ from HALL.out.2.2.2.2) (hW.bx.bel e))
            · exact .inr e
          refine Free.wp_free (R := RS g (RowIs wa.heap.size 47 (.slice (some ⟨g, 0, none⟩) xs.length c2) xs.length (cellsR (mixW zs xs (k + 1))))) (by kernel_rfl) (by kernel_rfl) (RS.refl _ _) (RS.trans RowIs.kept) ?_
          refine Free.Chain.ex ?_ [] [2] (by kernel_rfl) (by kernel_rfl) rfl (RS.refl _ _) ?_ ?_
          rotate_left
          · (intro ev W hb hR hO hD; have hS := hF W hR; obtain ⟨hb1, hb2, hb3⟩ := hb; simp only [Free.AllDeps, Free.AllOuts, Free.At, al1, al2, al3, al4, al5, and_true] at hO hD; obtain ⟨hS, hS2⟩ := hS; go_simp; rfl)
          simp only [an1, an2]
          refine Free.Chain.ex ?_ [(0, 39)] [] (by kernel_rfl) (by kernel_rfl) rfl (RS.refl _ _) ?_ ?_
          rotate_left
          · (intro ev W hb hR hO hD; have hS := hF W hR; obtain ⟨hb1, hb2, hb3⟩ := hb; simp only [Free.AllDeps, Free.AllOuts, Free.At, al1, al2, al3, al4, al5, and_true] at hO hD; obtain ⟨hS, hS2⟩ := hS; go_simp; rfl)
          simp only [an1, an2]
          refine Free.Chain.ex ?_ [] [10] (by kernel_rfl) (by kernel_rfl) rfl (RS.refl _ _) ?_ ?_
          rotate_left
          · (intro ev W hb hR hO hD; have hS := hF W hR; obtain ⟨hb1, hb2, hb3⟩ := hb; simp only [Free.AllDeps, Free.AllOuts, Free.At, al1, al2, al3, al4, al5, and_true] at hO hD; obtain ⟨hS, hS2⟩ := hS; go_simp; rfl)
          simp only [an1, an2]
          refine Free.Chain.ex ?_ [] [10] (by kernel_rfl) (by kernel_rfl) rfl (RS.refl _ _) ?_ ?_
          rotate_left
          · (intro ev W hb hR hO hD; have hS := hF W hR; obtain ⟨hb1, hb2, hb3⟩ := hb; simp only [Free.AllDeps, Free.AllOuts, Free.At, al1, al2, al3, al4, al5, and_true] at hO hD; obtain ⟨hS, hS2⟩ := hS; go_simp; rfl)
          simp only [an1, an2]
          refine Free.Chain.ex ?_ [(3, 42)] [7] (by kernel_rfl) (by kernel_rfl) rfl (RS.refl _ _) ?_ ?_
          rotate_left
          · (intro ev W hb hR hO hD; have hS := hF W hR; obtain ⟨hb1, hb2, hb3⟩ := hb; simp only [Free.AllDeps, Free.AllOuts, Free.At, al1, al2, al3, al4, al5, and_true] at hO hD; obtain ⟨hS, hS2⟩ := hS; go_simp; rfl)
          simp only [an1, an2]
          refine Free.Chain.ex ?_ [(4, 43)] [] (by kernel_rfl) (by kernel_rfl) rfl (RS.refl _ _) ?_ ?_
          rotate_left
          · (intro ev W hb hR hO hD; have hS := hF W hR; obtain ⟨hb1, hb2, hb3⟩ := hb; simp only [Free.AllDeps, Free.AllOuts, Free.At, al1, al2, al3, al4, al5, and_true] at hO hD; obtain ⟨hS, hS2⟩ := hS; go_simp; rfl)
          simp only [an1, an2]
          refine Free.Chain.ex ?_ [(1, 40), (2, 41), (0, 39), (1, 40), (2, 41), (3, 42), (4, 43), (5, 44)] [] (by kernel_rfl) (by kernel_rfl) rfl (RS.refl _ _) ?_ ?_
          rotate_left
          · (intro ev W hb hR hO hD; have hS := hF W hR; obtain ⟨hb1, hb2, hb3⟩ := hb; simp only [Free.AllDeps, Free.AllOuts, Free.At, al1, al2, al3, al4, al5, and_true] at hO hD; obtain ⟨hS, hS2⟩ := hS; go_simp; rfl)
          simp only [an1, an2]
          refine Free.Chain.ex ?_ [(6, 45), (0, 39), (1, 40), (2, 41), (3, 42), (4, 43), (5, 44)] [] (by kernel_rfl) (by kernel_rfl) rfl (RS.refl _ _) ?_ ?_
          rotate_left
          · (intro ev W hb hR hO hD; have hS := hF W hR; obtain ⟨hb1, hb2, hb3⟩ := hb; simp only [Free.AllDeps, Free.AllOuts, Free.At, al1, al2, al3, al4, al5, and_true] at hO hD; obtain ⟨hS, hS2⟩ := hS; go_simp; rfl)
          simp only [an1, an2]
          refine Free.Chain.pr (fun _ w1 => RowIs wa.heap.size 47 (.slice (some ⟨g, 0, none⟩) xs.length c2) xs.length (cellsR (mixW zs xs (k + 1))) w1) [(7, 46), (5, 44), (0, 39), (1, 40), (2, 41), (3, 42), (4, 43), (5, 44)] [] (by kernel_rfl) (by kernel_rfl) rfl (RS.stable RowIs.kept) ?_ ?_
          · (intro ev W hb hR hO hD; have hS := hF W hR; obtain ⟨hb1, hb2, hb3⟩ := hb; simp only [Free.AllDeps, Free.AllOuts, Free.At, al1, al2, al3, al4, al5, and_true] at hO hD; obtain ⟨hS, hS2⟩ := hS; have hml := mixW_length HZL.out (Nat.le_of_lt hlt); have hml2 := mixW_length HZL.out (show k + 1 ≤ xs.length from hlt); have hkm : k < (mixW zs xs k).length := (by omega); have hkm2 : k < (mixW zs xs (k + 1)).length := (by omega); have hke := hkey.out k hlt (by have := HZL.out; omega); have hph : RowIs wa.heap.size 47 (.slice (some ⟨g, 0, none⟩) xs.length c2) xs.length (cellsR (mixW zs xs (k + 1))) (W.setCell ⟨g, k * 3 + 2, none⟩ (.int .i64 (waits zs k))) ∧ W.cell? ⟨g, k * 3 + 2, none⟩ ≠ none ∧ W.frozen? ⟨g, k * 3 + 2, none⟩ = false := Or.elim hS2 (fun h9 => (by have h8 := rick_store h9 k hkm (waits zs k); rw [mixW_get HZL.out hlt hkm, ← hke, mixW_step HZL.out hlt] at h8; exact ⟨h8, by rw [(rick_row h9 hml k hkm).2.2.1]; simp, (rick_row h9 hml k hkm).2.2.2⟩)) (fun h9 => (by have h8 := rick_store h9 k hkm2 (waits zs k); rw [(mixW_set HZL.out hlt hkm2).1, hke] at h8; simp only at h8; rw [← hke, (mixW_set HZL.out hlt hkm2).2] at h8; exact ⟨h8, by rw [(rick_row h9 hml2 k hkm2).2.2.1]; simp, (rick_row h9 hml2 k hkm2).2.2.2⟩)); obtain ⟨hp1, hp2, hp3⟩ := hph; obtain ⟨v9, hv9⟩ := Option.ne_none_iff_exists'.1 hp2; go_simp; exact ⟨⟨BX.set, .inr hp1⟩, hp1⟩)
          simp only [an1, an2]
          intro ys w' hR hV
          simp only [Free.AllV, Free.At, List.length_cons, List.length_nil, Nat.reduceAdd, List.getElem?_cons_succ, List.getElem?_cons_zero, true_and] at hV
          simp only [Free.putsFrom, Act.put, Nat.zero_add, Nat.reduceAdd, hV, List.setIfInBounds_toArray, List.set_cons_succ, List.set_cons_zero]
          have HPH : Hid (RowIs wa.heap.size 47 (.slice (some ⟨g, 0, none⟩) xs.length c2) xs.length (cellsR (mixW zs xs (k + 1))) w') := hV.2
          have HBX := Lib.hid hR.bx
          clear hR hV hF e1 e2
          go_wp2_with fail
          go_roundw
          case rel => exact ⟨k + 1, by omega, by go_num, BX.below HALL.out.1.drew HBX.out HALL.out.1.size (by have := HALL.out.1.size; omega), (HBX.out.block _ (by have := lt_of_heap HALL.out.2.1; exact this) (by omega)).trans HALL.out.2.1, (HBX.out.block _ (by have := lt_of_heap HALL.out.2.2.1; exact this) (by omega)).trans HALL.out.2.2.1, (HBX.out.block _ (by have := lt_of_heap HALL.out.2.2.2.1; exact this) (by omega)).trans HALL.out.2.2.2.1, HPH.out⟩
          case measure => simp [intOf]; omega
        · obtain rfl : k = xs.length := by omega
          have hmx : mixW zs xs xs.length = zs := by simp [mixW, List.take_of_length_le (Nat.le_of_eq HZL.out)]
          rw [hmx] at hrow
          have e0 := cell_of_heap (o := 0) hb0 rfl
          have e1 := cell_of_heap (o := 1) hb0 rfl
          have z0 := cell_of_heap (o := 0) hrz rfl
          have z1 := cell_of_heap (o := 1) hrz rfl
          have z2 := frozen_of_heap (o := 0) hrz
          have z3 := frozen_of_heap (o := 1) hrz
          have HROW := Lib.hid hrow
          have HB9 := Lib.hid hB
          have hlw2 : w.heap.size + 1 < wa.heap.size := hlw0
          clear hrow hmx hb0 hrz hs7 hB
          go_wp2_with fail
          have hst := two_stores (.int .i64 Hh) (.slice p2 xs.length c2) z0 z1
          exact bodyPost_ret (v := .tuple #[.agg #[.int .i64 Hh, .slice p2 xs.length c2], .int .i64 0]) (by simp [results, Tryd.results23, go_sem, hst]) rfl ⟨⟨_, rfl, by
            rw [HL.out, HZL.out]
            exact row_mono (ownsRow_setCell_below (ownsRow_setCell_below HROW.out (by simp; omega) _) (by simp; omega) _) (by omega)⟩, (HB9.out.setCell (by simp) _).setCell (by simp) _⟩
    · have hem : ¬ (heatR 0 xs ds).isEmpty = true := by rw [List.isEmpty_iff, ← hho]; intro e; rw [e] at HZ2; exact hh HZ2.out.2
      have hE : aftE h xs ds = 73 := by rw [aftE, if_pos hask, if_neg hem]
      have hH : aftH h xs ds = 0 := if_neg (by rw [hE]; decide)
      have HL : Hid (aftL h xs ds = []) := if_neg (by rw [hE]; decide)
      have g0 : decide (0 < (n4 : Int)) = true := decide_eq_true (by omega)
      have g1 : 0 < n4 := by omega
      obtain rfl : E = 73 := HE.out.symm.trans hE
      obtain rfl : Hh = 0 := HHh.out.symm.trans hH
      subst h0
      clear hem hE hH hask hho hh
      go_wp2_with fail
      have hst := HZ2.out.1
      exact bodyPost_ret (v := .tuple #[.agg #[.int .i64 0, .slice none 0 0], .int .i64 73]) (by simp [results, Tryd.results23, go_sem, hst]) rfl ⟨⟨_, rfl, by rw [HL.out]; simpa [cellsR] using World.ownsRow_nil _ _ _ _⟩, (HBW.out.setCell (by simp) _).setCell (by simp) _⟩
  · have g0 : (c == 0) = false := by simp [h0]
    have hE : aftE h xs ds = c := by rw [aftE, if_neg (by rw [hc.out]; exact h0)]; exact hc.out
    have hH : aftH h xs ds = 0 := by rw [aftH, if_neg (by rw [hE]; exact h0)]
    have HL : Hid (aftL h xs ds = []) := if_neg (by rw [hE]; exact h0)
    obtain rfl : E = c := HE.out.symm.trans hE
    obtain rfl : Hh = 0 := HHh.out.symm.trans hH
    clear hE hH
    go_wp2_with fail
    have hst := HZ2.out.1
    exact bodyPost_ret (v := .tuple #[.agg #[.int .i64 0, .slice none 0 0], .int .i64 E]) (by simp [results, Tryd.results23, go_sem, hst]) rfl ⟨⟨_, rfl, by rw [HL.out]; simpa [cellsR] using World.ownsRow_nil _ _ _ _⟩, (HBW.out.setCell (by simp) _).setCell (by simp) _⟩
end Go.Proofs.YtknpglgpkkhhiaaDoor

/- The program's Repeats. -/
namespace Go.Proofs.YtknpglgpkkhhiaaDoor
set_option linter.unusedSimpArgs false
set_option linter.unusedVariables false
open Go.RowKit Go.Proofs.YtknpglgpkkhhiaaDoor.Free2

set_option maxRecDepth 100000 in
theorem eqS (S : Nat → Int) (W : World) : (binOp .eql 109 (stV S) (stV S)).run Tryd.prog W = .ok (.bool true) W := by
  rw [run_eql_struct]
  have hi : ∀ (i : Nat), i < 4 → ∀ W : World, (Op.equalIn 9999 3 (.int .i64 (S i)) (.int .i64 (S i))).run Tryd.prog W = .ok true W := fun i _ W => by
    rw [show (9999 : Nat) = 9998 + 1 from rfl, run_equalIn_int W 9998 3 .i64 .i64 _ _ Tryd.underlying3]; simp
  have hsz : ∀ W : World, (Go.sizeOf 3).run Tryd.prog W = .ok 1 W := fun W => by kernel_rfl
  have h0 := hi 0 (by omega)
  have h1 := hi 1 (by omega)
  have h2 := hi 2 (by omega)
  have h3 := hi 3 (by omega)
  rw [show (10000 : Nat) = 9999 + 1 from rfl]
  unfold Op.equalIn
  simp [go_sem, hsz, Std.Legacy.Range.forIn_eq_forIn_range', List.range', h0, h1, h2, h3]
theorem rep_cases {h : Int} {xs : List Rk} {ds : List (List Int)} (ha : askE h xs ds = 0) : repE h xs ds = (if ds.isEmpty = true then 72 else 0) ∧ (ds.isEmpty = true → repB h xs ds = false) ∧ (ds.isEmpty = false → repB h xs ds = repP xs ds) := by
  have hw := askE_zero.1 ha
  refine ⟨by rw [repE, if_pos ha], fun he => ?_, fun he => ?_⟩
  · rw [repB, repE, if_pos ha, if_pos he]; rfl
  · rw [repB, repE, if_pos ha, if_neg (by rw [he]; simp), repP_eq (watchB_ok hw.1) (by intro e; rw [e] at he; cases he)]
    rfl

set_option maxRecDepth 100000 in
set_option maxHeartbeats 16000000 in
theorem repP_v (h : Int) (xs : List Rk) (ds : List (List Int)) (u v : Value) (w : World) (hT : TabR w) (hu : RL xs u w) (hz : NZ u) (hv : DL ds v w) (hd : ds.length ≤ 1000) (c : Int) (r : Bool) (hcr : Hid (repE h xs ds = c ∧ repB h xs ds = r)) :
    Calls Tryd.prog 25 #[.agg #[.int .i64 h, u], v] w fun e w' => e = .returned (.tuple #[.bool r, .int .i64 c]) ∧ Below w.heap.size w w' := by
  have HU := Lib.hid hu
  have HV := Lib.hid hv
  obtain ⟨p, cp, rfl, _, _⟩ := hu
  obtain ⟨q, cq, rfl, hm, hq⟩ := hv
  unfold maxLen at hm
  have HQ := Lib.hid hq
  have KB : Free.Bel w (w.alloc (.cells #[.int .i64 h, .slice p xs.length cp] 24)) := belAlloc _ _
  have FA : ∀ W, Free.Bel (w.alloc (.cells #[.int .i64 h, .slice p xs.length cp] 24)) W → W.cell? ⟨w.heap.size, 0, none⟩ = some (.int .i64 h) ∧ W.cell? ⟨w.heap.size, 1, none⟩ = some (.slice p xs.length cp) := fun W hW => ⟨keepsB hW (by simp [go_sem]), keepsB hW (by simp [go_sem])⟩
  have KE : Free.Bel (w.alloc (.cells #[.int .i64 h, .slice p xs.length cp] 24)) (w.alloc (.cells #[.int .i64 h, .slice p xs.length cp] 24)) := Free.Bel.refl _
  have HPL := Lib.hid (playedP_any h xs ds _ _ _ (hT.bel KB) (HU.out.keeps KB) (HV.out.keeps KB) hd)
  have HTAB := Lib.hid hT
  have HNZ := Lib.hid hz
  clear hT hq hz
  go_enter Tryd.func25, Tryd.ntmps25
  go_wp2_with fail
  go_step3
  go_wp2_with fail
  refine HPL.out.mono ?_
  rintro e w1 ⟨hP, hB1⟩
  obtain ⟨pt, S, p4, n4, c4, rfl, hn4, _, hS4⟩ := hP.one
  have HS4 := Lib.hid hS4
  have K1 : Free.Bel (w.alloc (.cells #[.int .i64 h, .slice p xs.length cp] 24)) (w1.alloc (.cells (arrV S) 109)) := bt hB1 (belAlloc _ _)
  have hs7 : (w1.alloc (.cells (arrV S) 109)).heap[w1.heap.size]? = some (.cells (arrV S) 109 (0, 0)) := World.alloc_heap_new _ _
  have HBW := Lib.hid (bt KB K1)
  have HS7 := Lib.hid hs7
  have HN4 := Lib.hid hn4
  obtain ⟨a, ha0⟩ : ∃ a, askE h xs ds = a := ⟨_, rfl⟩
  have ha := Lib.hid ha0
  rw [ha0]
  clear hS4 hP HPL hB1 hn4 hs7 ha0 KE
  by_cases h0 : a = 0
  · have hask := ha.out
    rw [h0] at hask
    have hho : hotOut h xs ds = heatR 0 xs ds := if_pos hask
    have hrc := rep_cases hask
    by_cases hem : ds.length = 0
    · obtain rfl : ds = [] := List.eq_nil_of_length_eq_zero hem
      obtain rfl : c = 72 := by rw [← hcr.out.1, hrc.1]; rfl
      obtain rfl : r = false := by rw [← hcr.out.2, hrc.2.1 rfl]
      subst h0
      clear hask hho hrc hem
      go_wp2_with fail
      rw [Exit.noGoto_ret]
      simp +zetaDelta only [Exit.inBlock, Exit.then]
      exact bodyPost_ret (v := .tuple #[.bool false, .int .i64 72]) (by simp [results, Tryd.results25, go_sem]) rfl ⟨rfl, HBW.out⟩
    · have hem2 : ds.isEmpty = false := by
        cases h9 : ds.isEmpty
        · rfl
        · rw [List.isEmpty_iff] at h9; rw [h9] at hem; exact absurd rfl hem
      obtain rfl : c = 0 := by rw [← hcr.out.1, hrc.1, hem2]; rfl
      have hr2 : repP xs ds = r := by rw [← hcr.out.2, hrc.2.2 hem2]
      have g5 : ((ds.length : Int) == 0) = false := by simp; intro e; rw [e] at hem; exact hem rfl
      have g6 : ¬ ds = [] := by intro e; rw [e] at hem; exact hem rfl
      by_cases hh : n4 = 0
      · have hem3 : (heatR 0 xs ds).isEmpty = true := by rw [List.isEmpty_iff]; exact List.eq_nil_of_length_eq_zero (by rw [← hho, ← HN4.out]; exact hh)
        have hr3 : Hid ((allTurned xs ds && (heatR 0 (endR xs ds) ds).isEmpty) = r) := by show _ = _; rw [← hr2, repP, hem3, Bool.true_and]
        have hE : aftE h xs ds = 0 := by rw [aftE, if_pos hask, if_pos hem3]
        have hH : aftH h xs ds = h := if_pos hE
        have HL : aftL h xs ds = endR xs ds := if_pos hE
        have hwv := askE_zero.1 hask
        have HWV := Lib.hid hwv
        have HX4 := Lib.hid (watchB_iff.1 hwv.1).2.1
        obtain rfl : S = waits (endR xs ds) := HS4.out hask
        have HAFT := Lib.hid (aftP_any h xs ds _ _ _ (HTAB.out.bel HBW.out) (HU.out.keeps HBW.out) HNZ.out (HV.out.keeps HBW.out) hd)
        rw [hE, hH, HL] at HAFT
        have HEM3 := Lib.hid hem3
        subst h0 hh
        clear hask hho hrc hem hem2 hem3 hE hH HL hwv hr2
        go_wp2_with fail
        refine HAFT.out.mono ?_
        rintro e w2 ⟨⟨v2, rfl, hr2⟩, hB2⟩
        obtain ⟨p2, c2, rfl⟩ := row_slice hr2
        obtain ⟨zs, hzs⟩ : ∃ x, endR xs ds = x := ⟨_, rfl⟩
        have hzl : zs.length = xs.length := by rw [← hzs]; exact endR_length _ _
        rw [hzs] at hr2 HBW HS7 hB2 hr3 ⊢
        rw [hzl] at hr2 ⊢
        have HZS := Lib.hid hzs
        have HZL := Lib.hid hzl
        have K2 : Free.Bel w w2 := bt HBW.out hB2
        have KC0 : Free.Bel w (w2.alloc (.cells #[.int .i64 h, .slice p2 xs.length c2] 24)) := bt K2 (belAlloc _ _)
        have hrow := bel_row hr2 (belAlloc w2 (.cells #[.int .i64 h, .slice p2 xs.length c2] 24))
        have hs7 := (bt hB2 (belAlloc w2 (.cells #[.int .i64 h, .slice p2 xs.length c2] 24))).block _ (lt_of_heap HS7.out) |>.trans HS7.out
        have ht10 : (w2.alloc (.cells #[.int .i64 h, .slice p2 xs.length c2] 24)).heap[w2.heap.size]? = some (.cells #[.int .i64 h, .slice p2 xs.length c2] 24 (0, 0)) := World.alloc_heap_new _ _
        have FB : ∀ W, Free.Bel (w2.alloc (.cells #[.int .i64 h, .slice p2 xs.length c2] 24)) W → W.cell? ⟨w.heap.size, 0, none⟩ = some (.int .i64 h) ∧ W.cell? ⟨w.heap.size, 1, none⟩ = some (.slice p xs.length cp) ∧ W.cell? ⟨w2.heap.size, 0, none⟩ = some (.int .i64 h) ∧ W.cell? ⟨w2.heap.size, 1, none⟩ = some (.slice p2 xs.length c2) ∧ W.cell? ⟨w1.heap.size, 0, none⟩ = some (.int .i64 (waits zs 0)) ∧ W.cell? ⟨w1.heap.size, 1, none⟩ = some (.int .i64 (waits zs 1)) ∧ W.cell? ⟨w1.heap.size, 2, none⟩ = some (.int .i64 (waits zs 2)) ∧ W.cell? ⟨w1.heap.size, 3, none⟩ = some (.int .i64 (waits zs 3)) := fun W hW =>
          ⟨(FA W (bt K1 (by rw [hzs]; exact bt hB2 (bt (belAlloc _ _) hW)))).1, (FA W (bt K1 (by rw [hzs]; exact bt hB2 (bt (belAlloc _ _) hW)))).2, keepsB hW (cell_of_heap ht10 rfl), keepsB hW (cell_of_heap ht10 rfl), keepsB hW (cell_of_heap hs7 rfl), keepsB hW (cell_of_heap hs7 rfl), keepsB hW (cell_of_heap hs7 rfl), keepsB hW (cell_of_heap hs7 rfl)⟩
        have KE := Free.Bel.refl (w2.alloc (.cells #[.int .i64 h, .slice p2 xs.length c2] 24))
        have HROW := Lib.hid hrow
        have HKC := Lib.hid KC0
        clear FA hrow KC0 hs7 ht10 hr2 hzs hzl K2 HAFT HNZ K1 KB hB2
        go_wp2_with fail
        go_step3
        go_wp2_with fail
        generalize (w2.alloc _) = wC at *
        go_loopw [50] (fun i wr => ∃ k : Nat, k ≤ xs.length ∧ i = .int .i64 k ∧ Hid (allTurned (xs.take k) ds = true) ∧ Free.Bel wC wr) (fun i _ => xs.length - (intOf i).toNat)
        case atStart => exact ⟨0, Nat.zero_le _, rfl, rfl, KE⟩
        case round =>
          obtain ⟨k, hk, rfl, hall, hB⟩ := hrel
          obtain ⟨wo, hwo⟩ : ∃ x, x = wr := ⟨_, rfl⟩
          subst hwo
          have hww : Free.Bel w wo := bt HKC.out hB
          have hx4 := HX4.out
          by_cases hlt : k < xs.length
          · obtain ⟨p9, c9, hp9, _, hq9⟩ := HU.out
            obtain ⟨b, off, hb, hcc⟩ := hq9 (by intro e; simp [e] at hlt)
            simp only [Value.slice.injEq] at hp9
            obtain ⟨rfl, hl0, rfl⟩ := hp9
            subst hb
            obtain ⟨d1, d2, d3⟩ := hcc k hlt
            have e1 := keepsB hww d1
            have e2 := keepsB hww d2
            have e3 := keepsB hww d3
            have hklt : (k : Int) < xs.length := by omega
            have hat : Hid (allTurned (xs.take (k + 1)) ds = (allTurned (xs.take k) ds && ds.any fun d => d.contains xs[k].1)) := by
              show _ = _
              rw [take_step xs k hlt]
              simp only [allTurned, List.all_append, List.all_cons, List.all_nil, Bool.and_true]
            have hmem : Hid (xs[k] ∈ xs) := List.getElem_mem hlt
            have KA : Free.Bel wo (wo.alloc (.cells #[.int .i64 xs[k].1, .int .i64 xs[k].2.1, .int .i64 xs[k].2.2] 47)) := belAlloc _ _
            clear hl0 hcc hq9 d1 d2 d3
            generalize xs[k] = x at *
            obtain ⟨x1, x2, x3⟩ := x
            have FX : ∀ W, Free.Bel (wo.alloc (.cells #[.int .i64 x1, .int .i64 x2, .int .i64 x3] 47)) W → W.cell? ⟨wo.heap.size, 0, none⟩ = some (.int .i64 x1) := fun W hW => keepsB hW (by simp [go_sem])
            go_wp2_with fail
            have HKA := Lib.hid KA
            have KE2 := Free.Bel.refl (wo.alloc (.cells #[.int .i64 x1, .int .i64 x2, .int .i64 x3] 47))
            clear KA e1 e2 e3 KE
            generalize (wo.alloc (.cells #[.int .i64 x1, .int .i64 x2, .int .i64 x3] 47)) = wa at *
            go_loopw [56] (fun i wr => ∃ j : Nat, j ≤ ds.length ∧ i = .int .i64 j ∧ Hid (((ds.take j).any fun d => d.contains x1) = false) ∧ Free.Bel wa wr) (fun i _ => ds.length - (intOf i).toNat)
            case atStart => exact ⟨0, Nat.zero_le _, rfl, rfl, KE2⟩
            case round =>
              obtain ⟨j, hj, rfl, hno, hB2⟩ := hrel
              have hw2 : Free.Bel w wr := bt hww (bt HKA.out hB2)
              by_cases hlt2 : j < ds.length
              · obtain ⟨b2, off2, rfl, hcp⟩ := HQ.out (by intro e; simp [e] at hlt2)
                obtain ⟨u1, d1, i1⟩ := hcp j hlt2
                have e1 := keepsB hw2 d1
                have i2 := i1.keeps hw2
                have hjlt : (j : Int) < ds.length := by omega
                have hst : Hid (((ds.take (j + 1)).any fun d => d.contains x1) = (((ds.take j).any fun d => d.contains x1) || ds[j].contains x1)) := by
                  show _ = _
                  rw [take_step ds j hlt2]
                  simp only [List.any_append, List.any_cons, List.any_nil, Bool.or_false]
                have hmem2 : Hid (ds[j] ∈ ds) := List.getElem_mem hlt2
                have HCON := Lib.hid (contI7_any ds[j] x1 u1 wr i2)
                obtain ⟨q1, c1, rfl, _, _⟩ := i2
                clear hcp d1 i1
                generalize ds[j] = day at *
                obtain ⟨qc, hqc⟩ : ∃ y, day.contains x1 = y := ⟨_, rfl⟩
                rw [hqc] at hst HCON
                have HQC := Lib.hid hqc
                clear hqc
                cases qc
                · go_wp2_with fail
                  refine HCON.out.mono ?_
                  rintro e w5 ⟨rfl, hB5⟩
                  go_wp2_with fail
                  go_roundw
                  case rel => exact ⟨j + 1, by omega, by go_num, by show _ = _; rw [hst.out, hno.out]; rfl, bt hB2 hB5⟩
                  case measure => simp [intOf]; omega
                · go_wp2_with fail
                  refine HCON.out.mono ?_
                  rintro e w5 ⟨rfl, hB5⟩
                  go_wp2_with fail
                  go_roundw
                  case rel => exact ⟨k + 1, by omega, by go_num, by
                    show _ = _
                    rw [hat.out, hall.out, Bool.true_and, List.any_eq_true]
                    exact ⟨day, hmem2.out, HQC.out⟩, bt hB (bt HKA.out (bt hB2 hB5))⟩
                  case measure => simp [intOf]; omega
              · obtain rfl : j = ds.length := by omega
                have hf : r = false := by
                  rw [← hr3.out]
                  have h9 := hno.out
                  rw [List.take_length] at h9
                  have h8 : allTurned xs ds = false := by
                    rw [allTurned, List.all_eq_false]
                    exact ⟨_, hmem.out, by rw [h9]; simp⟩
                  rw [h8, Bool.false_and]
                subst hf
                go_wp2_with fail
                rw [Exit.noGoto_ret]
                simp +zetaDelta only [Exit.inBlock, Exit.then]
                exact bodyPost_ret (v := .tuple #[.bool false, .int .i64 0]) (by simp [results, Tryd.results25, go_sem]) rfl ⟨rfl, hw2⟩
          · obtain rfl : k = xs.length := by omega
            rw [List.take_length] at hall
            have HALL := Lib.hid hall
            have hcool := (heat_empty xs ds).1 HEM3.out
            have hwz : watchB h zs = true := by rw [← HZS.out]; exact watchB_end HWV.out.1 hcool
            have hvz : validB h zs ds = true := by rw [← HZS.out, validB_ids (endR_ids xs ds)]; exact HWV.out.2
            have haz : askE h zs ds = 0 := askE_zero.2 ⟨hwz, hvz⟩
            have hez : endR zs ds = zs := by rw [← HZS.out]; exact end_end hall
            have hhz : hotOut h zs ds = heatR 0 zs ds := if_pos haz
            have hrlz := RL.of_row HZL.out (by have := HX4.out; unfold maxLen; omega) (bel_row HROW.out hB)
            have HPL2 := Lib.hid (playedP_any h zs ds _ _ wo (HTAB.out.bel hww) hrlz (HV.out.keeps hww) hd)
            have HZ9 := Lib.hid (And.intro haz (And.intro hez hhz))
            have hrr : Hid ((heatR 0 zs ds).isEmpty = r) := by show _ = _; rw [← hr3.out, hall, Bool.true_and]
            clear hcool hwz hvz haz hez hhz hrlz hall
            go_wp2_with fail
            refine HPL2.out.mono ?_
            rintro e w6 ⟨hP, hB6⟩
            obtain ⟨pt2, S2, p5, n5, c5, rfl, hn5, _, hS5⟩ := hP.one
            obtain rfl : S2 = waits zs := (hS5 HZ9.out.1).trans (by rw [HZ9.out.2.1])
            rw [HZ9.out.1]
            have hn6 : n5 = (heatR 0 zs ds).length := by rw [hn5, HZ9.out.2.2]
            have HN6 := Lib.hid hn6
            have KF : Free.Bel wC (w6.alloc (.cells (arrV (waits zs)) 109)) := bt hB (bt hB6 (belAlloc _ _))
            have HKF := Lib.hid (bt HKC.out KF)
            have y0 : (w6.alloc (.cells (arrV (waits zs)) 109)).heap[w6.heap.size]? = some (.cells (arrV (waits zs)) 109 (0, 0)) := World.alloc_heap_new _ _
            obtain ⟨y1, y2, y3, y4, _, _, _, _⟩ := cells4 y0
            clear hn5 hn6 hS5 hP y0 hB6
            have heq := eqS (waits zs)
            have hgd : Tryd.prog.eqGuardType Tryd.prog.depth 109 = false := by kernel_rfl
            by_cases h5 : n5 = 0
            · have hrt : r = true := by
                rw [← hrr.out, List.isEmpty_iff]
                exact List.eq_nil_of_length_eq_zero (by rw [← HN6.out]; exact h5)
              subst hrt h5
              go_wp2_with fail
              rw [Exit.noGoto_ret]
              simp +zetaDelta only [Exit.inBlock, Exit.then]
              exact bodyPost_ret (v := .tuple #[.bool true, .int .i64 0]) (by simp [results, Tryd.results25, go_sem]) rfl ⟨rfl, HKF.out⟩
            · have hrt : r = false := by
                rw [← hrr.out]
                cases h9 : (heatR 0 zs ds).isEmpty
                · rfl
                · rw [List.isEmpty_iff] at h9; rw [h9] at HN6; exact absurd HN6.out h5
              subst hrt
              have g9 : ((n5 : Int) == 0) = false := by simp; exact h5
              go_wp2_with fail
              rw [Exit.noGoto_ret]
              simp +zetaDelta only [Exit.inBlock, Exit.then]
              exact bodyPost_ret (v := .tuple #[.bool false, .int .i64 0]) (by simp [results, Tryd.results25, go_sem]) rfl ⟨rfl, HKF.out⟩
      · have hem3 : (heatR 0 xs ds).isEmpty = false := by
          cases h9 : (heatR 0 xs ds).isEmpty
          · rfl
          · rw [List.isEmpty_iff, ← hho] at h9; rw [h9] at HN4; exact absurd HN4.out hh
        obtain rfl : r = false := by rw [← hr2, repP, hem3, Bool.false_and]
        have g7 : decide (0 < (n4 : Int)) = true := decide_eq_true (by omega)
        have g8 : 0 < n4 := by omega
        subst h0
        clear hask hho hrc hem hem2 hem3 hh hr2
        go_wp2_with fail
        rw [Exit.noGoto_ret]
        simp +zetaDelta only [Exit.inBlock, Exit.then]
        exact bodyPost_ret (v := .tuple #[.bool false, .int .i64 0]) (by simp [results, Tryd.results25, go_sem]) rfl ⟨rfl, HBW.out⟩
  · have g0 : (a == 0) = false := by simp [h0]
    obtain rfl : c = a := by rw [← hcr.out.1, repE, if_neg (by rw [ha.out]; exact h0)]; exact ha.out
    obtain rfl : r = false := by rw [← hcr.out.2, repB, hcr.out.1, decide_eq_false h0, Bool.false_and]
    clear hcr
    go_wp2_with fail
    rw [Exit.noGoto_ret]
    simp +zetaDelta only [Exit.inBlock, Exit.then]
    exact bodyPost_ret (v := .tuple #[.bool false, .int .i64 c]) (by simp [results, Tryd.results25, go_sem]) rfl ⟨rfl, HBW.out⟩
end Go.Proofs.YtknpglgpkkhhiaaDoor

/- The examples of chapter 07's laws: what each call tells. -/
namespace Go.Proofs.YtknpglgpkkhhiaaDoor
set_option linter.unusedSimpArgs false
set_option linter.unusedVariables false
open Go.RowKit Go.Proofs.YtknpglgpkkhhiaaDoor.Free2 Go.Proofs.YtknpglgpkkhhiaaDoor.ML RR

set_option maxRecDepth 100000 in
set_option maxHeartbeats 4000000 in
theorem watchX_any (w : World) :
    Calls Tryd.prog 66 #[] w fun e w' => (∃ b, e = .returned (.agg #[.int .i64 1, .slice (some ⟨b, 0, none⟩) 3 3]) ∧ w.heap.size ≤ b ∧ w'.heap[b]? = some (.cells #[.int .i64 1, .int .i64 2, .int .i64 0, .int .i64 2, .int .i64 4, .int .i64 1, .int .i64 3, .int .i64 4, .int .i64 0] 47 (0, 0))) ∧ Below w.heap.size w w' := by
  go_enter Tryd.func66, Tryd.ntmps66
  go_wp2_with fail
  exact bodyPost_ret (v := .agg #[.int .i64 1, .slice (some ⟨w.heap.size + 1, 0, none⟩) 3 3]) (by simp [results, Tryd.f66, go_sem]) rfl ⟨⟨w.heap.size + 1, rfl, by omega, by
    have := World.alloc_heap_new (w.alloc (.cells #[.int .i64 1, .slice (some ⟨w.heap.size + 1, 0, none⟩) 3 3] 24)) (.cells #[.int .i64 1, .int .i64 2, .int .i64 0, .int .i64 2, .int .i64 4, .int .i64 1, .int .i64 3, .int .i64 4, .int .i64 0] 47)
    simpa using this⟩, bt (belAlloc _ _) (belAlloc _ _)⟩
set_option maxRecDepth 100000 in
theorem dayX_any (v : Value) (w : World) : Calls Tryd.prog 67 #[v] w fun e w' => e = .returned v ∧ w = w' := by
  go_enter Tryd.func67, Tryd.ntmps67
  go_wp2_with fail
  go_ret
  exact ⟨rfl, rfl⟩
set_option maxRecDepth 100000 in
theorem daysX_any (v : Value) (w : World) : Calls Tryd.prog 61 #[v] w fun e w' => e = .returned v ∧ w = w' := by
  go_enter Tryd.func61, Tryd.ntmps61
  go_wp2_with fail
  go_ret
  exact ⟨rfl, rfl⟩
theorem ex_share (u : Value) (w : World) (hT : TabR w) (hu : RL wx u w) :
    Calls Tryd.prog 30 #[.agg #[.int .i64 1, u]] w fun e w' => e = .returned (.tuple #[.agg #[.int .i64 1, .int .i64 1], .int .i64 0]) ∧ Below w.heap.size w w' := by
  refine (shareP_any 1 wx u w hT hu).mono fun e w' ⟨h1, h2⟩ => ⟨?_, h2⟩
  rcases h1 with ⟨h, _⟩ | ⟨_, h⟩
  · rw [wx_watch] at h; cases h
  · rw [h]
    have : partV (shareI wx).toNat 60 = .agg #[.int .i64 1, .int .i64 1] := by kernel_rfl
    rw [this]
theorem ex_can (u : Value) (w : World) (hT : TabR w) (hu : RL wx u w) :
    Calls Tryd.prog 32 #[.agg #[.int .i64 1, u]] w fun e w' => e = .returned (.tuple #[.bool true, .int .i64 0]) ∧ Below w.heap.size w w' := by
  exact canP_v 1 wx u w hT hu 0 true (by rw [wx_watch, wx_yes]; exact ⟨rfl, rfl⟩)
theorem ex_today (u : Value) (w : World) (hT : TabR w) (hu : RL wx u w) :
    Calls Tryd.prog 34 #[.agg #[.int .i64 1, u]] w fun e w' => (∃ v, e = .returned (.tuple #[v, .int .i64 0]) ∧ IL [1] v w') ∧ Below w.heap.size w w' := by
  refine (todayP_v 1 wx u w hT hu 0 (by show _ = _; unfold goE; simp [wx_watch, wx_yes])).mono fun e w' ⟨h1, h2⟩ => ⟨?_, h2⟩
  rcases h1 with ⟨h, _⟩ | ⟨_, v, h, b, hr⟩
  · exact absurd rfl h
  · rw [wx_today] at hr
    exact ⟨v, h, IL.of_own (by simp [maxLen]) hr⟩
theorem ex_days (u : Value) (w : World) (hT : TabR w) (hu : RL wx u w) :
    Calls Tryd.prog 39 #[.agg #[.int .i64 1, u], .int .i64 3] w fun e w' => (∃ v, e = .returned (.tuple #[v, .int .i64 0]) ∧ DL [[1], [2], [1]] v w') ∧ Below w.heap.size w w' := by
  refine (daysP_v 1 wx 3 u w hT hu 0 (by show _ = _; unfold daysE goE; simp [wx_watch, wx_yes, inB])).mono fun e w' ⟨h1, h2⟩ => ⟨?_, h2⟩
  rcases h1 with ⟨h, _⟩ | ⟨_, v, h, hd⟩
  · exact absurd rfl h
  · rw [show (3 : Int).toNat = 3 from rfl, wx_days] at hd
    exact ⟨v, h, (hd.dz (by simp [maxLen]) (by simp [maxLen])).dl⟩
theorem ex_round (u : Value) (w : World) (hT : TabR w) (hu : RL wx u w) :
    Calls Tryd.prog 41 #[.agg #[.int .i64 1, u]] w fun e w' => (∃ vl vr, e = .returned (.tuple #[vl, vr, .int .i64 0]) ∧ DL [[1], [2]] vl w' ∧ DL [[1], [3], [1], [2]] vr w') ∧ Below w.heap.size w w' := by
  refine (round_b 1 wx u w hT hu wx_watch wx_yes).mono fun e w' ⟨⟨i, j, vl, vr, hr, he, hl, hr2⟩, h2⟩ => ⟨?_, h2⟩
  obtain ⟨rfl, rfl⟩ := hr.unique wx_round
  rw [wx_lead] at hl
  rw [wx_again] at hr2
  exact ⟨vl, vr, he, hl.dl, hr2.dl⟩
theorem ex_few (u : Value) (w : World) (hT : TabR w) (hu : RL wx u w) :
    Calls Tryd.prog 49 #[.agg #[.int .i64 1, u]] w fun e w' => e = .returned (.tuple #[.int .i64 1, .int .i64 0]) ∧ Below w.heap.size w w' := by
  refine (fewestP_any 1 wx u w hT hu).mono fun e w' ⟨h1, h2⟩ => ⟨?_, h2⟩
  rcases h1 with ⟨h, _⟩ | ⟨_, n, c, hf, h⟩
  · rw [wx_watch] at h; cases h
  · obtain ⟨rfl, rfl⟩ := hf.unique wx_few
    exact h
theorem ex_moist (u : Value) (w : World) (hT : TabR w) (hu : RL wx u w) (hz : NZ u) :
    Calls Tryd.prog 51 #[.agg #[.int .i64 1, u], .int .i64 3] w fun e w' => e = .returned (.tuple #[.int .i64 4, .int .i64 0]) ∧ Below w.heap.size w w' := by
  refine (moistP_any 1 3 wx u w hT hu hz 2 (.inr ⟨2, by decide, rfl, by decide, by decide⟩)).mono fun e w' ⟨h1, h2⟩ => ⟨?_, h2⟩
  rcases h1 with ⟨h, _⟩ | ⟨_, h, _⟩ | ⟨_, _, n, c, hf, h⟩
  · rw [wx_watch] at h; cases h
  · exact absurd h (by decide)
  · obtain ⟨rfl, rfl⟩ := hf.unique wx_moist
    exact h
theorem ex_spare (u : Value) (w : World) (hT : TabR w) (hu : RL wx u w) :
    Calls Tryd.prog 53 #[.agg #[.int .i64 1, u]] w fun e w' => e = .returned (.tuple #[.int .i64 0, .int .i64 0]) ∧ Below w.heap.size w w' := by
  refine (spareP_v 1 wx u w hT hu 0 (by show _ = _; unfold goE; simp [wx_watch, wx_yes])).mono fun e w' ⟨h1, h2⟩ => ⟨?_, h2⟩
  rcases h1 with ⟨h, _⟩ | ⟨_, h, _⟩ | ⟨_, _, n, hf, h⟩
  · exact absurd rfl h
  · cases h
  · obtain rfl := hf.unique wx_spare
    exact h
theorem ex_hot (u : Value) (w : World) (hT : TabR w) (hu : RL wx u w) (hz : NZ u) (v : Value) (hv : DL [[], [1], []] v w) :
    Calls Tryd.prog 21 #[.agg #[.int .i64 1, u], v] w fun e w' => (∃ v2, e = .returned (.tuple #[v2, .int .i64 0]) ∧ PL [(3, 2)] v2 w') ∧ Below w.heap.size w w' := by
  refine (hotP_any 1 wx [[], [1], []] u v w hT hu hv (by decide)).mono fun e w' ⟨⟨v2, h1, h3⟩, h2⟩ => ⟨?_, h2⟩
  rw [show askE 1 wx [[], [1], []] = 0 by decide +kernel] at h1
  rw [show hotOut 1 wx [[], [1], []] = [(3, 2)] by decide +kernel] at h3
  exact ⟨v2, h1, h3⟩
theorem ex_after (u : Value) (w : World) (hT : TabR w) (hu : RL wx u w) (hz : NZ u) (v : Value) (hv : DL [[1], [2]] v w) :
    Calls Tryd.prog 23 #[.agg #[.int .i64 1, u], v] w fun e w' => (∃ g cap, e = .returned (.tuple #[.agg #[.int .i64 1, .slice (some ⟨g, 0, none⟩) 3 cap], .int .i64 0]) ∧ w'.cell? ⟨g, 2, none⟩ = some (.int .i64 1) ∧ w'.cell? ⟨g, 5, none⟩ = some (.int .i64 0) ∧ w'.cell? ⟨g, 8, none⟩ = some (.int .i64 2)) ∧ Below w.heap.size w w' := by
  refine (aftP_any 1 wx [[1], [2]] u v w hT hu hz hv (by decide)).mono fun e w' ⟨⟨v2, h1, h3⟩, h2⟩ => ⟨?_, h2⟩
  rw [show aftE 1 wx [[1], [2]] = 0 by decide +kernel, show aftH 1 wx [[1], [2]] = 1 by decide +kernel] at h1
  rw [show aftL 1 wx [[1], [2]] = [(1, 2, 1), (2, 4, 0), (3, 4, 2)] by decide +kernel] at h3
  obtain ⟨g, cap, cur, rfl, _⟩ := h3.2.resolve_left (fun h => by simp at h)
  have c2 := h3.cells (g := g) rfl 2 (.int .i64 1) rfl
  have c5 := h3.cells (g := g) rfl 5 (.int .i64 0) rfl
  have c8 := h3.cells (g := g) rfl 8 (.int .i64 2) rfl
  rw [addE] at c2 c5 c8
  exact ⟨g, cap, h1, by simpa using c2, by simpa using c5, by simpa using c8⟩
theorem ex_rep (u : Value) (w : World) (hT : TabR w) (hu : RL wx u w) (hz : NZ u) (v : Value) (hv : DL [[1], [2], [1], [3]] v w) :
    Calls Tryd.prog 25 #[.agg #[.int .i64 1, u], v] w fun e w' => e = .returned (.tuple #[.bool true, .int .i64 0]) ∧ Below w.heap.size w w' := by
  exact repP_v 1 wx [[1], [2], [1], [3]] u v w hT hu hz hv (by decide) 0 true (by
    show _ ∧ _
    decide +kernel)
theorem ex_last (u : Value) (w : World) (hT : TabR w) (hu : RL wl u w) :
    Calls Tryd.prog 47 #[.agg #[.int .i64 1, u]] w fun e w' => (∃ v, e = .returned (.tuple #[v, .int .i64 0]) ∧ DL [[3]] v w') ∧ Below w.heap.size w w' := by
  refine (last_c 1 wl u w hT hu wl_watch wl_no).mono fun e w' ⟨⟨n, v, _, h1, h3, he, hd⟩, h2⟩ => ⟨?_, h2⟩
  rw [wl_last h1 h3] at hd
  exact ⟨v, he, (hd.dz (by simp [maxLen]) (by simp [maxLen])).dl⟩
theorem rl_of9 {a b c d e f g i j : Int} {b0 : Nat} {t : TypeId} {w : World} (h : w.heap[b0]? = some (.cells #[.int .i64 a, .int .i64 b, .int .i64 c, .int .i64 d, .int .i64 e, .int .i64 f, .int .i64 g, .int .i64 i, .int .i64 j] t (0, 0))) : RL [(a, b, c), (d, e, f), (g, i, j)] (.slice (some ⟨b0, 0, none⟩) 3 3) w := by
  refine ⟨_, 3, rfl, by simp [maxLen], fun _ => ⟨b0, 0, rfl, fun k hk => ?_⟩⟩
  have hk' : k < 3 := hk
  rcases (show k = 0 ∨ k = 1 ∨ k = 2 by omega) with rfl | rfl | rfl
  · exact ⟨cell_of_heap (o := 0) h rfl, cell_of_heap (o := 1) h rfl, cell_of_heap (o := 2) h rfl⟩
  · exact ⟨cell_of_heap (o := 3) h rfl, cell_of_heap (o := 4) h rfl, cell_of_heap (o := 5) h rfl⟩
  · exact ⟨cell_of_heap (o := 6) h rfl, cell_of_heap (o := 7) h rfl, cell_of_heap (o := 8) h rfl⟩
theorem nz_some {a : Addr} {n c : Nat} : NZ (.slice (some a) n c) := fun n' c' h => by cases h
theorem il_one (a : Int) (t : TypeId) (w : World) : IL [a] (.slice (some ⟨w.heap.size, 0, none⟩) 1 1) (w.alloc (.cells #[.int .i64 a] t)) :=
  ⟨_, 1, rfl, by simp [maxLen], fun _ => ⟨w.heap.size, 0, rfl, fun k hk => by
    have hk' : k < 1 := hk
    obtain rfl : k = 0 := by omega
    simp [go_sem]⟩⟩
theorem pl_one (a b : Int) (t : TypeId) (w : World) : PL [(a, b)] (.slice (some ⟨w.heap.size, 0, none⟩) 1 1) (w.alloc (.cells #[.int .i64 a, .int .i64 b] t)) :=
  ⟨_, 1, rfl, by simp [maxLen], fun _ => ⟨w.heap.size, 0, rfl, fun k hk => by
    have hk' : k < 1 := hk
    obtain rfl : k = 0 := by omega
    simp [go_sem]⟩⟩
theorem dl_new {ds : List (List Int)} {us : List Value} {t : TypeId} {w : World} (hl : us.length = ds.length) (hm : ds.length ≤ maxLen) (hd : ∀ (k : Nat) (h : k < ds.length) u, us[k]? = some u → IL ds[k] u w) : DL ds (.slice (some ⟨w.heap.size, 0, none⟩) ds.length ds.length) (w.alloc (.cells us.toArray t)) :=
  ⟨_, _, rfl, hm, fun _ => ⟨w.heap.size, 0, rfl, fun k hk => ⟨us[k], by
    have hn := World.alloc_heap_new w (.cells us.toArray t)
    rw [Nat.zero_add]
    exact cell_of_heap (o := k) hn (by rw [List.getElem?_toArray]; exact List.getElem?_eq_getElem (by omega)), (hd k hk _ (List.getElem?_eq_getElem (by omega))).keeps (belAlloc _ _)⟩⟩⟩
/-- A watch of which two ricks are turned later. -/
def JW (b : Nat) (X : XT) (W : World) : Prop := W.heap[b]? = some (.cells #[.int .i64 1, .int .i64 2, .int .i64 0, .int .i64 2, .int .i64 4, .int .i64 (if (X 6).isSome = true then 2 else 1), .int .i64 3, .int .i64 4, .int .i64 (if (X 9).isSome = true then 3 else 0)] 47 (0, 0))
theorem JW.at {b : Nat} {X : XT} {W : World} (h : JW b X W) : ∃ x y, W.cell? ⟨b, 5, none⟩ = some x ∧ W.cell? ⟨b, 8, none⟩ = some y ∧ W.frozen? ⟨b, 5, none⟩ = false ∧ W.frozen? ⟨b, 8, none⟩ = false := by
  unfold JW at h
  exact ⟨_, _, cell_of_heap (o := 5) h rfl, cell_of_heap (o := 8) h rfl, frozen_of_heap (o := 5) h, frozen_of_heap (o := 8) h⟩
theorem JW.skip {b : Nat} {X : XT} {W : World} (h : JW b X W) (n : Nat) (v : Value) (h6 : n ≠ 6) (h9 : n ≠ 9) : JW b (upd X n v) W := by
  unfold JW
  rw [upd_other _ _ (Ne.symm h6), upd_other _ _ (Ne.symm h9)]
  exact h
theorem JW.put6 {b : Nat} {X : XT} {W : World} (h : JW b X W) (v : Value) : JW b (upd X 6 v) (W.setCell ⟨b, 5, none⟩ (.int .i64 2)) := by
  unfold JW at h ⊢
  rw [upd_same, upd_other _ _ (show (9 : Nat) ≠ 6 by decide)]
  have := heap_setCell_same (o := 5) (.int .i64 2) h
  simpa using this
theorem JW.put9 {b : Nat} {X : XT} {W : World} (h : JW b X W) (v : Value) : JW b (upd X 9 v) (W.setCell ⟨b, 8, none⟩ (.int .i64 3)) := by
  unfold JW at h ⊢
  rw [upd_same, upd_other _ _ (show (6 : Nat) ≠ 9 by decide)]
  have := heap_setCell_same (o := 8) (.int .i64 3) h
  simpa using this
end Go.Proofs.YtknpglgpkkhhiaaDoor

/- The reference's comparison of heats. -/
namespace Go.Proofs.YtknpglgpkkhhiaaDoor
set_option linter.unusedSimpArgs false
set_option linter.unusedVariables false
open Go.RowKit

set_option maxRecDepth 100000 in
set_option maxHeartbeats 2000000 in
theorem sameH_any (xs : List (Int × Int)) (u v : Value) (w : World) (hu : PL xs u w) (hv : PL xs v w) :
    Calls Tryd.prog 27 #[u, v] w fun e w' => e = .returned (.bool true) ∧ Below w.heap.size w w' := by
  obtain ⟨p, cp, rfl, hm, hp⟩ := hu
  obtain ⟨q, cq, rfl, _, hq⟩ := hv
  unfold maxLen at hm
  have HP := Lib.hid hp
  have HQ := Lib.hid hq
  clear hp hq
  go_enter Tryd.func27, Tryd.ntmps27
  go_wp2_with fail
  go_loopw [5] (fun i wr => ∃ k : Nat, k ≤ xs.length ∧ i = .int .i64 k ∧ Below w.heap.size w wr) (fun i _ => xs.length - (intOf i).toNat)
  case atStart => exact ⟨0, Nat.zero_le _, rfl, Below.refl _ _⟩
  case round =>
    obtain ⟨k, hk, rfl, hB⟩ := hrel
    by_cases hlt : k < xs.length
    · have hx : xs ≠ [] := by intro e; simp [e] at hlt
      obtain ⟨b, off, rfl, hcp⟩ := HP.out hx
      obtain ⟨b2, off2, rfl, hcq⟩ := HQ.out hx
      have e1 := keepsB hB (hcp k hlt).1
      have e2 := keepsB hB (hcp k hlt).2
      have e3 := keepsB hB (hcq k hlt).1
      have e4 := keepsB hB (hcq k hlt).2
      have HC := Lib.hid (And.intro e1 (And.intro e2 (And.intro e3 e4)))
      have hklt : (k : Int) < xs.length := by omega
      generalize xs[k] = x at *
      obtain ⟨x1, x2⟩ := x
      clear hcp hcq
      go_wp2_with fail
      have hF : ∀ W, Free.Bel wr.drew W → W.cell? ⟨b, off + k * 2, none⟩ = some (.int .i64 x1) ∧ W.cell? ⟨b, off + k * 2 + 1, none⟩ = some (.int .i64 x2) ∧ W.cell? ⟨b2, off2 + k * 2, none⟩ = some (.int .i64 x1) ∧ W.cell? ⟨b2, off2 + k * 2 + 1, none⟩ = some (.int .i64 x2) :=
        fun W hW => ⟨keepsB (Free.Bel.first hW) HC.out.1, keepsB (Free.Bel.first hW) HC.out.2.1, keepsB (Free.Bel.first hW) HC.out.2.2.1, keepsB (Free.Bel.first hW) HC.out.2.2.2⟩
      refine Free.wp_free (R := Free.Bel) (by kernel_rfl) (by kernel_rfl) Free.Bel.refl Free.Bel.trans ?_
      refine Free.Chain.ex ?_ [] [0] (by kernel_rfl) (by kernel_rfl) rfl Free.Bel.refl ?_ ?_
      rotate_left 2
      simp only [an1, an2]
      refine Free.Chain.ex ?_ [] [5] (by kernel_rfl) (by kernel_rfl) rfl Free.Bel.refl ?_ ?_
      rotate_left 2
      simp only [an1, an2]
      refine Free.Chain.ex ?_ [(0, 17), (1, 18)] [] (by kernel_rfl) (by kernel_rfl) rfl Free.Bel.refl ?_ ?_
      rotate_left 2
      simp only [an1, an2]
      refine Free.Chain.ex ?_ [(2, 19)] [] (by kernel_rfl) (by kernel_rfl) rfl Free.Bel.refl ?_ ?_
      rotate_left 2
      simp only [an1, an2]
      refine Free.Chain.ex ?_ [] [1] (by kernel_rfl) (by kernel_rfl) rfl Free.Bel.refl ?_ ?_
      rotate_left 2
      simp only [an1, an2]
      refine Free.Chain.ex ?_ [] [5] (by kernel_rfl) (by kernel_rfl) rfl Free.Bel.refl ?_ ?_
      rotate_left 2
      simp only [an1, an2]
      refine Free.Chain.ex ?_ [(4, 21), (5, 22)] [] (by kernel_rfl) (by kernel_rfl) rfl Free.Bel.refl ?_ ?_
      rotate_left 2
      simp only [an1, an2]
      refine Free.Chain.ex ?_ [(6, 23)] [] (by kernel_rfl) (by kernel_rfl) rfl Free.Bel.refl ?_ ?_
      rotate_left 2
      simp only [an1, an2]
      refine Free.Chain.ex ?_ [(3, 20), (7, 24)] [] (by kernel_rfl) (by kernel_rfl) rfl Free.Bel.refl ?_ ?_
      rotate_left 2
      simp only [an1, an2]
      rotate_left
      iterate 9 (rotate_left; intro ev W hb hR hO hD; have hS := hF W hR; obtain ⟨hb1, hb2, hb3⟩ := hb; simp only [Free.AllDeps, Free.AllOuts, Free.At, al1, al2, al3, al4, al5, and_true] at hO hD; go_simp; rfl)
      intro xs w' hR hV
      simp only [Free.AllV, Free.At, List.length_cons, List.length_nil, Nat.reduceAdd, List.getElem?_cons_succ, List.getElem?_cons_zero, true_and] at hV
      simp only [Free.putsFrom, Act.put, hV, List.setIfInBounds_toArray, List.set_cons_succ, List.set_cons_zero]
      have HB2 := Lib.hid (hB.trans ((Free.Bel.first hR).mono hB.size))
      clear hR hV hF
      go_wp2_with fail
      go_roundw
      case rel => exact ⟨k + 1, by omega, by go_num, HB2.out⟩
      case measure => simp [intOf]; omega
    · obtain rfl : k = xs.length := by omega
      go_wp2_with fail
      go_ret
      exact ⟨rfl, hB⟩
end Go.Proofs.YtknpglgpkkhhiaaDoor

/- Watches: Great, Same. -/
namespace Go.Proofs.YtknpglgpkkhhiaaDoor
set_option linter.unusedSimpArgs false
set_option linter.unusedVariables false
open Go.RowKit

set_option maxRecDepth 100000 in
set_option maxHeartbeats 4000000 in
theorem sameW_any (h : Int) (xs : List (Int × Int × Int)) (u v : Value) (w : World) (hu : RL xs u w) (hv : RL xs v w) :
    Calls Tryd.prog 28 #[.agg #[.int .i64 h, u], .agg #[.int .i64 h, v]] w fun e w' => e = .returned (.bool true) ∧ Below w.heap.size w w' := by
  obtain ⟨p, cp, rfl, hm, hp⟩ := hu
  obtain ⟨q, cq, rfl, _, hq⟩ := hv
  unfold maxLen at hm
  have HP := Lib.hid hp
  have HQ := Lib.hid hq
  clear hp hq
  have hB0 : Below w.heap.size w ((w.alloc (.cells #[.int .i64 h, .slice p xs.length cp] 24)).alloc (.cells #[.int .i64 h, .slice q xs.length cq] 24)) := ((Below.refl _ w).alloc (Nat.le_refl _) _).alloc (by simp) _
  have c0_0 : ((w.alloc (.cells #[.int .i64 h, .slice p xs.length cp] 24)).alloc (.cells #[.int .i64 h, .slice q xs.length cq] 24)).cell? ⟨w.heap.size, 0, none⟩ = some (.int .i64 h) := by simp [go_sem]
  have c0_1 : ((w.alloc (.cells #[.int .i64 h, .slice p xs.length cp] 24)).alloc (.cells #[.int .i64 h, .slice q xs.length cq] 24)).cell? ⟨w.heap.size, 1, none⟩ = some (.slice p xs.length cp) := by simp [go_sem]
  have c1_0 : ((w.alloc (.cells #[.int .i64 h, .slice p xs.length cp] 24)).alloc (.cells #[.int .i64 h, .slice q xs.length cq] 24)).cell? ⟨w.heap.size + 1, 0, none⟩ = some (.int .i64 h) := by simp [go_sem]
  have c1_1 : ((w.alloc (.cells #[.int .i64 h, .slice p xs.length cp] 24)).alloc (.cells #[.int .i64 h, .slice q xs.length cq] 24)).cell? ⟨w.heap.size + 1, 1, none⟩ = some (.slice q xs.length cq) := by simp [go_sem]
  have FA : ∀ W, Free.Bel ((w.alloc (.cells #[.int .i64 h, .slice p xs.length cp] 24)).alloc (.cells #[.int .i64 h, .slice q xs.length cq] 24)) W → W.cell? ⟨w.heap.size, 0, none⟩ = some (.int .i64 h) ∧ W.cell? ⟨w.heap.size, 1, none⟩ = some (.slice p xs.length cp) ∧ W.cell? ⟨w.heap.size + 1, 0, none⟩ = some (.int .i64 h) ∧ W.cell? ⟨w.heap.size + 1, 1, none⟩ = some (.slice q xs.length cq) := fun W hW => ⟨keepsB hW c0_0, keepsB hW c0_1, keepsB hW c1_0, keepsB hW c1_1⟩
  go_enter Tryd.func28, Tryd.ntmps28
  go_wp2_with fail
  have hB9 : Below w.heap.size w ((w.alloc (.cells #[.int .i64 h, .slice p xs.length cp] 24)).alloc (.cells #[.int .i64 h, .slice q xs.length cq] 24)) := hB0
  clear hB0 c0_0 c0_1 c1_0 c1_1
  generalize ((w.alloc (.cells #[.int .i64 h, .slice p xs.length cp] 24)).alloc (.cells #[.int .i64 h, .slice q xs.length cq] 24)) = w1 at *
  go_loopw [5] (fun i wr => ∃ k : Nat, k ≤ xs.length ∧ i = .int .i64 k ∧ Free.Bel w1 wr) (fun i _ => xs.length - (intOf i).toNat)
  case atStart => exact ⟨0, Nat.zero_le _, rfl, Free.Bel.refl _⟩
  case round =>
    obtain ⟨k, hk, rfl, hB⟩ := hrel
    by_cases hlt : k < xs.length
    · have hx : xs ≠ [] := by intro e; simp [e] at hlt
      obtain ⟨b, off, rfl, hcp⟩ := HP.out hx
      obtain ⟨b2, off2, rfl, hcq⟩ := HQ.out hx
      have hww : Below w.heap.size w wr := hB9.trans (hB.mono hB9.size)
      obtain ⟨e1, e2, e3⟩ := hcp k hlt
      obtain ⟨e4, e5, e6⟩ := hcq k hlt
      have HC := Lib.hid (And.intro (keepsB hww e1) (And.intro (keepsB hww e2) (And.intro (keepsB hww e3) (And.intro (keepsB hww e4) (And.intro (keepsB hww e5) (keepsB hww e6))))))
      have hklt : (k : Int) < xs.length := by omega
      clear hcp hcq e1 e2 e3 e4 e5 e6 hx
      generalize xs[k] = x at *
      obtain ⟨x1, x2, x3⟩ := x
      go_wp2_with fail
      have hF : ∀ W, Free.Bel wr.drew W → (W.cell? ⟨b, off + k * 3, none⟩ = some (.int .i64 x1) ∧ W.cell? ⟨b, off + k * 3 + 1, none⟩ = some (.int .i64 x2) ∧ W.cell? ⟨b, off + k * 3 + 2, none⟩ = some (.int .i64 x3) ∧ W.cell? ⟨b2, off2 + k * 3, none⟩ = some (.int .i64 x1) ∧ W.cell? ⟨b2, off2 + k * 3 + 1, none⟩ = some (.int .i64 x2) ∧ W.cell? ⟨b2, off2 + k * 3 + 2, none⟩ = some (.int .i64 x3)) ∧ Free.Bel w1 W :=
        fun W hW => ⟨⟨keepsB (Free.Bel.first hW) HC.out.1, keepsB (Free.Bel.first hW) HC.out.2.1, keepsB (Free.Bel.first hW) HC.out.2.2.1, keepsB (Free.Bel.first hW) HC.out.2.2.2.1, keepsB (Free.Bel.first hW) HC.out.2.2.2.2.1, keepsB (Free.Bel.first hW) HC.out.2.2.2.2.2⟩, bt hB (Free.Bel.first hW)⟩
      refine Free.wp_free (R := Free.Bel) (by kernel_rfl) (by kernel_rfl) Free.Bel.refl Free.Bel.trans ?_
      refine Free.Chain.ex ?_ [] [2] (by kernel_rfl) (by kernel_rfl) rfl Free.Bel.refl ?_ ?_
      rotate_left 2
      simp only [an1, an2]
      refine Free.Chain.ex ?_ [(0, 27)] [] (by kernel_rfl) (by kernel_rfl) rfl Free.Bel.refl ?_ ?_
      rotate_left 2
      simp only [an1, an2]
      refine Free.Chain.ex ?_ [] [5] (by kernel_rfl) (by kernel_rfl) rfl Free.Bel.refl ?_ ?_
      rotate_left 2
      simp only [an1, an2]
      refine Free.Chain.ex ?_ [(1, 28), (2, 29)] [] (by kernel_rfl) (by kernel_rfl) rfl Free.Bel.refl ?_ ?_
      rotate_left 2
      simp only [an1, an2]
      refine Free.Chain.ex ?_ [(3, 30)] [] (by kernel_rfl) (by kernel_rfl) rfl Free.Bel.refl ?_ ?_
      rotate_left 2
      simp only [an1, an2]
      refine Free.Chain.ex ?_ [] [3] (by kernel_rfl) (by kernel_rfl) rfl Free.Bel.refl ?_ ?_
      rotate_left 2
      simp only [an1, an2]
      refine Free.Chain.ex ?_ [(5, 32)] [] (by kernel_rfl) (by kernel_rfl) rfl Free.Bel.refl ?_ ?_
      rotate_left 2
      simp only [an1, an2]
      refine Free.Chain.ex ?_ [] [5] (by kernel_rfl) (by kernel_rfl) rfl Free.Bel.refl ?_ ?_
      rotate_left 2
      simp only [an1, an2]
      refine Free.Chain.ex ?_ [(6, 33), (7, 34)] [] (by kernel_rfl) (by kernel_rfl) rfl Free.Bel.refl ?_ ?_
      rotate_left 2
      simp only [an1, an2]
      refine Free.Chain.ex ?_ [(8, 35)] [] (by kernel_rfl) (by kernel_rfl) rfl Free.Bel.refl ?_ ?_
      rotate_left 2
      simp only [an1, an2]
      refine Free.Chain.ex ?_ [(4, 31), (9, 36)] [] (by kernel_rfl) (by kernel_rfl) rfl Free.Bel.refl ?_ ?_
      rotate_left 2
      simp only [an1, an2]
      rotate_left
      iterate 11 (rotate_left; intro ev W hb hR hO hD; have hS := hF W hR; obtain ⟨hb1, hb2, hb3⟩ := hb; simp only [Free.AllDeps, Free.AllOuts, Free.At, al1, al2, al3, al4, al5, and_true] at hO hD; obtain ⟨hS, hS2⟩ := hS; go_simp; rfl)
      intro xs w' hR hV
      simp only [Free.AllV, Free.At, List.length_cons, List.length_nil, Nat.reduceAdd, List.getElem?_cons_succ, List.getElem?_cons_zero, true_and] at hV
      simp only [Free.putsFrom, Act.put, hV, List.setIfInBounds_toArray, List.set_cons_succ, List.set_cons_zero]
      have hB2 : Free.Bel w1 w' := bt hB (Free.Bel.first hR)
      clear hR hV hF
      go_wp2_with fail
      go_roundw
      case rel => exact ⟨k + 1, by omega, by go_num, hB2⟩
      case measure => simp [intOf]; omega
    · obtain rfl : k = xs.length := by omega
      go_wp2_with fail
      go_ret
      exact ⟨rfl, hB9.trans (hB.mono hB9.size)⟩

set_option maxRecDepth 100000 in
set_option maxHeartbeats 2000000 in
theorem great_any (h : Int) (n cap : Nat) (p : Option Addr) (w : World) :
    Calls Tryd.prog 17 #[.agg #[.int .i64 h, .slice p n cap]] w fun e w' => e = .returned (.bool (decide (10 < (n : Int)))) ∧ Below w.heap.size w w' := by
  have hB0 : Below w.heap.size w (w.alloc (.cells #[.int .i64 h, .slice p n cap] 24)) := (Below.refl _ w).alloc (Nat.le_refl _) _
  go_enter Tryd.func17, Tryd.ntmps17
  go_wp2_with fail
  go_ret
  exact ⟨by simp, hB0⟩
end Go.Proofs.YtknpglgpkkhhiaaDoor

/- The examples of chapter 07's laws: alive returns true. -/
namespace Go.Proofs.YtknpglgpkkhhiaaDoor
set_option linter.unusedSimpArgs false
set_option linter.unusedVariables false
open Go.RowKit Go.Proofs.YtknpglgpkkhhiaaDoor.Free2 Go.Proofs.YtknpglgpkkhhiaaDoor.ML RR

set_option maxRecDepth 100000 in
set_option maxHeartbeats 32000000 in
theorem alive_any (w0 : World) (hT : TabR w0) :
    Calls Tryd.prog 55 #[] w0 fun e w' => e = .returned (.bool true) ∧ Below w0.heap.size w0 w' := by
  have HTAB := Lib.hid hT
  clear hT
  go_enter Tryd.func55, Tryd.ntmps55
  go_wp2_with fail
  refine (watchX_any _).mono ?_
  rintro e w1 ⟨⟨b1, rfl, hb1, hh1⟩, hB⟩
  have HB1 := Lib.hid (show Free.Bel w0 w1 from hB)
  clear hB
  have HH1 := Lib.hid hh1
  clear hb1 hh1
  go_wp2_with fail
  refine (ex_share _ w1 (HTAB.out.bel HB1.out) (rl_of9 HH1.out)).mono ?_
  rintro e w2 ⟨rfl, hB⟩
  have HB2 := Lib.hid (show Free.Bel w1 w2 from hB)
  clear hB
  go_wp2_with fail
  have HBOX := Lib.hid (show (w2.alloc (.cells #[.int .i64 1, .int .i64 1] 51)).heap[w2.heap.size]? = some (.cells #[.int .i64 1, .int .i64 1] 51 (0, 0)) from World.alloc_heap_new w2 _)
  refine (watchX_any _).mono ?_
  rintro e w3 ⟨⟨b3, rfl, hb3, hh3⟩, hB⟩
  have HBA := Lib.hid (show Free.Bel (w2.alloc (.cells #[.int .i64 1, .int .i64 1] 51)) w3 from hB)
  have HB3 := Lib.hid (show Free.Bel w2 w3 from (bt (belAlloc _ _) hB))
  clear hB
  have HH3 := Lib.hid hh3
  clear hb3 hh3
  have HBX3 := Lib.hid (show w3.heap[w2.heap.size]? = some (.cells #[.int .i64 1, .int .i64 1] 51 (0, 0)) from (HBA.out.block _ (lt_of_heap HBOX.out)).trans HBOX.out)
  go_wp2_with fail
  refine (ex_can _ w3 (HTAB.out.bel (bt HB1.out (bt HB2.out HB3.out))) (rl_of9 HH3.out)).mono ?_
  rintro e w4 ⟨rfl, hB⟩
  have HB4 := Lib.hid (show Free.Bel w3 w4 from hB)
  clear hB
  go_wp2_with fail
  refine (watchX_any _).mono ?_
  rintro e w5 ⟨⟨b5, rfl, hb5, hh5⟩, hB⟩
  have HB5 := Lib.hid (show Free.Bel w4 w5 from hB)
  clear hB
  have HH5 := Lib.hid hh5
  clear hb5 hh5
  go_wp2_with fail
  refine (ex_today _ w5 (HTAB.out.bel (bt HB1.out (bt HB2.out (bt HB3.out (bt HB4.out HB5.out))))) (rl_of9 HH5.out)).mono ?_
  rintro e w6 ⟨⟨v6, rfl, hv6⟩, hB⟩
  have HB6 := Lib.hid (show Free.Bel w5 w6 from hB)
  clear hB
  have HV6 := Lib.hid hv6
  clear hv6
  go_wp2_with fail
  refine (watchX_any _).mono ?_
  rintro e w7 ⟨⟨b7, rfl, hb7, hh7⟩, hB⟩
  have HB7 := Lib.hid (show Free.Bel w6 w7 from hB)
  clear hB
  have HH7 := Lib.hid hh7
  clear hb7 hh7
  go_wp2_with fail
  refine (ex_days _ w7 (HTAB.out.bel (bt HB1.out (bt HB2.out (bt HB3.out (bt HB4.out (bt HB5.out (bt HB6.out HB7.out))))))) (rl_of9 HH7.out)).mono ?_
  rintro e w8 ⟨⟨v8, rfl, hv8⟩, hB⟩
  have HB8 := Lib.hid (show Free.Bel w7 w8 from hB)
  clear hB
  have HV8 := Lib.hid hv8
  clear hv8
  go_wp2_with fail
  refine (watchX_any _).mono ?_
  rintro e w9 ⟨⟨b9, rfl, hb9, hh9⟩, hB⟩
  have HB9 := Lib.hid (show Free.Bel w8 w9 from hB)
  clear hB
  have HH9 := Lib.hid hh9
  clear hb9 hh9
  go_wp2_with fail
  refine (ex_round _ w9 (HTAB.out.bel (bt HB1.out (bt HB2.out (bt HB3.out (bt HB4.out (bt HB5.out (bt HB6.out (bt HB7.out (bt HB8.out HB9.out))))))))) (rl_of9 HH9.out)).mono ?_
  rintro e w10 ⟨⟨vl, vr, rfl, hvl, hvr⟩, hB⟩
  have HB10 := Lib.hid (show Free.Bel w9 w10 from hB)
  clear hB
  have HVL := Lib.hid hvl
  have HVR := Lib.hid hvr
  clear hvl hvr
  go_wp2_with fail
  refine (watchX_any _).mono ?_
  rintro e w11 ⟨⟨b11, rfl, hb11, hh11⟩, hB⟩
  have HB11 := Lib.hid (show Free.Bel w10 w11 from hB)
  clear hB
  have HH11 := Lib.hid hh11
  clear hb11 hh11
  go_wp2_with fail
  refine (ex_few _ w11 (HTAB.out.bel (bt HB1.out (bt HB2.out (bt HB3.out (bt HB4.out (bt HB5.out (bt HB6.out (bt HB7.out (bt HB8.out (bt HB9.out (bt HB10.out HB11.out))))))))))) (rl_of9 HH11.out)).mono ?_
  rintro e w12 ⟨rfl, hB⟩
  have HB12 := Lib.hid (show Free.Bel w11 w12 from hB)
  clear hB
  go_wp2_with fail
  refine (watchX_any _).mono ?_
  rintro e w13 ⟨⟨b13, rfl, hb13, hh13⟩, hB⟩
  have HB13 := Lib.hid (show Free.Bel w12 w13 from hB)
  clear hB
  have HH13 := Lib.hid hh13
  clear hb13 hh13
  go_wp2_with fail
  refine (ex_moist _ w13 (HTAB.out.bel (bt HB1.out (bt HB2.out (bt HB3.out (bt HB4.out (bt HB5.out (bt HB6.out (bt HB7.out (bt HB8.out (bt HB9.out (bt HB10.out (bt HB11.out (bt HB12.out HB13.out))))))))))))) (rl_of9 HH13.out) nz_some).mono ?_
  rintro e w14 ⟨rfl, hB⟩
  have HB14 := Lib.hid (show Free.Bel w13 w14 from hB)
  clear hB
  go_wp2_with fail
  refine (watchX_any _).mono ?_
  rintro e w15 ⟨⟨b15, rfl, hb15, hh15⟩, hB⟩
  have HB15 := Lib.hid (show Free.Bel w14 w15 from hB)
  clear hB
  have HH15 := Lib.hid hh15
  clear hb15 hh15
  go_wp2_with fail
  refine (ex_spare _ w15 (HTAB.out.bel (bt HB1.out (bt HB2.out (bt HB3.out (bt HB4.out (bt HB5.out (bt HB6.out (bt HB7.out (bt HB8.out (bt HB9.out (bt HB10.out (bt HB11.out (bt HB12.out (bt HB13.out (bt HB14.out HB15.out))))))))))))))) (rl_of9 HH15.out)).mono ?_
  rintro e w16 ⟨rfl, hB⟩
  have HB16 := Lib.hid (show Free.Bel w15 w16 from hB)
  clear hB
  have hbx := ((show Free.Bel w3 w16 from (bt HB4.out (bt HB5.out (bt HB6.out (bt HB7.out (bt HB8.out (bt HB9.out (bt HB10.out (bt HB11.out (bt HB12.out (bt HB13.out (bt HB14.out (bt HB15.out HB16.out))))))))))))).block _ (lt_of_heap HBX3.out)).trans HBX3.out
  have cx0 := cell_of_heap (o := 0) hbx rfl
  have cx1 := cell_of_heap (o := 1) hbx rfl
  clear hbx
  go_wp2_with fail
  refine (dayX_any _ _).mono ?_
  rintro e wd ⟨rfl, rfl⟩
  go_wp2_with fail
  clear cx0 cx1
  refine (sameI_any [1] v6 _ _ (HV6.out.keeps (bt (bt HB7.out (bt HB8.out (bt HB9.out (bt HB10.out (bt HB11.out (bt HB12.out (bt HB13.out (bt HB14.out (bt HB15.out HB16.out))))))))) (belAlloc _ _))) (show IL [1] (.slice (some ⟨w16.heap.size, 0, none⟩) 1 1) (w16.alloc (.cells #[.int .i64 1] 3)) from by have := il_one 1 3 w16; simpa using this)).mono ?_
  rintro e w17 ⟨rfl, hB⟩
  have HB17 := Lib.hid (show Free.Bel w16 w17 from (bt (belAlloc _ _) hB))
  clear hB
  go_wp2_with fail
  refine (dayX_any _ _).mono ?_
  rintro e wd ⟨rfl, rfl⟩
  go_wp2_with fail
  refine (dayX_any _ _).mono ?_
  rintro e wd ⟨rfl, rfl⟩
  go_wp2_with fail
  refine (dayX_any _ _).mono ?_
  rintro e wd ⟨rfl, rfl⟩
  go_wp2_with fail
  have hdl : DL [[1], [2], [1]] (.slice (some ⟨w17.heap.size + 1 + 1 + 1, 0, none⟩) 3 3) ((((w17.alloc (.cells #[.int .i64 1] 3)).alloc (.cells #[.int .i64 2] 3)).alloc (.cells #[.int .i64 1] 3)).alloc (.cells #[.slice (some ⟨w17.heap.size, 0, none⟩) 1 1, .slice (some ⟨w17.heap.size + 1, 0, none⟩) 1 1, .slice (some ⟨w17.heap.size + 1 + 1, 0, none⟩) 1 1] 58)) := by
    have h9 := dl_new (ds := [[1], [2], [1]]) (us := [.slice (some ⟨w17.heap.size, 0, none⟩) 1 1, .slice (some ⟨w17.heap.size + 1, 0, none⟩) 1 1, .slice (some ⟨w17.heap.size + 1 + 1, 0, none⟩) 1 1]) (t := 58) (w := (((w17.alloc (.cells #[.int .i64 1] 3)).alloc (.cells #[.int .i64 2] 3)).alloc (.cells #[.int .i64 1] 3))) rfl (by simp [maxLen]) (fun k hk u hu => by
      have hk9 : k < 3 := hk
      rcases (show k = 0 ∨ k = 1 ∨ k = 2 by omega) with rfl | rfl | rfl
      · obtain rfl := Option.some.inj hu
        exact (IL.keeps (IL.keeps (show IL [1] (.slice (some ⟨w17.heap.size, 0, none⟩) 1 1) (w17.alloc (.cells #[.int .i64 1] 3)) from by have := il_one 1 3 w17; simpa using this) (belAlloc _ _)) (belAlloc _ _))
      · obtain rfl := Option.some.inj hu
        exact (IL.keeps (show IL [2] (.slice (some ⟨w17.heap.size + 1, 0, none⟩) 1 1) ((w17.alloc (.cells #[.int .i64 1] 3)).alloc (.cells #[.int .i64 2] 3)) from by have := il_one 2 3 (w17.alloc (.cells #[.int .i64 1] 3)); simpa using this) (belAlloc _ _))
      · obtain rfl := Option.some.inj hu
        exact (show IL [1] (.slice (some ⟨w17.heap.size + 1 + 1, 0, none⟩) 1 1) (((w17.alloc (.cells #[.int .i64 1] 3)).alloc (.cells #[.int .i64 2] 3)).alloc (.cells #[.int .i64 1] 3)) from by have := il_one 1 3 ((w17.alloc (.cells #[.int .i64 1] 3)).alloc (.cells #[.int .i64 2] 3)); simpa using this)
      )
    simpa using h9
  have HDL := Lib.hid hdl
  clear hdl
  refine (daysX_any _ _).mono ?_
  rintro e wd ⟨rfl, rfl⟩
  go_wp2_with fail
  refine (sameD_any [[1], [2], [1]] v8 _ _ (HV8.out.keeps (bt (bt HB9.out (bt HB10.out (bt HB11.out (bt HB12.out (bt HB13.out (bt HB14.out (bt HB15.out (bt HB16.out HB17.out)))))))) (bt (belAlloc _ _) (bt (belAlloc _ _) (bt (belAlloc _ _) (bt (belAlloc _ _) (Free.Bel.refl _))))))) HDL.out).mono ?_
  rintro e w18 ⟨rfl, hB⟩
  have HB18 := Lib.hid (show Free.Bel w17 w18 from (bt (belAlloc _ _) (bt (belAlloc _ _) (bt (belAlloc _ _) (bt (belAlloc _ _) hB)))))
  clear hB
  go_wp2_with fail
  clear HDL
  refine (dayX_any _ _).mono ?_
  rintro e wd ⟨rfl, rfl⟩
  go_wp2_with fail
  refine (dayX_any _ _).mono ?_
  rintro e wd ⟨rfl, rfl⟩
  go_wp2_with fail
  have hdl : DL [[1], [2]] (.slice (some ⟨w18.heap.size + 1 + 1, 0, none⟩) 2 2) (((w18.alloc (.cells #[.int .i64 1] 3)).alloc (.cells #[.int .i64 2] 3)).alloc (.cells #[.slice (some ⟨w18.heap.size, 0, none⟩) 1 1, .slice (some ⟨w18.heap.size + 1, 0, none⟩) 1 1] 58)) := by
    have h9 := dl_new (ds := [[1], [2]]) (us := [.slice (some ⟨w18.heap.size, 0, none⟩) 1 1, .slice (some ⟨w18.heap.size + 1, 0, none⟩) 1 1]) (t := 58) (w := ((w18.alloc (.cells #[.int .i64 1] 3)).alloc (.cells #[.int .i64 2] 3))) rfl (by simp [maxLen]) (fun k hk u hu => by
      have hk9 : k < 2 := hk
      rcases (show k = 0 ∨ k = 1 by omega) with rfl | rfl
      · obtain rfl := Option.some.inj hu
        exact (IL.keeps (show IL [1] (.slice (some ⟨w18.heap.size, 0, none⟩) 1 1) (w18.alloc (.cells #[.int .i64 1] 3)) from by have := il_one 1 3 w18; simpa using this) (belAlloc _ _))
      · obtain rfl := Option.some.inj hu
        exact (show IL [2] (.slice (some ⟨w18.heap.size + 1, 0, none⟩) 1 1) ((w18.alloc (.cells #[.int .i64 1] 3)).alloc (.cells #[.int .i64 2] 3)) from by have := il_one 2 3 (w18.alloc (.cells #[.int .i64 1] 3)); simpa using this)
      )
    simpa using h9
  have HDL := Lib.hid hdl
  clear hdl
  refine (daysX_any _ _).mono ?_
  rintro e wd ⟨rfl, rfl⟩
  go_wp2_with fail
  refine (sameD_any [[1], [2]] vl _ _ (HVL.out.keeps (bt (bt HB11.out (bt HB12.out (bt HB13.out (bt HB14.out (bt HB15.out (bt HB16.out (bt HB17.out HB18.out))))))) (bt (belAlloc _ _) (bt (belAlloc _ _) (bt (belAlloc _ _) (Free.Bel.refl _)))))) HDL.out).mono ?_
  rintro e w19 ⟨rfl, hB⟩
  have HB19 := Lib.hid (show Free.Bel w18 w19 from (bt (belAlloc _ _) (bt (belAlloc _ _) (bt (belAlloc _ _) hB))))
  clear hB
  go_wp2_with fail
  clear HDL
  refine (dayX_any _ _).mono ?_
  rintro e wd ⟨rfl, rfl⟩
  go_wp2_with fail
  refine (dayX_any _ _).mono ?_
  rintro e wd ⟨rfl, rfl⟩
  go_wp2_with fail
  refine (dayX_any _ _).mono ?_
  rintro e wd ⟨rfl, rfl⟩
  go_wp2_with fail
  refine (dayX_any _ _).mono ?_
  rintro e wd ⟨rfl, rfl⟩
  go_wp2_with fail
  have hdl : DL [[1], [3], [1], [2]] (.slice (some ⟨w19.heap.size + 1 + 1 + 1 + 1, 0, none⟩) 4 4) (((((w19.alloc (.cells #[.int .i64 1] 3)).alloc (.cells #[.int .i64 3] 3)).alloc (.cells #[.int .i64 1] 3)).alloc (.cells #[.int .i64 2] 3)).alloc (.cells #[.slice (some ⟨w19.heap.size, 0, none⟩) 1 1, .slice (some ⟨w19.heap.size + 1, 0, none⟩) 1 1, .slice (some ⟨w19.heap.size + 1 + 1, 0, none⟩) 1 1, .slice (some ⟨w19.heap.size + 1 + 1 + 1, 0, none⟩) 1 1] 58)) := by
    have h9 := dl_new (ds := [[1], [3], [1], [2]]) (us := [.slice (some ⟨w19.heap.size, 0, none⟩) 1 1, .slice (some ⟨w19.heap.size + 1, 0, none⟩) 1 1, .slice (some ⟨w19.heap.size + 1 + 1, 0, none⟩) 1 1, .slice (some ⟨w19.heap.size + 1 + 1 + 1, 0, none⟩) 1 1]) (t := 58) (w := ((((w19.alloc (.cells #[.int .i64 1] 3)).alloc (.cells #[.int .i64 3] 3)).alloc (.cells #[.int .i64 1] 3)).alloc (.cells #[.int .i64 2] 3))) rfl (by simp [maxLen]) (fun k hk u hu => by
      have hk9 : k < 4 := hk
      rcases (show k = 0 ∨ k = 1 ∨ k = 2 ∨ k = 3 by omega) with rfl | rfl | rfl | rfl
      · obtain rfl := Option.some.inj hu
        exact (IL.keeps (IL.keeps (IL.keeps (show IL [1] (.slice (some ⟨w19.heap.size, 0, none⟩) 1 1) (w19.alloc (.cells #[.int .i64 1] 3)) from by have := il_one 1 3 w19; simpa using this) (belAlloc _ _)) (belAlloc _ _)) (belAlloc _ _))
      · obtain rfl := Option.some.inj hu
        exact (IL.keeps (IL.keeps (show IL [3] (.slice (some ⟨w19.heap.size + 1, 0, none⟩) 1 1) ((w19.alloc (.cells #[.int .i64 1] 3)).alloc (.cells #[.int .i64 3] 3)) from by have := il_one 3 3 (w19.alloc (.cells #[.int .i64 1] 3)); simpa using this) (belAlloc _ _)) (belAlloc _ _))
      · obtain rfl := Option.some.inj hu
        exact (IL.keeps (show IL [1] (.slice (some ⟨w19.heap.size + 1 + 1, 0, none⟩) 1 1) (((w19.alloc (.cells #[.int .i64 1] 3)).alloc (.cells #[.int .i64 3] 3)).alloc (.cells #[.int .i64 1] 3)) from by have := il_one 1 3 ((w19.alloc (.cells #[.int .i64 1] 3)).alloc (.cells #[.int .i64 3] 3)); simpa using this) (belAlloc _ _))
      · obtain rfl := Option.some.inj hu
        exact (show IL [2] (.slice (some ⟨w19.heap.size + 1 + 1 + 1, 0, none⟩) 1 1) ((((w19.alloc (.cells #[.int .i64 1] 3)).alloc (.cells #[.int .i64 3] 3)).alloc (.cells #[.int .i64 1] 3)).alloc (.cells #[.int .i64 2] 3)) from by have := il_one 2 3 (((w19.alloc (.cells #[.int .i64 1] 3)).alloc (.cells #[.int .i64 3] 3)).alloc (.cells #[.int .i64 1] 3)); simpa using this)
      )
    simpa using h9
  have HDL := Lib.hid hdl
  clear hdl
  refine (daysX_any _ _).mono ?_
  rintro e wd ⟨rfl, rfl⟩
  go_wp2_with fail
  refine (sameD_any [[1], [3], [1], [2]] vr _ _ (HVR.out.keeps (bt (bt HB11.out (bt HB12.out (bt HB13.out (bt HB14.out (bt HB15.out (bt HB16.out (bt HB17.out (bt HB18.out HB19.out)))))))) (bt (belAlloc _ _) (bt (belAlloc _ _) (bt (belAlloc _ _) (bt (belAlloc _ _) (bt (belAlloc _ _) (Free.Bel.refl _)))))))) HDL.out).mono ?_
  rintro e w20 ⟨rfl, hB⟩
  have HB20 := Lib.hid (show Free.Bel w19 w20 from (bt (belAlloc _ _) (bt (belAlloc _ _) (bt (belAlloc _ _) (bt (belAlloc _ _) (bt (belAlloc _ _) hB))))))
  clear hB
  go_wp2_with fail
  clear HDL
  refine (watchX_any _).mono ?_
  rintro e w21 ⟨⟨b21, rfl, hb21, hh21⟩, hB⟩
  have HB21 := Lib.hid (show Free.Bel w20 w21 from hB)
  clear hB
  have HH21 := Lib.hid hh21
  clear hb21 hh21
  go_wp2_with fail
  refine (dayX_any _ _).mono ?_
  rintro e wd ⟨rfl, rfl⟩
  go_wp2_with fail
  have hdl : DL [[], [1], []] (.slice (some ⟨w21.heap.size + 1, 0, none⟩) 3 3) ((w21.alloc (.cells #[.int .i64 1] 3)).alloc (.cells #[.slice none 0 0, .slice (some ⟨w21.heap.size, 0, none⟩) 1 1, .slice none 0 0] 58)) := by
    have h9 := dl_new (ds := [[], [1], []]) (us := [.slice none 0 0, .slice (some ⟨w21.heap.size, 0, none⟩) 1 1, .slice none 0 0]) (t := 58) (w := (w21.alloc (.cells #[.int .i64 1] 3))) rfl (by simp [maxLen]) (fun k hk u hu => by
      have hk9 : k < 3 := hk
      rcases (show k = 0 ∨ k = 1 ∨ k = 2 by omega) with rfl | rfl | rfl
      · obtain rfl := Option.some.inj hu
        exact IL.nil _
      · obtain rfl := Option.some.inj hu
        exact (show IL [1] (.slice (some ⟨w21.heap.size, 0, none⟩) 1 1) (w21.alloc (.cells #[.int .i64 1] 3)) from by have := il_one 1 3 w21; simpa using this)
      · obtain rfl := Option.some.inj hu
        exact IL.nil _
      )
    simpa using h9
  have HDL := Lib.hid hdl
  clear hdl
  refine (daysX_any _ _).mono ?_
  rintro e wd ⟨rfl, rfl⟩
  go_wp2_with fail
  refine (ex_hot _ _ (HTAB.out.bel (bt (bt HB1.out (bt HB2.out (bt HB3.out (bt HB4.out (bt HB5.out (bt HB6.out (bt HB7.out (bt HB8.out (bt HB9.out (bt HB10.out (bt HB11.out (bt HB12.out (bt HB13.out (bt HB14.out (bt HB15.out (bt HB16.out (bt HB17.out (bt HB18.out (bt HB19.out (bt HB20.out HB21.out)))))))))))))))))))) (bt (belAlloc _ _) (bt (belAlloc _ _) (Free.Bel.refl _))))) ((rl_of9 HH21.out).keeps (bt (Free.Bel.refl _) (bt (belAlloc _ _) (bt (belAlloc _ _) (Free.Bel.refl _))))) nz_some _ HDL.out).mono ?_
  rintro e w22 ⟨⟨v22, rfl, hv22⟩, hB⟩
  have HB22 := Lib.hid (show Free.Bel w21 w22 from (bt (belAlloc _ _) (bt (belAlloc _ _) hB)))
  clear hB
  clear HDL
  have HV22 := Lib.hid hv22
  clear hv22
  go_wp2_with fail
  refine (watchX_any _).mono ?_
  rintro e w23 ⟨⟨b23, rfl, hb23, hh23⟩, hB⟩
  have HB23 := Lib.hid (show Free.Bel w22 w23 from hB)
  clear hB
  have HH23 := Lib.hid hh23
  clear hb23 hh23
  go_wp2_with fail
  refine (dayX_any _ _).mono ?_
  rintro e wd ⟨rfl, rfl⟩
  go_wp2_with fail
  refine (dayX_any _ _).mono ?_
  rintro e wd ⟨rfl, rfl⟩
  go_wp2_with fail
  have hdl : DL [[1], [2]] (.slice (some ⟨w23.heap.size + 1 + 1, 0, none⟩) 2 2) (((w23.alloc (.cells #[.int .i64 1] 3)).alloc (.cells #[.int .i64 2] 3)).alloc (.cells #[.slice (some ⟨w23.heap.size, 0, none⟩) 1 1, .slice (some ⟨w23.heap.size + 1, 0, none⟩) 1 1] 58)) := by
    have h9 := dl_new (ds := [[1], [2]]) (us := [.slice (some ⟨w23.heap.size, 0, none⟩) 1 1, .slice (some ⟨w23.heap.size + 1, 0, none⟩) 1 1]) (t := 58) (w := ((w23.alloc (.cells #[.int .i64 1] 3)).alloc (.cells #[.int .i64 2] 3))) rfl (by simp [maxLen]) (fun k hk u hu => by
      have hk9 : k < 2 := hk
      rcases (show k = 0 ∨ k = 1 by omega) with rfl | rfl
      · obtain rfl := Option.some.inj hu
        exact (IL.keeps (show IL [1] (.slice (some ⟨w23.heap.size, 0, none⟩) 1 1) (w23.alloc (.cells #[.int .i64 1] 3)) from by have := il_one 1 3 w23; simpa using this) (belAlloc _ _))
      · obtain rfl := Option.some.inj hu
        exact (show IL [2] (.slice (some ⟨w23.heap.size + 1, 0, none⟩) 1 1) ((w23.alloc (.cells #[.int .i64 1] 3)).alloc (.cells #[.int .i64 2] 3)) from by have := il_one 2 3 (w23.alloc (.cells #[.int .i64 1] 3)); simpa using this)
      )
    simpa using h9
  have HDL := Lib.hid hdl
  clear hdl
  refine (daysX_any _ _).mono ?_
  rintro e wd ⟨rfl, rfl⟩
  go_wp2_with fail
  refine (ex_after _ _ (HTAB.out.bel (bt (bt HB1.out (bt HB2.out (bt HB3.out (bt HB4.out (bt HB5.out (bt HB6.out (bt HB7.out (bt HB8.out (bt HB9.out (bt HB10.out (bt HB11.out (bt HB12.out (bt HB13.out (bt HB14.out (bt HB15.out (bt HB16.out (bt HB17.out (bt HB18.out (bt HB19.out (bt HB20.out (bt HB21.out (bt HB22.out HB23.out)))))))))))))))))))))) (bt (belAlloc _ _) (bt (belAlloc _ _) (bt (belAlloc _ _) (Free.Bel.refl _)))))) ((rl_of9 HH23.out).keeps (bt (Free.Bel.refl _) (bt (belAlloc _ _) (bt (belAlloc _ _) (bt (belAlloc _ _) (Free.Bel.refl _)))))) nz_some _ HDL.out).mono ?_
  rintro e w24 ⟨⟨g9, c9, rfl, a2, a5, a8⟩, hB⟩
  have HB24 := Lib.hid (show Free.Bel w23 w24 from (bt (belAlloc _ _) (bt (belAlloc _ _) (bt (belAlloc _ _) hB))))
  clear hB
  clear HDL
  have HAF := Lib.hid (And.intro a2 (And.intro a5 a8))
  clear a2 a5 a8
  have HB24B := Lib.hid (show (w24.alloc (.cells #[.int .i64 1, .slice (some ⟨g9, 0, none⟩) 3 c9] 24)).heap[w24.heap.size]? = some (.cells #[.int .i64 1, .slice (some ⟨g9, 0, none⟩) 3 c9] 24 (0, 0)) from World.alloc_heap_new w24 _)
  go_wp2_with fail
  refine (watchX_any _).mono ?_
  rintro e w25 ⟨⟨b25, rfl, hb25, hh25⟩, hB⟩
  have HBB := Lib.hid (show Free.Bel (w24.alloc (.cells #[.int .i64 1, .slice (some ⟨g9, 0, none⟩) 3 c9] 24)) w25 from hB)
  have HB25 := Lib.hid (show Free.Bel w24 w25 from (bt (belAlloc _ _) hB))
  clear hB
  have HH25 := Lib.hid hh25
  clear hb25 hh25
  have HBX25 := Lib.hid (show w25.heap[w24.heap.size]? = some (.cells #[.int .i64 1, .slice (some ⟨g9, 0, none⟩) 3 c9] 24 (0, 0)) from (HBB.out.block _ (lt_of_heap HB24B.out)).trans HB24B.out)
  go_wp2_with fail
  refine (dayX_any _ _).mono ?_
  rintro e wd ⟨rfl, rfl⟩
  go_wp2_with fail
  refine (dayX_any _ _).mono ?_
  rintro e wd ⟨rfl, rfl⟩
  go_wp2_with fail
  refine (dayX_any _ _).mono ?_
  rintro e wd ⟨rfl, rfl⟩
  go_wp2_with fail
  refine (dayX_any _ _).mono ?_
  rintro e wd ⟨rfl, rfl⟩
  go_wp2_with fail
  have hdl : DL [[1], [2], [1], [3]] (.slice (some ⟨w25.heap.size + 1 + 1 + 1 + 1, 0, none⟩) 4 4) (((((w25.alloc (.cells #[.int .i64 1] 3)).alloc (.cells #[.int .i64 2] 3)).alloc (.cells #[.int .i64 1] 3)).alloc (.cells #[.int .i64 3] 3)).alloc (.cells #[.slice (some ⟨w25.heap.size, 0, none⟩) 1 1, .slice (some ⟨w25.heap.size + 1, 0, none⟩) 1 1, .slice (some ⟨w25.heap.size + 1 + 1, 0, none⟩) 1 1, .slice (some ⟨w25.heap.size + 1 + 1 + 1, 0, none⟩) 1 1] 58)) := by
    have h9 := dl_new (ds := [[1], [2], [1], [3]]) (us := [.slice (some ⟨w25.heap.size, 0, none⟩) 1 1, .slice (some ⟨w25.heap.size + 1, 0, none⟩) 1 1, .slice (some ⟨w25.heap.size + 1 + 1, 0, none⟩) 1 1, .slice (some ⟨w25.heap.size + 1 + 1 + 1, 0, none⟩) 1 1]) (t := 58) (w := ((((w25.alloc (.cells #[.int .i64 1] 3)).alloc (.cells #[.int .i64 2] 3)).alloc (.cells #[.int .i64 1] 3)).alloc (.cells #[.int .i64 3] 3))) rfl (by simp [maxLen]) (fun k hk u hu => by
      have hk9 : k < 4 := hk
      rcases (show k = 0 ∨ k = 1 ∨ k = 2 ∨ k = 3 by omega) with rfl | rfl | rfl | rfl
      · obtain rfl := Option.some.inj hu
        exact (IL.keeps (IL.keeps (IL.keeps (show IL [1] (.slice (some ⟨w25.heap.size, 0, none⟩) 1 1) (w25.alloc (.cells #[.int .i64 1] 3)) from by have := il_one 1 3 w25; simpa using this) (belAlloc _ _)) (belAlloc _ _)) (belAlloc _ _))
      · obtain rfl := Option.some.inj hu
        exact (IL.keeps (IL.keeps (show IL [2] (.slice (some ⟨w25.heap.size + 1, 0, none⟩) 1 1) ((w25.alloc (.cells #[.int .i64 1] 3)).alloc (.cells #[.int .i64 2] 3)) from by have := il_one 2 3 (w25.alloc (.cells #[.int .i64 1] 3)); simpa using this) (belAlloc _ _)) (belAlloc _ _))
      · obtain rfl := Option.some.inj hu
        exact (IL.keeps (show IL [1] (.slice (some ⟨w25.heap.size + 1 + 1, 0, none⟩) 1 1) (((w25.alloc (.cells #[.int .i64 1] 3)).alloc (.cells #[.int .i64 2] 3)).alloc (.cells #[.int .i64 1] 3)) from by have := il_one 1 3 ((w25.alloc (.cells #[.int .i64 1] 3)).alloc (.cells #[.int .i64 2] 3)); simpa using this) (belAlloc _ _))
      · obtain rfl := Option.some.inj hu
        exact (show IL [3] (.slice (some ⟨w25.heap.size + 1 + 1 + 1, 0, none⟩) 1 1) ((((w25.alloc (.cells #[.int .i64 1] 3)).alloc (.cells #[.int .i64 2] 3)).alloc (.cells #[.int .i64 1] 3)).alloc (.cells #[.int .i64 3] 3)) from by have := il_one 3 3 (((w25.alloc (.cells #[.int .i64 1] 3)).alloc (.cells #[.int .i64 2] 3)).alloc (.cells #[.int .i64 1] 3)); simpa using this)
      )
    simpa using h9
  have HDL := Lib.hid hdl
  clear hdl
  refine (daysX_any _ _).mono ?_
  rintro e wd ⟨rfl, rfl⟩
  go_wp2_with fail
  refine (ex_rep _ _ (HTAB.out.bel (bt (bt HB1.out (bt HB2.out (bt HB3.out (bt HB4.out (bt HB5.out (bt HB6.out (bt HB7.out (bt HB8.out (bt HB9.out (bt HB10.out (bt HB11.out (bt HB12.out (bt HB13.out (bt HB14.out (bt HB15.out (bt HB16.out (bt HB17.out (bt HB18.out (bt HB19.out (bt HB20.out (bt HB21.out (bt HB22.out (bt HB23.out (bt HB24.out HB25.out)))))))))))))))))))))))) (bt (belAlloc _ _) (bt (belAlloc _ _) (bt (belAlloc _ _) (bt (belAlloc _ _) (bt (belAlloc _ _) (Free.Bel.refl _)))))))) ((rl_of9 HH25.out).keeps (bt (Free.Bel.refl _) (bt (belAlloc _ _) (bt (belAlloc _ _) (bt (belAlloc _ _) (bt (belAlloc _ _) (bt (belAlloc _ _) (Free.Bel.refl _)))))))) nz_some _ HDL.out).mono ?_
  rintro e w26 ⟨rfl, hB⟩
  have HB26 := Lib.hid (show Free.Bel w25 w26 from (bt (belAlloc _ _) (bt (belAlloc _ _) (bt (belAlloc _ _) (bt (belAlloc _ _) (bt (belAlloc _ _) hB))))))
  clear hB
  clear HDL
  go_wp2_with fail
  refine (watchX_any _).mono ?_
  rintro e w27 ⟨⟨b27, rfl, hb27, hh27⟩, hB⟩
  have HB27 := Lib.hid (show Free.Bel w26 w27 from hB)
  clear hB
  have HH27 := Lib.hid hh27
  have HBZ := Lib.hid hb27
  clear hb27 hh27
  go_wp2_with fail
  have hlt := lt_of_heap HH27.out
  have hm21 : (w27.alloc (.cells #[.int .i64 1, .slice (some ⟨b27, 0, none⟩) 3 3] 24)).heap[w27.heap.size]? = some (.cells #[.int .i64 1, .slice (some ⟨b27, 0, none⟩) 3 3] 24 (0, 0)) := World.alloc_heap_new w27 _
  have HM21 := Lib.hid hm21
  have HFF : Hid (∀ W', RX (w27.heap.size + 1) [b27] (w27.alloc (.cells #[.int .i64 1, .slice (some ⟨b27, 0, none⟩) 3 3] 24)).drew W' → W'.heap[w27.heap.size]? = some (.cells #[.int .i64 1, .slice (some ⟨b27, 0, none⟩) 3 3] 24 (0, 0))) := fun W' hR => (hR.block _ (by omega) (by simp; omega)).trans HM21.out
  have hF : ∀ W', RX (w27.heap.size + 1) [b27] (w27.alloc (.cells #[.int .i64 1, .slice (some ⟨b27, 0, none⟩) 3 3] 24)).drew W' → W'.cell? ⟨w27.heap.size, 1, none⟩ = some (.slice (some ⟨b27, 0, none⟩) 3 3) := fun W' hR => cell_of_heap (o := 1) (HFF.out W' hR) rfl
  have HJ0 := Lib.hid (show JW b27 (fun _ => none) (w27.alloc (.cells #[.int .i64 1, .slice (some ⟨b27, 0, none⟩) 3 3] 24)).drew from (heap_old HH27.out : (w27.alloc (.cells #[.int .i64 1, .slice (some ⟨b27, 0, none⟩) 3 3] 24)).heap[b27]? = _))
  refine Free2.wp_free (R := RX (w27.heap.size + 1) [b27]) (J := JW b27) (by kernel_rfl) (by kernel_rfl) (RX.refl _ _) RX.trans HJ0.out ?_
  refine Free2.Chain.ex ?_ 0 rfl [] [21] (by kernel_rfl) (by kernel_rfl) rfl (RX.refl _ _) (fun X W v h => JW.skip h 0 v (by decide) (by decide)) ?_ ?_
  rotate_left
  · (intro ev W hb hR hO hD; have hS := hF W hR; obtain ⟨hb1, hb2, hb3⟩ := hb; simp only [Free.AllDeps, Free.AllOuts, Free.At, al1, al2, al3, al4, al5, and_true] at hO hD; go_simp; rfl)
  simp only [an1, an2]
  refine Free2.Chain.ex ?_ 1 rfl [(0, 197)] [] (by kernel_rfl) (by kernel_rfl) rfl (RX.refl _ _) (fun X W v h => JW.skip h 1 v (by decide) (by decide)) ?_ ?_
  rotate_left
  · (intro ev W hb hR hO hD; have hS := hF W hR; obtain ⟨hb1, hb2, hb3⟩ := hb; simp only [Free.AllDeps, Free.AllOuts, Free.At, al1, al2, al3, al4, al5, and_true] at hO hD; go_simp; rfl)
  simp only [an1, an2]
  refine Free2.Chain.ex ?_ 2 rfl [] [21] (by kernel_rfl) (by kernel_rfl) rfl (RX.refl _ _) (fun X W v h => JW.skip h 2 v (by decide) (by decide)) ?_ ?_
  rotate_left
  · (intro ev W hb hR hO hD; have hS := hF W hR; obtain ⟨hb1, hb2, hb3⟩ := hb; simp only [Free.AllDeps, Free.AllOuts, Free.At, al1, al2, al3, al4, al5, and_true] at hO hD; go_simp; rfl)
  simp only [an1, an2]
  refine Free2.Chain.ex ?_ 3 rfl [(2, 199)] [] (by kernel_rfl) (by kernel_rfl) rfl (RX.refl _ _) (fun X W v h => JW.skip h 3 v (by decide) (by decide)) ?_ ?_
  rotate_left
  · (intro ev W hb hR hO hD; have hS := hF W hR; obtain ⟨hb1, hb2, hb3⟩ := hb; simp only [Free.AllDeps, Free.AllOuts, Free.At, al1, al2, al3, al4, al5, and_true] at hO hD; go_simp; rfl)
  simp only [an1, an2]
  refine Free2.Chain.ex ?_ 4 rfl [(1, 198), (0, 197), (1, 198)] [] (by kernel_rfl) (by kernel_rfl) rfl (RX.refl _ _) (fun X W v h => JW.skip h 4 v (by decide) (by decide)) ?_ ?_
  rotate_left
  · (intro ev W hb hR hO hD; have hS := hF W hR; obtain ⟨hb1, hb2, hb3⟩ := hb; simp only [Free.AllDeps, Free.AllOuts, Free.At, al1, al2, al3, al4, al5, and_true] at hO hD; go_simp; rfl)
  simp only [an1, an2]
  refine Free2.Chain.ex ?_ 5 rfl [(4, 201), (0, 197), (1, 198)] [] (by kernel_rfl) (by kernel_rfl) rfl (RX.refl _ _) (fun X W v h => JW.skip h 5 v (by decide) (by decide)) ?_ ?_
  rotate_left
  · (intro ev W hb hR hO hD; have hS := hF W hR; obtain ⟨hb1, hb2, hb3⟩ := hb; simp only [Free.AllDeps, Free.AllOuts, Free.At, al1, al2, al3, al4, al5, and_true] at hO hD; go_simp; rfl)
  simp only [an1, an2]
  refine Free2.Chain.pr (fun _ _ => True) 6 rfl [(5, 202), (0, 197), (1, 198)] [] (by kernel_rfl) (by kernel_rfl) rfl (fun _ _ _ _ h => h) ?_ ?_
  · (intro ev W X hb hR hO hD hj hx hax; have hS := hF W hR; obtain ⟨hb1, hb2, hb3⟩ := hb; simp only [Free.AllDeps, Free.AllOuts, Free.At, al1, al2, al3, al4, al5, and_true] at hO hD; simp only [Free2.AllX, and_true] at hax; obtain ⟨x5, x8, c5, c8, f5, f8⟩ := JW.at hj; go_simp; exact ⟨RX.set (by simp), JW.put6 hj _⟩)
  simp only [an1, an2]
  refine Free2.Chain.ex ?_ 7 rfl [(3, 200), (0, 197), (1, 198), (2, 199), (3, 200), (4, 201), (5, 202)] [] (by kernel_rfl) (by kernel_rfl) rfl (RX.refl _ _) (fun X W v h => JW.skip h 7 v (by decide) (by decide)) ?_ ?_
  rotate_left
  · (intro ev W hb hR hO hD; have hS := hF W hR; obtain ⟨hb1, hb2, hb3⟩ := hb; simp only [Free.AllDeps, Free.AllOuts, Free.At, al1, al2, al3, al4, al5, and_true] at hO hD; go_simp; rfl)
  simp only [an1, an2]
  refine Free2.Chain.ex ?_ 8 rfl [(7, 203), (0, 197), (1, 198), (2, 199), (3, 200), (4, 201), (5, 202)] [] (by kernel_rfl) (by kernel_rfl) rfl (RX.refl _ _) (fun X W v h => JW.skip h 8 v (by decide) (by decide)) ?_ ?_
  rotate_left
  · (intro ev W hb hR hO hD; have hS := hF W hR; obtain ⟨hb1, hb2, hb3⟩ := hb; simp only [Free.AllDeps, Free.AllOuts, Free.At, al1, al2, al3, al4, al5, and_true] at hO hD; go_simp; rfl)
  simp only [an1, an2]
  refine Free2.Chain.pr (fun _ _ => True) 9 rfl [(8, 204), (0, 197), (1, 198), (2, 199), (3, 200), (4, 201), (5, 202)] [] (by kernel_rfl) (by kernel_rfl) rfl (fun _ _ _ _ h => h) ?_ ?_
  · (intro ev W X hb hR hO hD hj hx hax; have hS := hF W hR; obtain ⟨hb1, hb2, hb3⟩ := hb; simp only [Free.AllDeps, Free.AllOuts, Free.At, al1, al2, al3, al4, al5, and_true] at hO hD; simp only [Free2.AllX, and_true] at hax; obtain ⟨x5, x8, c5, c8, f5, f8⟩ := JW.at hj; go_simp; exact ⟨RX.set (by simp), JW.put9 hj _⟩)
  simp only [an1, an2]
  intro ys w28 hR hV hX
  obtain ⟨X, hj, hxx⟩ := hX
  simp only [Free.AllV, Free.At, List.length_cons, List.length_nil, Nat.reduceAdd, List.getElem?_cons_succ, List.getElem?_cons_zero, true_and, and_true] at hV
  simp only [Free.putsFrom, Act.put, Nat.zero_add, Nat.reduceAdd, hV, List.setIfInBounds_toArray, List.set_cons_succ, List.set_cons_zero]
  have hl28 : w28.heap[b27]? = some (.cells #[.int .i64 1, .int .i64 2, .int .i64 0, .int .i64 2, .int .i64 4, .int .i64 2, .int .i64 3, .int .i64 4, .int .i64 3] 47 (0, 0)) := by
    have h9 := hj
    unfold JW at h9
    rw [hxx 6 (by decide), hxx 9 (by decide)] at h9
    exact h9
  have HL28 := Lib.hid hl28
  have h9b := HFF.out w28 hR
  have c20 := cell_of_heap (o := 0) h9b rfl
  have c21 := cell_of_heap (o := 1) h9b rfl
  have HB28 := Lib.hid (show Free.Bel w26 w28 from ⟨hR.os.trans HB27.out.os, hR.tape.trans HB27.out.tape, hR.output.trans HB27.out.output, Nat.le_trans HB27.out.size (by have := hR.size; simp at this; omega), fun k hk => (hR.block k (by have := HB27.out.size; omega) (by have := HBZ.out; simp; omega)).trans ((Below.heap_alloc _ _ _ (by have := HB27.out.size; omega)).trans (HB27.out.block k hk))⟩)
  clear hl28 h9b hR hV hj hxx hF hm21 hlt
  go_wp2_with fail
  refine (ex_last _ w28 (HTAB.out.bel (bt HB1.out (bt HB2.out (bt HB3.out (bt HB4.out (bt HB5.out (bt HB6.out (bt HB7.out (bt HB8.out (bt HB9.out (bt HB10.out (bt HB11.out (bt HB12.out (bt HB13.out (bt HB14.out (bt HB15.out (bt HB16.out (bt HB17.out (bt HB18.out (bt HB19.out (bt HB20.out (bt HB21.out (bt HB22.out (bt HB23.out (bt HB24.out (bt HB25.out (bt HB26.out HB28.out))))))))))))))))))))))))))) (rl_of9 HL28.out)).mono ?_
  rintro e w29 ⟨⟨v29, rfl, hv29⟩, hB⟩
  have HB29 := Lib.hid (show Free.Bel w28 w29 from hB)
  clear hB
  have HV29 := Lib.hid hv29
  clear hv29 c20 c21
  go_wp2_with fail
  refine (sameH_any [(3, 2)] v22 _ _ (HV22.out.keeps (bt (bt HB23.out (bt HB24.out (bt HB25.out (bt HB26.out (bt HB28.out HB29.out))))) (belAlloc _ _))) (pl_one 3 2 _ _)).mono ?_
  rintro e w30 ⟨rfl, hB⟩
  have HB30 := Lib.hid (show Free.Bel w29 w30 from (bt (belAlloc _ _) hB))
  clear hB
  have hbx := ((show Free.Bel w25 w30 from (bt HB26.out (bt HB28.out (bt HB29.out HB30.out)))).block _ (lt_of_heap HBX25.out)).trans HBX25.out
  have cx1 := cell_of_heap (o := 1) hbx rfl
  have d2 := keepsB (bt HB25.out (bt HB26.out (bt HB28.out (bt HB29.out HB30.out)))) HAF.out.1
  have d5 := keepsB (bt HB25.out (bt HB26.out (bt HB28.out (bt HB29.out HB30.out)))) HAF.out.2.1
  have d8 := keepsB (bt HB25.out (bt HB26.out (bt HB28.out (bt HB29.out HB30.out)))) HAF.out.2.2
  clear hbx
  go_wp2_with fail
  clear cx1 d2 d5 d8
  refine (dayX_any _ _).mono ?_
  rintro e wd ⟨rfl, rfl⟩
  go_wp2_with fail
  have hdl : DL [[3]] (.slice (some ⟨w30.heap.size + 1, 0, none⟩) 1 1) ((w30.alloc (.cells #[.int .i64 3] 3)).alloc (.cells #[.slice (some ⟨w30.heap.size, 0, none⟩) 1 1] 58)) := by
    have h9 := dl_new (ds := [[3]]) (us := [.slice (some ⟨w30.heap.size, 0, none⟩) 1 1]) (t := 58) (w := (w30.alloc (.cells #[.int .i64 3] 3))) rfl (by simp [maxLen]) (fun k hk u hu => by
      have hk9 : k < 1 := hk
      rcases (show k = 0 by omega) with rfl
      · obtain rfl := Option.some.inj hu
        exact (show IL [3] (.slice (some ⟨w30.heap.size, 0, none⟩) 1 1) (w30.alloc (.cells #[.int .i64 3] 3)) from by have := il_one 3 3 w30; simpa using this)
      )
    simpa using h9
  have HDL := Lib.hid hdl
  clear hdl
  refine (daysX_any _ _).mono ?_
  rintro e wd ⟨rfl, rfl⟩
  go_wp2_with fail
  refine (sameD_any [[3]] v29 _ _ (HV29.out.keeps (bt HB30.out (bt (belAlloc _ _) (bt (belAlloc _ _) (Free.Bel.refl _))))) HDL.out).mono ?_
  rintro e w31 ⟨rfl, hB⟩
  have HB31 := Lib.hid (show Free.Bel w30 w31 from (bt (belAlloc _ _) (bt (belAlloc _ _) hB)))
  clear hB
  go_wp2_with fail
  go_ret
  exact ⟨rfl, (bt HB1.out (bt HB2.out (bt HB3.out (bt HB4.out (bt HB5.out (bt HB6.out (bt HB7.out (bt HB8.out (bt HB9.out (bt HB10.out (bt HB11.out (bt HB12.out (bt HB13.out (bt HB14.out (bt HB15.out (bt HB16.out (bt HB17.out (bt HB18.out (bt HB19.out (bt HB20.out (bt HB21.out (bt HB22.out (bt HB23.out (bt HB24.out (bt HB25.out (bt HB26.out (bt HB28.out (bt HB29.out (bt HB30.out HB31.out)))))))))))))))))))))))))))))⟩
end Go.Proofs.YtknpglgpkkhhiaaDoor

/- ready, of chapter 07's laws. -/
namespace Go.Proofs.YtknpglgpkkhhiaaDoor
set_option linter.unusedSimpArgs false
set_option linter.unusedVariables false
open Go.RowKit Go.Proofs.YtknpglgpkkhhiaaDoor.Free2 Go.Proofs.YtknpglgpkkhhiaaDoor.ML RR

set_option maxRecDepth 100000 in
set_option maxHeartbeats 8000000 in
theorem ready_v (h : Int) (xs : List Rk) (u : Value) (w : World) (hu : RL xs u w) (r : Bool) (hr : Hid (watchB h xs = r)) :
    Calls Tryd.prog 56 #[.agg #[.int .i64 h, u]] w fun e w' => e = .returned (.bool r) ∧ Below w.heap.size w w' := by
  have HU := Lib.hid hu
  obtain ⟨p, cp, rfl, _, _⟩ := hu
  have KB : Free.Bel w (w.alloc (.cells #[.int .i64 h, .slice p xs.length cp] 24)) := belAlloc _ _
  have FA : ∀ W, Free.Bel (w.alloc (.cells #[.int .i64 h, .slice p xs.length cp] 24)) W → W.cell? ⟨w.heap.size, 0, none⟩ = some (.int .i64 h) ∧ W.cell? ⟨w.heap.size, 1, none⟩ = some (.slice p xs.length cp) := fun W hW => ⟨keepsB hW (by simp [go_sem]), keepsB hW (by simp [go_sem])⟩
  have KE : Free.Bel (w.alloc (.cells #[.int .i64 h, .slice p xs.length cp] 24)) (w.alloc (.cells #[.int .i64 h, .slice p xs.length cp] 24)) := Free.Bel.refl _
  have HGR := Lib.hid (great_any h xs.length cp p (w.alloc (.cells #[.int .i64 h, .slice p xs.length cp] 24)))
  by_cases h10 : xs.length ≤ 10
  · have g0 : decide (10 < (xs.length : Int)) = false := decide_eq_false (by omega)
    rw [g0] at HGR
    clear g0
    go_enter Tryd.func56, Tryd.ntmps56
    go_wp2_with fail
    refine HGR.out.mono ?_
    rintro e w1 ⟨rfl, hB1⟩
    have K1 : Free.Bel (w.alloc (.cells #[.int .i64 h, .slice p xs.length cp] 24)) w1 := hB1
    clear hB1
    go_wp2_with fail
    refine (watchR_v h xs _ w1 (HU.out.keeps (bt KB K1)) r hr).mono ?_
    rintro e w2 ⟨rfl, hB2⟩
    go_wp2_with fail
    go_ret
    exact ⟨rfl, bt KB (bt K1 hB2)⟩
  · have g0 : decide (10 < (xs.length : Int)) = true := decide_eq_true (by omega)
    rw [g0] at HGR
    obtain rfl : r = false := by
      cases r with
      | false => rfl
      | true => have := (watchB_iff.1 hr.out).2.1; omega
    clear g0
    go_enter Tryd.func56, Tryd.ntmps56
    go_wp2_with fail
    refine HGR.out.mono ?_
    rintro e w1 ⟨rfl, hB1⟩
    go_wp2_with fail
    go_ret
    exact ⟨rfl, bt KB hB1⟩
end Go.Proofs.YtknpglgpkkhhiaaDoor

/- The table of what a watch is asked: what the row's list gives; a start that meets it. -/
namespace Go.Proofs.YtknpglgpkkhhiaaDoor.Tab
open Go Go.ChangeShapes Go.WideShapes Go.ChangeAt Go.RowKit

abbrev laid {H : Type} : List (String × DataW H) := [("oilcake/round.checks", Rows.laid_oilcake_round_checks)]
theorem own : ownKnob Tryd.prog.godebug = none := by kernel_rfl
theorem laidOut : laidOutB Tryd.prog = true := by kernel_rfl
theorem gTab : Tryd.prog.globalNamed "oilcake/round.checks" = some 0 := by kernel_rfl
theorem tTab : (Tryd.prog.globals[0]?).map (·.type) = some 121 := by kernel_rfl
theorem c118 : Tryd.prog.cellsOf 121 = 3 := by kernel_rfl
theorem c117 : Tryd.prog.cellsOf 120 = 1 := by kernel_rfl
theorem c116 : Tryd.prog.cellsOf 26 = 1 := by kernel_rfl

/-- The door's own heap meets the condition. -/
theorem door_met (os : Os) (args : Array Value) : laidMetH Tryd.prog laid ((World.doorLaid Tryd.prog 17 os).forCall (fun _ _ => 0) ⟨#[], args, []⟩).memory :=
  laidMetH_of_parts3 (fuel := 8) (laidMet_of_run' 8 (by kernel_rfl) (by kernel_rfl)) (by kernel_rfl) (by kernel_rfl)

theorem one {W : World} {n : Nat} {c : Value} {y : DataW (List UInt8) × List MemPlace} {b : UInt8} {r : List UInt8} {f0 : FuncId} (hy : y.1 = .agg [.held (b :: r)])
    (hone : ((List.range Tryd.prog.funcs.size).filter fun f => (Tryd.prog.funcs[f]?).any (·.name.toUTF8.data.toList == b :: r)) = [f0])
    (h : DataW.trod (funcToken Tryd.prog) Tryd.prog W 0 (fun _ => true) true n 120 [c] = some y) : c = .func (.func f0) #[] #[] := by
  obtain ⟨y0, m, rfl, _, h0⟩ := trod_struct1 Tryd.underlying120 h
  simp only [c116, List.drop_zero, List.take_one, List.head?_cons, Option.toList_some] at h0
  simp at hy
  obtain ⟨z, q⟩ := y0
  simp only at hy
  subst hy
  exact func_of_trod Tryd.underlying26 hone (by simpa using h0)

theorem of_laid {W : World} (h : laidMetH Tryd.prog laid W) : TabR W := by
  obtain ⟨g, t, cs, fuel, p, hg, ht, hv, hd⟩ := h.funcs (List.mem_singleton.2 rfl)
  obtain rfl := Option.some.inj (gTab.symm.trans hg)
  obtain rfl := Option.some.inj (tTab.symm.trans ht)
  have hd' : DataW.trod (funcToken Tryd.prog) Tryd.prog W 0 (fun _ => true) true fuel 121 cs.toList = some (.agg [.agg [.held [111, 105, 108, 99, 97, 107, 101, 47, 114, 111, 117, 110, 100, 46, 99, 104, 101, 99, 107, 115, 36, 49]], .agg [.held [111, 105, 108, 99, 97, 107, 101, 47, 114, 111, 117, 110, 100, 46, 99, 104, 101, 99, 107, 115, 36, 50]], .agg [.held [111, 105, 108, 99, 97, 107, 101, 47, 114, 111, 117, 110, 100, 46, 99, 104, 101, 99, 107, 115, 36, 51]]], p) := hd
  have hl : cs.size = 3 := by
    obtain ⟨_, _, _, _, hl, _, _⟩ := DataW.trod_array Tryd.underlying121 hd'
    simpa [c118] using hl
  obtain ⟨c0, c1, c2, rfl⟩ := Joins.array3 hl
  obtain ⟨y0, y1, y2, n, hx, h0, h1, h2⟩ := trod_array3 Tryd.underlying121 c117 hd'
  simp only [Prod.mk.injEq, DataW.agg.injEq, List.cons.injEq, and_true] at hx
  obtain ⟨⟨e0, e1, e2⟩, _⟩ := hx
  have f0 := one (f0 := 135) e0.symm (by kernel_rfl) h0
  have f1 := one (f0 := 136) e1.symm (by kernel_rfl) h1
  have f2 := one (f0 := 137) e2.symm (by kernel_rfl) h2
  subst f0 f1 f2
  exact ⟨World.var?_cell hg hv 0, World.var?_cell hg hv 1, World.var?_cell hg hv 2⟩
end Go.Proofs.YtknpglgpkkhhiaaDoor.Tab

