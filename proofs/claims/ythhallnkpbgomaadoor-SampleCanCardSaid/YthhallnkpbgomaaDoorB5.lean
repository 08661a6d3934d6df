/- The likeliest numbers of dirty bags: Likely. -/
import Derived.Test.YthhallnkpbgomaaDoorB4
import Derived.WalkMore
namespace Go.Proofs.YthhallnkpbgomaaDoor
set_option linter.unusedSimpArgs false
set_option linter.unusedVariables false
open Go.RowKit Go.Proofs.YthhallnkpbgomaaDoor.ML Go.Proofs.YthhallnkpbgomaaDoor.Samp

open Go.Shelf Go.Sort
/-- The numbers that can be with the most ways. -/
def likeL (N lo hi o f : Int) : List Int := (ableL N lo hi o f).filter fun x => decide (∀ y ∈ ableL N lo hi o f, waysI N y o f ≤ waysI N x o f)
/-- The error of Likely. -/
def likeE (N lo hi o f : Int) : Int := if cargoB N lo hi = false then 10 else if drawB N o f = false then 11 else if ableL N lo hi o f = [] then 8 else 0
/-- The list that Likely tells. -/
def likeA (N lo hi o f : Int) : List Int := if likeE N lo hi o f = 0 then likeL N lo hi o f else []
theorem most_of : ∀ (L : List Int) (W : Int → Int), L ≠ [] → ∃ m ∈ L, ∀ y ∈ L, W y ≤ W m
  | [], _, h => absurd rfl h
  | [a], W, _ => ⟨a, by simp, by simp⟩
  | a :: b :: r, W, _ => by
    obtain ⟨m, hm, hall⟩ := most_of (b :: r) W (by simp)
    by_cases h : W a ≤ W m
    · exact ⟨m, List.mem_cons_of_mem _ hm, fun y hy => by
        rcases List.mem_cons.1 hy with rfl | hy
        · exact h
        · exact hall y hy⟩
    · exact ⟨a, by simp, fun y hy => by
        rcases List.mem_cons.1 hy with rfl | hy
        · exact Int.le_refl _
        · have := hall y hy; omega⟩
theorem assocSet_nodup (x : Int) (v : Value) : ∀ l : List (Int × Value), (l.map (·.1)).Nodup → ((assocSet x v l).map (·.1)).Nodup
  | [], _ => by simp [assocSet]
  | y :: r, h => by
    simp only [List.map_cons, List.nodup_cons] at h
    by_cases e : x = y.1
    · simp only [assocSet, if_pos e, List.map_cons, List.nodup_cons]
      exact ⟨by rw [e]; exact h.1, h.2⟩
    · simp only [assocSet, if_neg e, List.map_cons, List.nodup_cons]
      refine ⟨fun hm => ?_, assocSet_nodup x v r h.2⟩
      obtain ⟨z, hz, hz1⟩ := List.mem_map.1 hm
      rcases mem_assocSet hz with rfl | hz
      · exact e hz1
      · exact h.1 (List.mem_map.2 ⟨z, hz, hz1⟩)
theorem KeptX.grown {mb u : Nat} {rs : List Nat} {w w' : World} (h : w.grownBy w' (some u)) (hu : u ∈ rs) (hne : u ≠ mb) : KeptX mb rs w w' :=
  ⟨h.os, h.tape, h.output, h.size, fun k hk _ hn => h.block k hk (fun e => hn (by cases e; exact hu)), fun ⟨l, hl, hv⟩ => ⟨l, hl.kept h (fun e => hne (by cases e; rfl)), hv⟩⟩
/-- A row of numbers that can be grown. -/
theorem row_own {base : Nat} {e : TypeId} {v : Value} {L : List Int} {w : World} (h : w.ownsRow base e 1 v L.length (L.map (Value.int .i64))) (hne : L ≠ []) :
    ∃ g cap cur, v = .slice (some ⟨g, 0, none⟩) L.length cap ∧ base ≤ g ∧ w.heap[g]? = some (.cells cur e (0, 0)) ∧ L.length ≤ cap ∧ ∀ j, j < L.length → cur[j]? = some (.int .i64 (L.getD j 0)) := by
  rcases h.2 with ⟨rfl, h0⟩ | ⟨g, cap, cur, rfl, hb, hg, h1, h2, h3, h4⟩
  · exact absurd (List.eq_nil_of_length_eq_zero h0) hne
  · refine ⟨g, cap, cur, rfl, hb, hg, h1, fun j hj => ?_⟩
    have e1 : (cur.toList.take (L.length * 1))[j]? = (L.map (Value.int .i64))[j]? := by rw [h4]
    rw [List.getElem?_take, if_pos (by omega)] at e1
    simpa [hj] using e1
theorem take_mem (L : List Int) (k : Nat) (h : k < L.length) (x : Int) : x ∈ L.take (k + 1) ↔ x ∈ L.take k ∨ x = L.getD k 0 := by
  rw [List.take_succ_eq_append_getElem h, List.mem_append, List.mem_singleton, List.getD_eq_getElem?_getD, List.getElem?_eq_getElem h]
  rfl

set_option maxRecDepth 100000 in
set_option maxHeartbeats 4000000 in
theorem likely_a (N lo hi o f : Int) (w : World) (hc : cargoB N lo hi = false) :
    Calls Tryd.prog 43 #[.agg #[.int .i64 N, .int .i64 lo, .int .i64 hi], .agg #[.int .i64 o, .int .i64 f]] w fun e w' => e = .returned (.tuple #[.slice none 0 0, .int .i64 10]) ∧ Below w.heap.size w w' := by
  have hB0 : Below w.heap.size w ((w.alloc (.cells #[.int .i64 N, .int .i64 lo, .int .i64 hi] 25)).alloc (.cells #[.int .i64 o, .int .i64 f] 60)) := ((Below.refl _ w).alloc (Nat.le_refl _) _).alloc (by simp) _
  have c0_0 : ((w.alloc (.cells #[.int .i64 N, .int .i64 lo, .int .i64 hi] 25)).alloc (.cells #[.int .i64 o, .int .i64 f] 60)).cell? ⟨w.heap.size, 0, none⟩ = some (.int .i64 N) := by simp [go_sem]
  have c0_1 : ((w.alloc (.cells #[.int .i64 N, .int .i64 lo, .int .i64 hi] 25)).alloc (.cells #[.int .i64 o, .int .i64 f] 60)).cell? ⟨w.heap.size, 1, none⟩ = some (.int .i64 lo) := by simp [go_sem]
  have c0_2 : ((w.alloc (.cells #[.int .i64 N, .int .i64 lo, .int .i64 hi] 25)).alloc (.cells #[.int .i64 o, .int .i64 f] 60)).cell? ⟨w.heap.size, 2, none⟩ = some (.int .i64 hi) := by simp [go_sem]
  have c1_0 : ((w.alloc (.cells #[.int .i64 N, .int .i64 lo, .int .i64 hi] 25)).alloc (.cells #[.int .i64 o, .int .i64 f] 60)).cell? ⟨w.heap.size + 1, 0, none⟩ = some (.int .i64 o) := by simp [go_sem]
  have c1_1 : ((w.alloc (.cells #[.int .i64 N, .int .i64 lo, .int .i64 hi] 25)).alloc (.cells #[.int .i64 o, .int .i64 f] 60)).cell? ⟨w.heap.size + 1, 1, none⟩ = some (.int .i64 f) := by simp [go_sem]
  go_enter Tryd.func43, Tryd.ntmps43
  go_wp2_with fail
  refine (known_a N lo hi o f 0 _ hc).mono ?_
  rintro e w1 ⟨rfl, hB1⟩
  have K_w1 : Free.Bel ((w.alloc (.cells #[.int .i64 N, .int .i64 lo, .int .i64 hi] 25)).alloc (.cells #[.int .i64 o, .int .i64 f] 60)) w1 := by
    refine Free.Bel.trans _ _ _ ?_ hB1
    repeat (first | exact Free.Bel.refl _ | refine Bel.allocT ?_ _ | refine Bel.drewT ?_)
  clear hB1
  have hq : w.heap.size + 2 = ((w.alloc (.cells #[.int .i64 N, .int .i64 lo, .int .i64 hi] 25)).alloc (.cells #[.int .i64 o, .int .i64 f] 60)).heap.size := by simp
  generalize ((w.alloc (.cells #[.int .i64 N, .int .i64 lo, .int .i64 hi] 25)).alloc (.cells #[.int .i64 o, .int .i64 f] 60)) = W0 at *
  generalize hbb : w.heap.size = bb at *
  have HBB := Lib.hid hbb
  clear hbb
  have HB0 := Lib.hid hB0
  have hq0 : bb + 2 ≤ W0.heap.size := by omega
  clear hB0 hq
  have FA : ∀ W, Free.Bel W0 W → W.cell? ⟨bb, 0, none⟩ = some (.int .i64 N) ∧ W.cell? ⟨bb, 1, none⟩ = some (.int .i64 lo) ∧ W.cell? ⟨bb, 2, none⟩ = some (.int .i64 hi) ∧ W.cell? ⟨bb + 1, 0, none⟩ = some (.int .i64 o) ∧ W.cell? ⟨bb + 1, 1, none⟩ = some (.int .i64 f) ∧ bb + 2 ≤ W.heap.size := fun W hW => ⟨keepsB hW c0_0, keepsB hW c0_1, keepsB hW c0_2, keepsB hW c1_0, keepsB hW c1_1, Nat.le_trans hq0 hW.size⟩
  clear c0_0 c0_1 c0_2 c1_0 c1_1
  go_wp2_with fail
  go_ret2
  have hbb := HBB.out
  subst hbb
  exact ⟨rfl, HB0.out.trans ((Bel.allocT K_w1 _).mono (by omega))⟩

set_option maxRecDepth 100000 in
set_option maxHeartbeats 4000000 in
theorem likely_b (N lo hi o f : Int) (w : World) (hc : cargoB N lo hi = true) (hd : drawB N o f = false) :
    Calls Tryd.prog 43 #[.agg #[.int .i64 N, .int .i64 lo, .int .i64 hi], .agg #[.int .i64 o, .int .i64 f]] w fun e w' => e = .returned (.tuple #[.slice none 0 0, .int .i64 11]) ∧ Below w.heap.size w w' := by
  have hB0 : Below w.heap.size w ((w.alloc (.cells #[.int .i64 N, .int .i64 lo, .int .i64 hi] 25)).alloc (.cells #[.int .i64 o, .int .i64 f] 60)) := ((Below.refl _ w).alloc (Nat.le_refl _) _).alloc (by simp) _
  have c0_0 : ((w.alloc (.cells #[.int .i64 N, .int .i64 lo, .int .i64 hi] 25)).alloc (.cells #[.int .i64 o, .int .i64 f] 60)).cell? ⟨w.heap.size, 0, none⟩ = some (.int .i64 N) := by simp [go_sem]
  have c0_1 : ((w.alloc (.cells #[.int .i64 N, .int .i64 lo, .int .i64 hi] 25)).alloc (.cells #[.int .i64 o, .int .i64 f] 60)).cell? ⟨w.heap.size, 1, none⟩ = some (.int .i64 lo) := by simp [go_sem]
  have c0_2 : ((w.alloc (.cells #[.int .i64 N, .int .i64 lo, .int .i64 hi] 25)).alloc (.cells #[.int .i64 o, .int .i64 f] 60)).cell? ⟨w.heap.size, 2, none⟩ = some (.int .i64 hi) := by simp [go_sem]
  have c1_0 : ((w.alloc (.cells #[.int .i64 N, .int .i64 lo, .int .i64 hi] 25)).alloc (.cells #[.int .i64 o, .int .i64 f] 60)).cell? ⟨w.heap.size + 1, 0, none⟩ = some (.int .i64 o) := by simp [go_sem]
  have c1_1 : ((w.alloc (.cells #[.int .i64 N, .int .i64 lo, .int .i64 hi] 25)).alloc (.cells #[.int .i64 o, .int .i64 f] 60)).cell? ⟨w.heap.size + 1, 1, none⟩ = some (.int .i64 f) := by simp [go_sem]
  go_enter Tryd.func43, Tryd.ntmps43
  go_wp2_with fail
  refine (known_b N lo hi o f 0 _ hc 11 11 (by simp [Hid, hd]) (by simp [Hid, firstE]) rfl).mono ?_
  rintro e w1 ⟨rfl, hB1⟩
  have K_w1 : Free.Bel ((w.alloc (.cells #[.int .i64 N, .int .i64 lo, .int .i64 hi] 25)).alloc (.cells #[.int .i64 o, .int .i64 f] 60)) w1 := by
    refine Free.Bel.trans _ _ _ ?_ hB1
    repeat (first | exact Free.Bel.refl _ | refine Bel.allocT ?_ _ | refine Bel.drewT ?_)
  clear hB1
  have hq : w.heap.size + 2 = ((w.alloc (.cells #[.int .i64 N, .int .i64 lo, .int .i64 hi] 25)).alloc (.cells #[.int .i64 o, .int .i64 f] 60)).heap.size := by simp
  generalize ((w.alloc (.cells #[.int .i64 N, .int .i64 lo, .int .i64 hi] 25)).alloc (.cells #[.int .i64 o, .int .i64 f] 60)) = W0 at *
  generalize hbb : w.heap.size = bb at *
  have HBB := Lib.hid hbb
  clear hbb
  have HB0 := Lib.hid hB0
  have hq0 : bb + 2 ≤ W0.heap.size := by omega
  clear hB0 hq
  have FA : ∀ W, Free.Bel W0 W → W.cell? ⟨bb, 0, none⟩ = some (.int .i64 N) ∧ W.cell? ⟨bb, 1, none⟩ = some (.int .i64 lo) ∧ W.cell? ⟨bb, 2, none⟩ = some (.int .i64 hi) ∧ W.cell? ⟨bb + 1, 0, none⟩ = some (.int .i64 o) ∧ W.cell? ⟨bb + 1, 1, none⟩ = some (.int .i64 f) ∧ bb + 2 ≤ W.heap.size := fun W hW => ⟨keepsB hW c0_0, keepsB hW c0_1, keepsB hW c0_2, keepsB hW c1_0, keepsB hW c1_1, Nat.le_trans hq0 hW.size⟩
  clear c0_0 c0_1 c0_2 c1_0 c1_1
  go_wp2_with fail
  go_ret2
  have hbb := HBB.out
  subst hbb
  exact ⟨rfl, HB0.out.trans ((Bel.allocT K_w1 _).mono (by omega))⟩

set_option maxRecDepth 100000 in
set_option maxHeartbeats 4000000 in
theorem likely_c (N lo hi o f : Int) (w : World) (hc : cargoB N lo hi = true) (hd : drawB N o f = true) (hL : ableL N lo hi o f = []) :
    Calls Tryd.prog 43 #[.agg #[.int .i64 N, .int .i64 lo, .int .i64 hi], .agg #[.int .i64 o, .int .i64 f]] w fun e w' => e = .returned (.tuple #[.slice none 0 0, .int .i64 8]) ∧ Below w.heap.size w w' := by
  have HE := Lib.hid (show unlessV (decide (0 < ((ableL N lo hi o f).length : Int))) 8 = 8 by rw [hL]; rfl)
  have HN := Lib.hid hL
  clear hL
  have hB0 : Below w.heap.size w ((w.alloc (.cells #[.int .i64 N, .int .i64 lo, .int .i64 hi] 25)).alloc (.cells #[.int .i64 o, .int .i64 f] 60)) := ((Below.refl _ w).alloc (Nat.le_refl _) _).alloc (by simp) _
  have c0_0 : ((w.alloc (.cells #[.int .i64 N, .int .i64 lo, .int .i64 hi] 25)).alloc (.cells #[.int .i64 o, .int .i64 f] 60)).cell? ⟨w.heap.size, 0, none⟩ = some (.int .i64 N) := by simp [go_sem]
  have c0_1 : ((w.alloc (.cells #[.int .i64 N, .int .i64 lo, .int .i64 hi] 25)).alloc (.cells #[.int .i64 o, .int .i64 f] 60)).cell? ⟨w.heap.size, 1, none⟩ = some (.int .i64 lo) := by simp [go_sem]
  have c0_2 : ((w.alloc (.cells #[.int .i64 N, .int .i64 lo, .int .i64 hi] 25)).alloc (.cells #[.int .i64 o, .int .i64 f] 60)).cell? ⟨w.heap.size, 2, none⟩ = some (.int .i64 hi) := by simp [go_sem]
  have c1_0 : ((w.alloc (.cells #[.int .i64 N, .int .i64 lo, .int .i64 hi] 25)).alloc (.cells #[.int .i64 o, .int .i64 f] 60)).cell? ⟨w.heap.size + 1, 0, none⟩ = some (.int .i64 o) := by simp [go_sem]
  have c1_1 : ((w.alloc (.cells #[.int .i64 N, .int .i64 lo, .int .i64 hi] 25)).alloc (.cells #[.int .i64 o, .int .i64 f] 60)).cell? ⟨w.heap.size + 1, 1, none⟩ = some (.int .i64 f) := by simp [go_sem]
  go_enter Tryd.func43, Tryd.ntmps43
  go_wp2_with fail
  refine (known_c N lo hi o f 0 _ hc hd rfl).mono ?_
  rintro e w1 ⟨hb, mb, kb, cb, base, v, rfl, hH, hrow, h1, h2, h3, h4, h5, hB1⟩
  rw [HE.out]
  have K_w1 : Free.Bel ((w.alloc (.cells #[.int .i64 N, .int .i64 lo, .int .i64 hi] 25)).alloc (.cells #[.int .i64 o, .int .i64 f] 60)) w1 := by
    refine Free.Bel.trans _ _ _ ?_ hB1
    repeat (first | exact Free.Bel.refl _ | refine Bel.allocT ?_ _ | refine Bel.drewT ?_)
  clear hB1 hH hrow h1 h2 h3 h4 h5
  have hq : w.heap.size + 2 = ((w.alloc (.cells #[.int .i64 N, .int .i64 lo, .int .i64 hi] 25)).alloc (.cells #[.int .i64 o, .int .i64 f] 60)).heap.size := by simp
  generalize ((w.alloc (.cells #[.int .i64 N, .int .i64 lo, .int .i64 hi] 25)).alloc (.cells #[.int .i64 o, .int .i64 f] 60)) = W0 at *
  generalize hbb : w.heap.size = bb at *
  have HBB := Lib.hid hbb
  clear hbb
  have HB0 := Lib.hid hB0
  have hq0 : bb + 2 ≤ W0.heap.size := by omega
  clear hB0 hq
  have FA : ∀ W, Free.Bel W0 W → W.cell? ⟨bb, 0, none⟩ = some (.int .i64 N) ∧ W.cell? ⟨bb, 1, none⟩ = some (.int .i64 lo) ∧ W.cell? ⟨bb, 2, none⟩ = some (.int .i64 hi) ∧ W.cell? ⟨bb + 1, 0, none⟩ = some (.int .i64 o) ∧ W.cell? ⟨bb + 1, 1, none⟩ = some (.int .i64 f) ∧ bb + 2 ≤ W.heap.size := fun W hW => ⟨keepsB hW c0_0, keepsB hW c0_1, keepsB hW c0_2, keepsB hW c1_0, keepsB hW c1_1, Nat.le_trans hq0 hW.size⟩
  clear c0_0 c0_1 c0_2 c1_0 c1_1
  go_wp2_with fail
  go_ret2
  have hbb := HBB.out
  subst hbb
  exact ⟨rfl, HB0.out.trans ((Bel.allocT K_w1 _).mono (by omega))⟩

set_option maxRecDepth 100000 in
set_option maxHeartbeats 4000000 in
theorem likely_d (N lo hi o f : Int) (w : World) (hc : cargoB N lo hi = true) (hd : drawB N o f = true) (hL : ableL N lo hi o f ≠ []) :
    Calls Tryd.prog 43 #[.agg #[.int .i64 N, .int .i64 lo, .int .i64 hi], .agg #[.int .i64 o, .int .i64 f]] w fun e w' => (∃ v, e = .returned (.tuple #[v, .int .i64 0]) ∧ IL (likeL N lo hi o f) v w') ∧ Below w.heap.size w w' := by
  have hpos : 0 < (ableL N lo hi o f).length := List.length_pos_iff.2 hL
  have HE := Lib.hid (show unlessV (decide (0 < ((ableL N lo hi o f).length : Int))) 8 = 0 by rw [decide_eq_true (by omega)]; rfl)
  have hN0 := (cargoB_iff N lo hi).1 hc
  have hD0 := (drawB_iff N o f).1 hd
  have hL37 : (ableL N lo hi o f).length ≤ 37 := by have := ableK_length N lo o f (hi - lo + 1).toNat; unfold ableL; omega
  have HMEM := Lib.hid (fun (x : Int) (hx : x ∈ ableL N lo hi o f) => (by have := ableK_mem N lo o f _ _ hx; omega : 0 ≤ x ∧ x ≤ N))
  have hMX : ∃ M, ∀ m ∈ ableL N lo hi o f, (∀ y ∈ ableL N lo hi o f, waysI N y o f ≤ waysI N m o f) → waysI N m o f = M := by
    obtain ⟨m, hm, hall⟩ := most_of (ableL N lo hi o f) (fun x => waysI N x o f) hL
    exact ⟨waysI N m o f, fun m' hm' hall' => Int.le_antisymm (hall m' hm') (hall' m hm)⟩
  have hME : ∃ m ∈ ableL N lo hi o f, ∀ y ∈ ableL N lo hi o f, waysI N y o f ≤ waysI N m o f := most_of (ableL N lo hi o f) (fun x => waysI N x o f) hL
  obtain ⟨M, hM⟩ := hMX
  have HMX := Lib.hid hM
  have HME := Lib.hid hME
  have HL := Lib.hid hL
  clear hL hM hME
  have hB0 : Below w.heap.size w ((w.alloc (.cells #[.int .i64 N, .int .i64 lo, .int .i64 hi] 25)).alloc (.cells #[.int .i64 o, .int .i64 f] 60)) := ((Below.refl _ w).alloc (Nat.le_refl _) _).alloc (by simp) _
  have c0_0 : ((w.alloc (.cells #[.int .i64 N, .int .i64 lo, .int .i64 hi] 25)).alloc (.cells #[.int .i64 o, .int .i64 f] 60)).cell? ⟨w.heap.size, 0, none⟩ = some (.int .i64 N) := by simp [go_sem]
  have c0_1 : ((w.alloc (.cells #[.int .i64 N, .int .i64 lo, .int .i64 hi] 25)).alloc (.cells #[.int .i64 o, .int .i64 f] 60)).cell? ⟨w.heap.size, 1, none⟩ = some (.int .i64 lo) := by simp [go_sem]
  have c0_2 : ((w.alloc (.cells #[.int .i64 N, .int .i64 lo, .int .i64 hi] 25)).alloc (.cells #[.int .i64 o, .int .i64 f] 60)).cell? ⟨w.heap.size, 2, none⟩ = some (.int .i64 hi) := by simp [go_sem]
  have c1_0 : ((w.alloc (.cells #[.int .i64 N, .int .i64 lo, .int .i64 hi] 25)).alloc (.cells #[.int .i64 o, .int .i64 f] 60)).cell? ⟨w.heap.size + 1, 0, none⟩ = some (.int .i64 o) := by simp [go_sem]
  have c1_1 : ((w.alloc (.cells #[.int .i64 N, .int .i64 lo, .int .i64 hi] 25)).alloc (.cells #[.int .i64 o, .int .i64 f] 60)).cell? ⟨w.heap.size + 1, 1, none⟩ = some (.int .i64 f) := by simp [go_sem]
  go_enter Tryd.func43, Tryd.ntmps43
  go_wp2_with fail
  refine (known_c N lo hi o f 0 _ hc hd rfl).mono ?_
  rintro e w1 ⟨hb, mb, kb, cb, base, v, rfl, hH, hrow, h1, h2, h3, h4, h5, hB1⟩
  rw [HE.out]
  obtain ⟨g, cap, cur, rfl, hbg, hcur, hcap, hcells⟩ := row_own hrow HL.out
  have K_w1 : Free.Bel ((w.alloc (.cells #[.int .i64 N, .int .i64 lo, .int .i64 hi] 25)).alloc (.cells #[.int .i64 o, .int .i64 f] 60)) w1 := by
    refine Free.Bel.trans _ _ _ ?_ hB1
    repeat (first | exact Free.Bel.refl _ | refine Bel.allocT ?_ _ | refine Bel.drewT ?_)
  clear hB1 hrow
  have hmW : ((w.alloc (.cells #[.int .i64 N, .int .i64 lo, .int .i64 hi] 25)).alloc (.cells #[.int .i64 o, .int .i64 f] 60)).heap.size ≤ mb := by simp; simp at h1; omega
  have hq : w.heap.size + 2 = ((w.alloc (.cells #[.int .i64 N, .int .i64 lo, .int .i64 hi] 25)).alloc (.cells #[.int .i64 o, .int .i64 f] 60)).heap.size := by simp
  generalize ((w.alloc (.cells #[.int .i64 N, .int .i64 lo, .int .i64 hi] 25)).alloc (.cells #[.int .i64 o, .int .i64 f] 60)) = W0 at *
  generalize hbb : w.heap.size = bb at *
  have HBB := Lib.hid hbb
  clear hbb
  have HB0 := Lib.hid hB0
  have hq0 : bb + 2 ≤ W0.heap.size := by omega
  clear hB0 hq
  have FA : ∀ W, Free.Bel W0 W → W.cell? ⟨bb, 0, none⟩ = some (.int .i64 N) ∧ W.cell? ⟨bb, 1, none⟩ = some (.int .i64 lo) ∧ W.cell? ⟨bb, 2, none⟩ = some (.int .i64 hi) ∧ W.cell? ⟨bb + 1, 0, none⟩ = some (.int .i64 o) ∧ W.cell? ⟨bb + 1, 1, none⟩ = some (.int .i64 f) ∧ bb + 2 ≤ W.heap.size := fun W hW => ⟨keepsB hW c0_0, keepsB hW c0_1, keepsB hW c0_2, keepsB hW c1_0, keepsB hW c1_1, Nat.le_trans hq0 hW.size⟩
  clear c0_0 c0_1 c0_2 c1_0 c1_1
  obtain ⟨L, hLe⟩ : ∃ L, ableL N lo hi o f = L := ⟨_, rfl⟩
  have HLL := Lib.hid (show likeL N lo hi o f = L.filter (fun x => decide (∀ y ∈ L, waysI N y o f ≤ waysI N x o f)) by rw [likeL, hLe])
  rw [hLe] at hpos hL37 hcells hcap HMEM HMX HME HL ⊢
  clear hLe HE
  have hN : 0 ≤ N ∧ N ≤ 36 := by omega
  have hD1 : 0 ≤ o ∧ o ≤ N := by omega
  have hD2 : 0 ≤ f ∧ f ≤ o := by omega
  have hz1 := FA w1 K_w1
  have hgs : g < w1.heap.size := lt_of_heap hcur
  have hhs : hb < w1.heap.size := lt_of_cell hH.bags
  have hms : mb < w1.heap.size := by obtain ⟨l, hl, _⟩ := hH.ctr.memo; exact hl.lt
  have K_a : Free.Bel w1 (w1.alloc (.cells #[.pointer (some ⟨hb, 0, none⟩)] 100)) := belAlloc _ _
  have hrb : (w1.alloc (.cells #[.pointer (some ⟨hb, 0, none⟩)] 100)).cell? ⟨w1.heap.size, 0, none⟩ = some (.pointer (some ⟨hb, 0, none⟩)) := by simp [go_sem]
  have hsz : (w1.alloc (.cells #[.pointer (some ⟨hb, 0, none⟩)] 100)).heap.size = w1.heap.size + 1 := by simp
  go_wp2_with fail
  have hHa := hH.kept (.of_below K_a)
  have hca := heap_bel hcur K_a
  have b0 : (w1.alloc (.cells #[.pointer (some ⟨hb, 0, none⟩)] 100)).cell? ⟨bb + 1, 0, none⟩ = some (.int .i64 o) := keepsB K_a hz1.2.2.2.1
  have b1 : (w1.alloc (.cells #[.pointer (some ⟨hb, 0, none⟩)] 100)).cell? ⟨bb + 1, 1, none⟩ = some (.int .i64 f) := keepsB K_a hz1.2.2.2.2.1
  have hbz : bb + 2 ≤ w1.heap.size := hz1.2.2.2.2.2
  have KW : Free.Bel W0 (w1.alloc (.cells #[.pointer (some ⟨hb, 0, none⟩)] 100)) := Bel.allocT K_w1 _
  generalize hwa : w1.alloc (.cells #[.pointer (some ⟨hb, 0, none⟩)] 100) = wa at *
  generalize hrbe : w1.heap.size = rb at *
  clear hwa hrbe hH K_a hz1 K_w1 FA
  have hcl : ∀ W, Kept mb wa W → ∀ j, j < L.length → W.cell? ⟨g, 0 + j, none⟩ = some (.int .i64 (L.getD j 0)) := fun W hW j hj => cell_of_heap (o := 0 + j) ((hW.block g (by omega) (by omega)).trans hca) (by rw [Nat.zero_add]; exact hcells j hj)
  have HHo := Lib.hid (fun (W : World) (hW : Kept mb wa W) => hHa.kept hW)
  have FB : ∀ W, Kept mb wa W → W.cell? ⟨rb, 0, none⟩ = some (.pointer (some ⟨hb, 0, none⟩)) ∧ W.cell? ⟨bb + 1, 0, none⟩ = some (.int .i64 o) ∧ W.cell? ⟨bb + 1, 1, none⟩ = some (.int .i64 f) ∧ ∀ j, j < L.length → W.cell? ⟨g, 0 + j, none⟩ = some (.int .i64 (L.getD j 0)) := fun W hW => ⟨hW.cell hrb (by show rb ≠ mb; omega), hW.cell b0 (by show bb + 1 ≠ mb; omega), hW.cell b1 (by show bb + 1 ≠ mb; omega), hcl W hW⟩
  have HCUR := Lib.hid (fun (W : World) (hW : Kept mb wa W) => (hW.block g (by omega) (by omega)).trans hca)
  have HCELL := Lib.hid hcells
  have HCAP := Lib.hid hcap
  have HKW := Lib.hid KW
  have hszs : wa.heap.size = rb + 1 := hsz
  clear hcl hHa hrb b0 b1 hca hcells hcap KW hcur hc hd
  have hF : ∀ W, Kept mb wa.drew W → Kept mb wa W := fun W hW => ((Kept.refl mb wa).drew).trans hW
  refine Free.wp_free (R := Kept mb) (by kernel_rfl) (by kernel_rfl) (Kept.refl mb) (fun _ _ _ => Kept.trans) ?_
  refine Free.Chain.ex ?_ [] [6] (by kernel_rfl) (by kernel_rfl) rfl (Kept.refl mb) ?_ ?_
  rotate_left
  · (intro ev W hb hR hO hD; have hS := hF W hR; obtain ⟨hb1, hb2, hb3⟩ := hb; simp only [Free.AllDeps, Free.AllOuts, Free.At, List.getElem?_cons_succ, List.getElem?_cons_zero, Array.getD_eq_getD_getElem?, List.getElem?_toArray, Option.getD_some, and_true] at hO hD; go_simp; rfl)
  simp only [List.nil_append, List.cons_append]
  refine Free.Chain.ex ?_ [] [7] (by kernel_rfl) (by kernel_rfl) rfl (Kept.refl mb) ?_ ?_
  rotate_left
  · (intro ev W hb hR hO hD; have hS := hF W hR; obtain ⟨hb1, hb2, hb3⟩ := hb; simp only [Free.AllDeps, Free.AllOuts, Free.At, List.getElem?_cons_succ, List.getElem?_cons_zero, Array.getD_eq_getD_getElem?, List.getElem?_toArray, Option.getD_some, and_true] at hO hD; go_simp; rfl)
  simp only [List.nil_append, List.cons_append]
  refine Free.Chain.ex ?_ [] [6, 3] (by kernel_rfl) (by kernel_rfl) rfl (Kept.refl mb) ?_ ?_
  rotate_left
  · (intro ev W hb hR hO hD; have hS := hF W hR; obtain ⟨hb1, hb2, hb3⟩ := hb; simp only [Free.AllDeps, Free.AllOuts, Free.At, List.getElem?_cons_succ, List.getElem?_cons_zero, Array.getD_eq_getD_getElem?, List.getElem?_toArray, Option.getD_some, and_true] at hO hD; go_simp; rfl)
  simp only [List.nil_append, List.cons_append]
  refine Free.Chain.pr (fun v _ => ∃ m, v = .int .i64 m ∧ m ∈ L ∧ ∀ y ∈ L, waysI N y o f ≤ waysI N m o f) [(1, 26), (2, 27)] [] (by kernel_rfl) (by kernel_rfl) rfl (fun _ _ _ _ h => h) ?_ ?_
  · (intro ev W hb hR hO hD; have hS := hF W hR; obtain ⟨hb1, hb2, hb3⟩ := hb; simp only [Free.AllDeps, Free.AllOuts, Free.At, List.getElem?_cons_succ, List.getElem?_cons_zero, Array.getD_eq_getD_getElem?, List.getElem?_toArray, Option.getD_some, and_true] at hO hD; go_simp; refine yields_enter ?_; (with_reducible refine (maxfunc_any rb (bb + 1) hb mb kb cb g cap L N lo hi o f _ (HHo.out _ hS) (FB _ hS).1 (FB _ hS).2.1 (FB _ hS).2.2.1 hN.2 hD1 hD2 hpos hL37 HMEM.out (FB _ hS).2.2.2).mono ?_); rintro e W2 ⟨⟨m, rfl, hm⟩, hB2⟩; exact ⟨_, rfl, hB2, m, rfl, hm⟩)
  simp only [List.nil_append, List.cons_append]
  refine Free.Chain.ex ?_ [] [3] (by kernel_rfl) (by kernel_rfl) rfl (Kept.refl mb) ?_ ?_
  rotate_left
  · (intro ev W hb hR hO hD; have hS := hF W hR; obtain ⟨hb1, hb2, hb3⟩ := hb; simp only [Free.AllDeps, Free.AllOuts, Free.At, List.getElem?_cons_succ, List.getElem?_cons_zero, Array.getD_eq_getD_getElem?, List.getElem?_toArray, Option.getD_some, and_true] at hO hD; go_simp; rfl)
  simp only [List.nil_append, List.cons_append]
  refine Free.Chain.pr (fun v _ => v = .int .i64 M) [(0, 25), (3, 28), (4, 29), (3, 28)] [] (by kernel_rfl) (by kernel_rfl) rfl (fun _ _ _ _ h => h) ?_ ?_
  · (intro ev W hb hR hO hD; have hS := hF W hR; obtain ⟨hb1, hb2, hb3⟩ := hb; simp only [Free.AllDeps, Free.AllOuts, Free.At, List.getElem?_cons_succ, List.getElem?_cons_zero, Array.getD_eq_getD_getElem?, List.getElem?_toArray, Option.getD_some, and_true] at hO hD; obtain ⟨hd0, ⟨m, hd3, hm1, hm2⟩, hd4⟩ := hD; have hmN := HMEM.out m hm1; go_simp; refine yields_enter ?_; (with_reducible refine (ways_any hb N lo hi m o f mb kb cb _ (HHo.out _ hS) hN.2 (by omega) (by omega) (by omega) (by omega)).mono ?_); rintro e W2 ⟨rfl, hB2⟩; exact ⟨_, rfl, hB2, by rw [HMX.out m hm1 hm2]⟩)
  simp only [List.nil_append, List.cons_append]
  refine Free.Chain.ex ?_ [(5, 30), (5, 30), (0, 25), (1, 26), (2, 27), (3, 28), (4, 29), (5, 30)] [] (by kernel_rfl) (by kernel_rfl) rfl (Kept.refl mb) ?_ ?_
  rotate_left
  · (intro ev W hb hR hO hD; have hS := hF W hR; obtain ⟨hb1, hb2, hb3⟩ := hb; simp only [Free.AllDeps, Free.AllOuts, Free.At, List.getElem?_cons_succ, List.getElem?_cons_zero, Array.getD_eq_getD_getElem?, List.getElem?_toArray, Option.getD_some, and_true] at hO hD; go_simp; rfl)
  simp only [List.nil_append, List.cons_append]
  intro xs w4 hR hV
  simp only [Free.AllV, Free.At, List.length_cons, List.length_nil, Nat.reduceAdd, List.getElem?_cons_succ, List.getElem?_cons_zero, true_and] at hV
  simp only [Free.putsFrom, Act.put, Nat.zero_add, Nat.reduceAdd, hV, List.setIfInBounds_toArray, List.set_cons_succ, List.set_cons_zero]
  have HK4 : Kept mb wa w4 := hF w4 hR
  clear hR hV hF
  have hmm := @run_makeMap Tryd.prog
  have hz4 := FB w4 HK4
  have hs4 : rb + 1 ≤ w4.heap.size := by have := HK4.size; omega
  go_wp2_with fail
  have hmap : MapIs (Value.int .i64) w4.heap.size [] ((w4.alloc (.map #[] 0)).alloc (.cells #[.map (some w4.heap.size)] 137)) := (MapIs.made (Value.int .i64) w4).of_block (by rw [Below.heap_alloc _ _ _ (by simp)])
  have htb : ((w4.alloc (.map #[] 0)).alloc (.cells #[.map (some w4.heap.size)] 137)).cell? ⟨w4.heap.size + 1, 0, none⟩ = some (.map (some w4.heap.size)) := by simp [go_sem]
  have hK5 : Kept mb wa ((w4.alloc (.map #[] 0)).alloc (.cells #[.map (some w4.heap.size)] 137)) := (HK4.alloc _).alloc _
  have hs5 : ((w4.alloc (.map #[] 0)).alloc (.cells #[.map (some w4.heap.size)] 137)).heap.size = w4.heap.size + 2 := by simp
  generalize ((w4.alloc (.map #[] 0)).alloc (.cells #[.map (some w4.heap.size)] 137)) = w5 at *
  generalize hue : w4.heap.size = ub at *
  have hz5 := FB w5 hK5
  have hc5 := HCUR.out w5 hK5
  have hH5 := HHo.out w5 hK5
  have hcl5 : ∀ j, j < L.length → w5.cell? ⟨g, j, none⟩ = some (.int .i64 (L.getD j 0)) := fun j hj => cell_of_heap hc5 (HCELL.out j hj)
  have hkb5 : kb < ub ∧ cb < ub := by
    have h4 := HHo.out w4 HK4
    have := lt_of_cell h4.ctr.known
    have := lt_of_cell h4.ctr.count
    simp only at *
    omega
  have FX : ∀ W, KeptX mb [ub] w5 W → W.cell? ⟨rb, 0, none⟩ = some (.pointer (some ⟨hb, 0, none⟩)) ∧ W.cell? ⟨bb + 1, 0, none⟩ = some (.int .i64 o) ∧ W.cell? ⟨bb + 1, 1, none⟩ = some (.int .i64 f) ∧ W.cell? ⟨ub + 1, 0, none⟩ = some (.map (some ub)) ∧ W.heap[g]? = some (.cells cur 3 (0, 0)) ∧ ub + 2 ≤ W.heap.size := fun W hW =>
    ⟨hW.cell hz5.1 (by show rb ≠ mb; omega) (by simp; omega), hW.cell hz5.2.1 (by show bb + 1 ≠ mb; omega) (by simp; omega), hW.cell hz5.2.2.1 (by show bb + 1 ≠ mb; omega) (by simp; omega), hW.cell htb (by show ub + 1 ≠ mb; omega) (by simp), (hW.block g (lt_of_heap hc5) (by omega) (by simp; omega)).trans hc5, by have := hW.size; omega⟩
  have HXo := Lib.hid (fun (W : World) (hW : KeptX mb [ub] w5 W) => KeptX.hold hH5 hW (by simp; omega) (by simp; omega) (by simp; omega))
  have HCL := Lib.hid (fun (W : World) (hW : KeptX mb [ub] w5 W) (j : Nat) (hj : j < L.length) => (cell_of_heap (FX W hW).2.2.2.2.1 (HCELL.out j hj) : W.cell? ⟨g, j, none⟩ = some (.int .i64 (L.getD j 0))))
  have HGD := Lib.hid (fun (j : Nat) (hj : j < L.length) => (HMEM.out (L.getD j 0) (by simp [hj]) : 0 ≤ L.getD j 0 ∧ L.getD j 0 ≤ N))
  have HINL := Lib.hid (fun (j : Nat) (hj : j < L.length) => (by simp [hj] : L.getD j 0 ∈ L))
  have HMAP := Lib.hid hmap
  have HB5 := Lib.hid (fun (W : World) (hW : KeptX mb [ub] w5 W) => (KeptX.below ((hK5.below HKW.out h1).mono (show bb ≤ W0.heap.size by omega)) hW (show bb ≤ mb by omega) (fun r hr => by simp at hr; omega) (by omega) : Below bb W0 W))
  clear hz5 hc5 hH5 hcl5 hmap htb hz4 HK4 FB HHo HCUR hK5 hue hkb5
  have hLi : (L.length : Int) ≤ 37 := by omega
  go_loopw [34] (fun i wr => ∃ (k : Nat) (l : List (Int × Value)), k ≤ L.length ∧ i = .int .i64 k ∧ Hid (MapIs (Value.int .i64) ub l wr) ∧ Hid (l.map (·.1)).Nodup ∧ Hid (∀ x, (assoc x l).getD (.bool false) = .bool (decide (x ∈ L.take k))) ∧ KeptX mb [ub] w5 wr) (fun i _ => L.length - (intOf i).toNat)
  case atStart => exact ⟨0, [], by omega, rfl, HMAP, Lib.hid (by simp), Lib.hid (fun x => by simp [assoc]), KeptX.refl _ _ _⟩
  case round =>
    obtain ⟨k, l, hk, rfl, HM, HND, HA, HK⟩ := hrel
    by_cases hlt : k < L.length
    · have ck := HCL.out wr HK k hlt
      have hfb := FX wr HK
      have hklt : (k : Int) < L.length := by omega
      obtain ⟨x, hx⟩ : ∃ x, L.getD k 0 = x := ⟨_, rfl⟩
      have HX := Lib.hid hx
      rw [hx] at ck
      clear hx
      obtain ⟨w6, f1, f2, f3, f4⟩ := HM.out.update T.intKeysL T.uMapIB x (.bool true)
      have HK6 := HK.trans (KeptX.grown f2 (by simp) (by omega))
      have HF3 := Lib.hid f3
      clear f2 f3
      go_wp2_with fail
      go_roundw
      case rel => exact ⟨k + 1, _, by omega, by go_num, HF3, Lib.hid (assocSet_nodup _ _ _ HND.out), Lib.hid (fun y => by
        by_cases e : y = x
        · rw [e, assoc_set_same, decide_eq_true ((take_mem L k hlt x).2 (.inr HX.out.symm))]; rfl
        · rw [assoc_set_other _ _ _ e, HA.out y]
          congr 1
          rw [decide_eq_decide, take_mem L k hlt y, HX.out]
          simp [e]), HK6⟩
      case measure => simp [intOf]; omega
    · obtain rfl : k = L.length := by omega
      rw [List.take_length] at HA
      have hHK := HK
      go_wp2_with fail
      go_loopw [43] (fun i wr => ∃ (k : Nat) (l : List (Int × Value)), k ≤ L.length ∧ i = .int .i64 k ∧ Hid (MapIs (Value.int .i64) ub l wr) ∧ Hid (l.map (·.1)).Nodup ∧ Hid (∀ x, (assoc x l).getD (.bool false) = .bool (decide (x ∈ L ∧ ¬ (x ∈ L.take k ∧ waysI N x o f < M)))) ∧ KeptX mb [ub] w5 wr) (fun i _ => L.length - (intOf i).toNat)
      case atStart => exact ⟨0, l, by omega, rfl, HM, HND, Lib.hid (fun x => by rw [HA.out x]; simp), hHK⟩
      case round =>
        clear HM HND HA HK hHK
        obtain ⟨k, l, hk, rfl, HM, HND, HA, HK⟩ := hrel
        by_cases hlt : k < L.length
        · have ck := HCL.out wr HK k hlt
          have hfb := FX wr HK
          have hklt : (k : Int) < L.length := by omega
          have hg := HGD.out k hlt
          obtain ⟨x, hx⟩ : ∃ x, L.getD k 0 = x := ⟨_, rfl⟩
          have HX := Lib.hid hx
          rw [hx] at ck hg
          clear hx
          go_wp2_with fail
          refine (ways_any hb N lo hi x o f mb kb cb _ (HXo.out _ HK) hN.2 (by omega) (by omega) (by omega) (by omega)).mono ?_
          rintro e w6 ⟨rfl, hK6⟩
          have HK6 : KeptX mb [ub] w5 w6 := HK.trans (.of_kept hK6)
          have hM6 : MapIs (Value.int .i64) ub l w6 := HM.out.of_block (hK6.block ub (HM.out.lt) (by omega))
          have hfb6 := FX w6 HK6
          obtain ⟨q, hq⟩ : ∃ q, waysI N x o f = q := ⟨_, rfl⟩
          rw [hq]
          have HQ := Lib.hid hq
          clear hq hK6
          by_cases hqm : q < M
          · obtain ⟨w7, f1, f2, f3, f4⟩ := hM6.delete T.intKeysL T.uMapIB (ty := 0) x
            have HK7 := HK6.trans (KeptX.grown f2 (by simp) (by omega))
            rw [assocDel_eq] at f3
            have HF3 := Lib.hid f3
            clear f2 f3 hM6
            go_wp2_with fail
            go_roundw
            case rel => exact ⟨k + 1, _, by omega, by go_num, HF3, Lib.hid (delR_nodup x HND.out), Lib.hid (fun y => by
              by_cases e : y = x
              · rw [e, assoc_del_same x l HND.out, decide_eq_false (fun h => h.2 ⟨(take_mem L k hlt x).2 (.inr HX.out.symm), by rw [HQ.out]; exact hqm⟩)]; rfl
              · rw [assoc_del_other x y e, HA.out y]
                congr 1
                rw [decide_eq_decide, take_mem L k hlt y, HX.out]
                simp [e]), HK7⟩
            case measure => simp [intOf]; omega
          · have HM6 := Lib.hid hM6
            clear hM6
            go_wp2_with fail
            go_roundw
            case rel => exact ⟨k + 1, l, by omega, by go_num, HM6, HND, Lib.hid (fun y => by
              rw [HA.out y]
              congr 1
              rw [decide_eq_decide, take_mem L k hlt y, HX.out]
              by_cases e : y = x
              · rw [e, HQ.out]; simp [hqm]
              · simp [e]), HK6⟩
            case measure => simp [intOf]; omega
        · obtain rfl : k = L.length := by omega
          rw [List.take_length] at HA
          have hfb := FX wr HK
          have hHo : Holds (Value.int .i64) wr g 0 L.toArray := fun j hj => ⟨by
            have hj' : j < L.length := by simpa using hj
            have := HCL.out wr HK j hj'
            rw [Nat.zero_add, this]
            simp [hj'], by rw [Nat.zero_add]; exact frozen_of_heap hfb.2.2.2.2.1⟩
          have HHOL := Lib.hid hHo
          have HP := Lib.hid (fun x => (show (assoc x l).getD (.bool false) = .bool (!(!decide (x ∈ L ∧ ¬ (x ∈ L ∧ waysI N x o f < M)))) by rw [Bool.not_not]; exact HA.out x))
          clear HA hHo
          go_wp2_with fail
          refine (delfunc_any (ub + 1) ub g cap l (fun x => !decide (x ∈ L ∧ ¬ (x ∈ L ∧ waysI N x o f < M))) L wr hfb.2.2.2.1 HM.out HP.out (by omega) (by omega) HHOL.out hL37 HCAP.out).mono ?_
          rintro e w8 ⟨rfl, hc8, hB8⟩
          have hFL : (L.filter fun x => !(fun x => !decide (x ∈ L ∧ ¬ (x ∈ L ∧ waysI N x o f < M))) x) = likeL N lo hi o f := by
            rw [HLL.out]
            refine List.filter_congr fun x hx => ?_
            obtain ⟨m, hm, hall⟩ := HME.out
            have hmM := HMX.out m hm hall
            simp only [Bool.not_not, decide_eq_decide]
            constructor
            · rintro ⟨_, h⟩ y hy
              have := hall y hy
              have h2 : ¬ waysI N x o f < M := fun h3 => h ⟨hx, h3⟩
              omega
            · intro h
              refine ⟨hx, fun ⟨_, h2⟩ => ?_⟩
              have := h m hm
              omega
          simp only [hFL] at hc8 ⊢
          have HC8 := Lib.hid hc8
          have hlen : (likeL N lo hi o f).length ≤ 37 := by
            rw [HLL.out]; exact Nat.le_trans (List.length_filter_le _ _) hL37
          obtain ⟨Z, hZ⟩ : ∃ Z, likeL N lo hi o f = Z := ⟨_, rfl⟩
          simp only [hZ] at HC8 hlen ⊢
          have HZ := Lib.hid hZ
          have HB9 := Lib.hid ((HB5.out wr HK).trans (hB8.mono (show bb ≤ g by omega)))
          clear hB8
          go_wp2_with fail
          go_ret2
          have hbb := HBB.out
          subst hbb
          exact ⟨⟨_, rfl, by rw [HZ.out]; exact ⟨some ⟨g, 0, none⟩, cap, rfl, by unfold maxLen; omega, fun _ => ⟨g, 0, rfl, fun k hk => HC8.out k hk⟩⟩⟩, HB0.out.trans HB9.out⟩
/-- What Likely returns. -/
theorem likely_any (N lo hi o f : Int) (w : World) :
    Calls Tryd.prog 43 #[.agg #[.int .i64 N, .int .i64 lo, .int .i64 hi], .agg #[.int .i64 o, .int .i64 f]] w fun e w' => (∃ v, e = .returned (.tuple #[v, .int .i64 (likeE N lo hi o f)]) ∧ IL (likeA N lo hi o f) v w') ∧ Below w.heap.size w w' := by
  cases hc : cargoB N lo hi
  · have he : likeE N lo hi o f = 10 := by rw [likeE, if_pos hc]
    rw [likeA, he, if_neg (by decide)]
    exact (likely_a N lo hi o f w hc).mono fun e w' ⟨h1, h2⟩ => ⟨⟨_, h1, IL.nil w'⟩, h2⟩
  · cases hd : drawB N o f
    · have he : likeE N lo hi o f = 11 := by rw [likeE, if_neg (by simp [hc]), if_pos hd]
      rw [likeA, he, if_neg (by decide)]
      exact (likely_b N lo hi o f w hc hd).mono fun e w' ⟨h1, h2⟩ => ⟨⟨_, h1, IL.nil w'⟩, h2⟩
    · by_cases hL : ableL N lo hi o f = []
      · have he : likeE N lo hi o f = 8 := by rw [likeE, if_neg (by simp [hc]), if_neg (by simp [hd]), if_pos hL]
        rw [likeA, he, if_neg (by decide)]
        exact (likely_c N lo hi o f w hc hd hL).mono fun e w' ⟨h1, h2⟩ => ⟨⟨_, h1, IL.nil w'⟩, h2⟩
      · have he : likeE N lo hi o f = 0 := by rw [likeE, if_neg (by simp [hc]), if_neg (by simp [hd]), if_neg hL]
        rw [likeA, he, if_pos rfl]
        exact likely_d N lo hi o f w hc hd hL
end Go.Proofs.YthhallnkpbgomaaDoor

/- What the rule is that opens the fewest bags. -/
namespace Go.Proofs.YthhallnkpbgomaaDoor

/-- The first pair o, a (a up to o, o up to N) that is P; none. -/
def LeastIs (P : Int → Int → Bool) (N o a e : Int) : Prop :=
  (e = 0 ∧ 0 ≤ a ∧ a ≤ o ∧ o ≤ N ∧ P o a = true ∧ (∀ o' a', 0 ≤ a' → a' ≤ o' → o' < o → P o' a' = false) ∧ ∀ a', 0 ≤ a' → a' < a → P o a' = false) ∨
  (e = 6 ∧ o = 0 ∧ a = 0 ∧ ∀ o' a', 0 ≤ a' → a' ≤ o' → o' ≤ N → P o' a' = false)
theorem LeastIs.unique {P : Int → Int → Bool} {N o a e o' a' e' : Int} (h : LeastIs P N o a e) (k : LeastIs P N o' a' e') : o = o' ∧ a = a' ∧ e = e' := by
  rcases h with ⟨rfl, h1, h2, h3, h4, h5, h6⟩ | ⟨rfl, rfl, rfl, h1⟩
  · rcases k with ⟨rfl, k1, k2, k3, k4, k5, k6⟩ | ⟨rfl, rfl, rfl, k1⟩
    · have ho : o = o' := by
        rcases Int.lt_trichotomy o o' with h | h | h
        · have := k5 o a h1 h2 h; rw [h4] at this; cases this
        · exact h
        · have := h5 o' a' k1 k2 h; rw [k4] at this; cases this
      subst ho
      refine ⟨rfl, ?_, rfl⟩
      rcases Int.lt_trichotomy a a' with h | h | h
      · have := k6 a h1 h; rw [h4] at this; cases this
      · exact h
      · have := h6 a' k1 h; rw [k4] at this; cases this
    · have := k1 o a h1 h2 h3; rw [h4] at this; cases this
  · rcases k with ⟨rfl, k1, k2, k3, k4, k5, k6⟩ | ⟨rfl, rfl, rfl, k1⟩
    · have := h1 o' a' k1 k2 k3; rw [k4] at this; cases this
    · exact ⟨rfl, rfl, rfl⟩
end Go.Proofs.YthhallnkpbgomaaDoor

/- Two numbers and two chances without an error. -/
namespace Go.Proofs.YthhallnkpbgomaaDoor
set_option linter.unusedSimpArgs false
set_option linter.unusedVariables false
open Go.RowKit

theorem riskedE_zero {lo hi g b sn sd bn bd : Int} (h : riskedE lo hi g b sn sd bn bd = 0) : (lo ≤ g ∧ g ≤ hi) ∧ (lo ≤ b ∧ b ≤ hi) ∧ g < b ∧ givenB sn sd = true ∧ givenB bn bd = true := by
  unfold riskedE at h
  have h2 : inB lo hi [g, b] = true := by
    cases hm : inB lo hi [g, b]
    · rw [hm] at h; simp [firstE, unlessV] at h
    · rfl
  have h3 : ([(sn, sd), (bn, bd)].all fun x => givenB x.1 x.2) = true := by
    cases hm : ([(sn, sd), (bn, bd)].all fun x => givenB x.1 x.2)
    · rw [h2, hm] at h; simp [firstE, unlessV] at h
    · rfl
  have h4 : decide (g < b) = true := by
    cases hm : decide (g < b)
    · rw [h2, h3, hm] at h; simp [firstE, unlessV] at h
    · rfl
  simp [inB] at h2
  simp at h3 h4
  exact ⟨by omega, by omega, h4, h3.1, h3.2⟩
theorem Kept.below_of {B mb : Nat} {a w w' : World} (h : Kept mb w w') (h0 : Below B a w) (hm : B ≤ mb) (hs : B ≤ w.heap.size) : Below B a w' :=
  ⟨h.os.trans h0.os, h.tape.trans h0.tape, h.output.trans h0.output, Nat.le_trans h0.size h.size, fun k hk => (h.block k (by omega) (by omega)).trans (h0.block k hk)⟩

end Go.Proofs.YthhallnkpbgomaaDoor

/- Rules: Least. -/
namespace Go.Proofs.YthhallnkpbgomaaDoor
set_option linter.unusedSimpArgs false
set_option linter.unusedVariables false
open Go.RowKit Go.Proofs.YthhallnkpbgomaaDoor.ML Go.Proofs.YthhallnkpbgomaaDoor.Samp

set_option maxRecDepth 100000 in
set_option maxHeartbeats 2000000 in
theorem least_a (N lo hi g b sn sd bn bd : Int) (w : World) (hc : cargoB N lo hi = false) :
    Calls Tryd.prog 22 #[.agg #[.int .i64 N, .int .i64 lo, .int .i64 hi], .int .i64 g, .int .i64 b, .agg #[.int .i64 sn, .int .i64 sd], .agg #[.int .i64 bn, .int .i64 bd]] w fun e w' => e = .returned (.tuple #[.agg #[.int .i64 0, .int .i64 0], .int .i64 10]) ∧ Below w.heap.size w w' := by
  have hB0 : Below w.heap.size w ((((w.alloc (.cells #[.int .i64 N, .int .i64 lo, .int .i64 hi] 25)).alloc (.cells #[.int .i64 sn, .int .i64 sd] 31)).alloc (.cells #[.int .i64 bn, .int .i64 bd] 31)).alloc (.cells #[.int .i64 0, .int .i64 0] 27)) := ((((Below.refl _ w).alloc (Nat.le_refl _) _).alloc (by simp) _).alloc (by simp; omega) _).alloc (by simp; omega) _
  have c0 : ((((w.alloc (.cells #[.int .i64 N, .int .i64 lo, .int .i64 hi] 25)).alloc (.cells #[.int .i64 sn, .int .i64 sd] 31)).alloc (.cells #[.int .i64 bn, .int .i64 bd] 31)).alloc (.cells #[.int .i64 0, .int .i64 0] 27)).cell? ⟨w.heap.size, 0, none⟩ = some (.int .i64 N) := by simp [go_sem]
  have c1 : ((((w.alloc (.cells #[.int .i64 N, .int .i64 lo, .int .i64 hi] 25)).alloc (.cells #[.int .i64 sn, .int .i64 sd] 31)).alloc (.cells #[.int .i64 bn, .int .i64 bd] 31)).alloc (.cells #[.int .i64 0, .int .i64 0] 27)).cell? ⟨w.heap.size, 1, none⟩ = some (.int .i64 lo) := by simp [go_sem]
  have c2 : ((((w.alloc (.cells #[.int .i64 N, .int .i64 lo, .int .i64 hi] 25)).alloc (.cells #[.int .i64 sn, .int .i64 sd] 31)).alloc (.cells #[.int .i64 bn, .int .i64 bd] 31)).alloc (.cells #[.int .i64 0, .int .i64 0] 27)).cell? ⟨w.heap.size, 2, none⟩ = some (.int .i64 hi) := by simp [go_sem]
  have c3 : ((((w.alloc (.cells #[.int .i64 N, .int .i64 lo, .int .i64 hi] 25)).alloc (.cells #[.int .i64 sn, .int .i64 sd] 31)).alloc (.cells #[.int .i64 bn, .int .i64 bd] 31)).alloc (.cells #[.int .i64 0, .int .i64 0] 27)).cell? ⟨w.heap.size + 1, 0, none⟩ = some (.int .i64 sn) := by simp [go_sem]
  have c4 : ((((w.alloc (.cells #[.int .i64 N, .int .i64 lo, .int .i64 hi] 25)).alloc (.cells #[.int .i64 sn, .int .i64 sd] 31)).alloc (.cells #[.int .i64 bn, .int .i64 bd] 31)).alloc (.cells #[.int .i64 0, .int .i64 0] 27)).cell? ⟨w.heap.size + 1, 1, none⟩ = some (.int .i64 sd) := by simp [go_sem]
  have c5 : ((((w.alloc (.cells #[.int .i64 N, .int .i64 lo, .int .i64 hi] 25)).alloc (.cells #[.int .i64 sn, .int .i64 sd] 31)).alloc (.cells #[.int .i64 bn, .int .i64 bd] 31)).alloc (.cells #[.int .i64 0, .int .i64 0] 27)).cell? ⟨w.heap.size + 1 + 1, 0, none⟩ = some (.int .i64 bn) := by simp [go_sem]
  have c6 : ((((w.alloc (.cells #[.int .i64 N, .int .i64 lo, .int .i64 hi] 25)).alloc (.cells #[.int .i64 sn, .int .i64 sd] 31)).alloc (.cells #[.int .i64 bn, .int .i64 bd] 31)).alloc (.cells #[.int .i64 0, .int .i64 0] 27)).cell? ⟨w.heap.size + 1 + 1, 1, none⟩ = some (.int .i64 bd) := by simp [go_sem]
  have s1 := Lib.hid (fun (W : World) (h : Below ((((w.alloc (.cells #[.int .i64 N, .int .i64 lo, .int .i64 hi] 25)).alloc (.cells #[.int .i64 sn, .int .i64 sd] 31)).alloc (.cells #[.int .i64 bn, .int .i64 bd] 31)).alloc (.cells #[.int .i64 0, .int .i64 0] 27)).heap.size ((((w.alloc (.cells #[.int .i64 N, .int .i64 lo, .int .i64 hi] 25)).alloc (.cells #[.int .i64 sn, .int .i64 sd] 31)).alloc (.cells #[.int .i64 bn, .int .i64 bd] 31)).alloc (.cells #[.int .i64 0, .int .i64 0] 27)) W) => And.intro (keepsB h c0) ( And.intro (keepsB h c1) ( And.intro (keepsB h c2) ( And.intro (keepsB h c3) ( And.intro (keepsB h c4) ( And.intro (keepsB h c5) (keepsB h c6)))))))
  have HB0 := Lib.hid hB0
  clear hB0 c0 c1 c2 c3 c4 c5 c6
  have hT : Two (w.heap.size + 1 + 1 + 1) (.int .i64 0) (.int .i64 0) ((((w.alloc (.cells #[.int .i64 N, .int .i64 lo, .int .i64 hi] 25)).alloc (.cells #[.int .i64 sn, .int .i64 sd] 31)).alloc (.cells #[.int .i64 bn, .int .i64 bd] 31)).alloc (.cells #[.int .i64 0, .int .i64 0] 27)) := ⟨by simp [go_sem], by simp [go_sem], by simp [go_sem], by simp [go_sem]⟩
  have HT := Lib.hid (fun (W : World) (h : Below ((((w.alloc (.cells #[.int .i64 N, .int .i64 lo, .int .i64 hi] 25)).alloc (.cells #[.int .i64 sn, .int .i64 sd] 31)).alloc (.cells #[.int .i64 bn, .int .i64 bd] 31)).alloc (.cells #[.int .i64 0, .int .i64 0] 27)).heap.size ((((w.alloc (.cells #[.int .i64 N, .int .i64 lo, .int .i64 hi] 25)).alloc (.cells #[.int .i64 sn, .int .i64 sd] 31)).alloc (.cells #[.int .i64 bn, .int .i64 bd] 31)).alloc (.cells #[.int .i64 0, .int .i64 0] 27)) W) => hT.keeps h)
  clear hT
  go_enter Tryd.func22, Tryd.ntmps22
  go_wp2_with fail
  generalize ((((w.alloc (.cells #[.int .i64 N, .int .i64 lo, .int .i64 hi] 25)).alloc (.cells #[.int .i64 sn, .int .i64 sd] 31)).alloc (.cells #[.int .i64 bn, .int .i64 bd] 31)).alloc (.cells #[.int .i64 0, .int .i64 0] 27)) = W0 at *
  generalize hbb : w.heap.size = bb at *
  have HBB := Lib.hid hbb
  clear hbb
  have hs0 : bb ≤ W0.heap.size := by have h1 := HB0.out.size; have h2 := HBB.out; omega
  refine (begun_bad N lo hi _ hc).mono ?_
  rintro e w1 ⟨rfl, hB1⟩
  have HB1 := Lib.hid hB1
  clear hB1
  obtain ⟨dw1_0, dw1_1, dw1_2, dw1_3, dw1_4, dw1_5, dw1_6⟩ := s1.out w1 HB1.out
  have Tw1 := HT.out w1 HB1.out
  have tw1_c0 := Tw1.c0
  have tw1_c1 := Tw1.c1
  have tw1_f0 := Tw1.f0
  have tw1_f1 := Tw1.f1
  obtain ⟨z1, z2⟩ := two_stores (w := w1) (b := bb + 1 + 1 + 1) (.int .i64 (0)) (.int .i64 (0)) tw1_c0 tw1_c1
  have hB9 := Lib.hid (((HB0.out.trans (HB1.out.mono hs0)).setCell (p := ⟨bb + 1 + 1 + 1, 0, none⟩) (by show bb ≤ bb + 1 + 1 + 1; omega) (.int .i64 (0))).setCell (p := ⟨bb + 1 + 1 + 1, 1, none⟩) (by show bb ≤ bb + 1 + 1 + 1; omega) (.int .i64 (0)))
  go_wp2_with fail
  have hbb := HBB.out
  subst hbb
  refine bodyPost_ret (v := .tuple #[.agg #[.int .i64 (0), .int .i64 (0)], .int .i64 (10)]) ?_ rfl ⟨rfl, hB9.out⟩
  simp [results, Tryd.results22, go_sem, z1, z2]

set_option maxRecDepth 100000 in
set_option maxHeartbeats 2000000 in
theorem least_b (N lo hi g b sn sd bn bd : Int) (w : World) (hc : cargoB N lo hi = true) (z : Int) (hy : Hid (riskedE lo hi g b sn sd bn bd = z)) (hz0 : (z != 0) = true) :
    Calls Tryd.prog 22 #[.agg #[.int .i64 N, .int .i64 lo, .int .i64 hi], .int .i64 g, .int .i64 b, .agg #[.int .i64 sn, .int .i64 sd], .agg #[.int .i64 bn, .int .i64 bd]] w fun e w' => e = .returned (.tuple #[.agg #[.int .i64 0, .int .i64 0], .int .i64 z]) ∧ Below w.heap.size w w' := by
  have hB0 : Below w.heap.size w ((((w.alloc (.cells #[.int .i64 N, .int .i64 lo, .int .i64 hi] 25)).alloc (.cells #[.int .i64 sn, .int .i64 sd] 31)).alloc (.cells #[.int .i64 bn, .int .i64 bd] 31)).alloc (.cells #[.int .i64 0, .int .i64 0] 27)) := ((((Below.refl _ w).alloc (Nat.le_refl _) _).alloc (by simp) _).alloc (by simp; omega) _).alloc (by simp; omega) _
  have c0 : ((((w.alloc (.cells #[.int .i64 N, .int .i64 lo, .int .i64 hi] 25)).alloc (.cells #[.int .i64 sn, .int .i64 sd] 31)).alloc (.cells #[.int .i64 bn, .int .i64 bd] 31)).alloc (.cells #[.int .i64 0, .int .i64 0] 27)).cell? ⟨w.heap.size, 0, none⟩ = some (.int .i64 N) := by simp [go_sem]
  have c1 : ((((w.alloc (.cells #[.int .i64 N, .int .i64 lo, .int .i64 hi] 25)).alloc (.cells #[.int .i64 sn, .int .i64 sd] 31)).alloc (.cells #[.int .i64 bn, .int .i64 bd] 31)).alloc (.cells #[.int .i64 0, .int .i64 0] 27)).cell? ⟨w.heap.size, 1, none⟩ = some (.int .i64 lo) := by simp [go_sem]
  have c2 : ((((w.alloc (.cells #[.int .i64 N, .int .i64 lo, .int .i64 hi] 25)).alloc (.cells #[.int .i64 sn, .int .i64 sd] 31)).alloc (.cells #[.int .i64 bn, .int .i64 bd] 31)).alloc (.cells #[.int .i64 0, .int .i64 0] 27)).cell? ⟨w.heap.size, 2, none⟩ = some (.int .i64 hi) := by simp [go_sem]
  have c3 : ((((w.alloc (.cells #[.int .i64 N, .int .i64 lo, .int .i64 hi] 25)).alloc (.cells #[.int .i64 sn, .int .i64 sd] 31)).alloc (.cells #[.int .i64 bn, .int .i64 bd] 31)).alloc (.cells #[.int .i64 0, .int .i64 0] 27)).cell? ⟨w.heap.size + 1, 0, none⟩ = some (.int .i64 sn) := by simp [go_sem]
  have c4 : ((((w.alloc (.cells #[.int .i64 N, .int .i64 lo, .int .i64 hi] 25)).alloc (.cells #[.int .i64 sn, .int .i64 sd] 31)).alloc (.cells #[.int .i64 bn, .int .i64 bd] 31)).alloc (.cells #[.int .i64 0, .int .i64 0] 27)).cell? ⟨w.heap.size + 1, 1, none⟩ = some (.int .i64 sd) := by simp [go_sem]
  have c5 : ((((w.alloc (.cells #[.int .i64 N, .int .i64 lo, .int .i64 hi] 25)).alloc (.cells #[.int .i64 sn, .int .i64 sd] 31)).alloc (.cells #[.int .i64 bn, .int .i64 bd] 31)).alloc (.cells #[.int .i64 0, .int .i64 0] 27)).cell? ⟨w.heap.size + 1 + 1, 0, none⟩ = some (.int .i64 bn) := by simp [go_sem]
  have c6 : ((((w.alloc (.cells #[.int .i64 N, .int .i64 lo, .int .i64 hi] 25)).alloc (.cells #[.int .i64 sn, .int .i64 sd] 31)).alloc (.cells #[.int .i64 bn, .int .i64 bd] 31)).alloc (.cells #[.int .i64 0, .int .i64 0] 27)).cell? ⟨w.heap.size + 1 + 1, 1, none⟩ = some (.int .i64 bd) := by simp [go_sem]
  have s1 := Lib.hid (fun (W : World) (h : Below ((((w.alloc (.cells #[.int .i64 N, .int .i64 lo, .int .i64 hi] 25)).alloc (.cells #[.int .i64 sn, .int .i64 sd] 31)).alloc (.cells #[.int .i64 bn, .int .i64 bd] 31)).alloc (.cells #[.int .i64 0, .int .i64 0] 27)).heap.size ((((w.alloc (.cells #[.int .i64 N, .int .i64 lo, .int .i64 hi] 25)).alloc (.cells #[.int .i64 sn, .int .i64 sd] 31)).alloc (.cells #[.int .i64 bn, .int .i64 bd] 31)).alloc (.cells #[.int .i64 0, .int .i64 0] 27)) W) => And.intro (keepsB h c0) ( And.intro (keepsB h c1) ( And.intro (keepsB h c2) ( And.intro (keepsB h c3) ( And.intro (keepsB h c4) ( And.intro (keepsB h c5) (keepsB h c6)))))))
  have HB0 := Lib.hid hB0
  clear hB0 c0 c1 c2 c3 c4 c5 c6
  have hT : Two (w.heap.size + 1 + 1 + 1) (.int .i64 0) (.int .i64 0) ((((w.alloc (.cells #[.int .i64 N, .int .i64 lo, .int .i64 hi] 25)).alloc (.cells #[.int .i64 sn, .int .i64 sd] 31)).alloc (.cells #[.int .i64 bn, .int .i64 bd] 31)).alloc (.cells #[.int .i64 0, .int .i64 0] 27)) := ⟨by simp [go_sem], by simp [go_sem], by simp [go_sem], by simp [go_sem]⟩
  have HT := Lib.hid (fun (W : World) (h : Below ((((w.alloc (.cells #[.int .i64 N, .int .i64 lo, .int .i64 hi] 25)).alloc (.cells #[.int .i64 sn, .int .i64 sd] 31)).alloc (.cells #[.int .i64 bn, .int .i64 bd] 31)).alloc (.cells #[.int .i64 0, .int .i64 0] 27)).heap.size ((((w.alloc (.cells #[.int .i64 N, .int .i64 lo, .int .i64 hi] 25)).alloc (.cells #[.int .i64 sn, .int .i64 sd] 31)).alloc (.cells #[.int .i64 bn, .int .i64 bd] 31)).alloc (.cells #[.int .i64 0, .int .i64 0] 27)) W) => hT.keeps h)
  clear hT
  go_enter Tryd.func22, Tryd.ntmps22
  go_wp2_with fail
  generalize ((((w.alloc (.cells #[.int .i64 N, .int .i64 lo, .int .i64 hi] 25)).alloc (.cells #[.int .i64 sn, .int .i64 sd] 31)).alloc (.cells #[.int .i64 bn, .int .i64 bd] 31)).alloc (.cells #[.int .i64 0, .int .i64 0] 27)) = W0 at *
  generalize hbb : w.heap.size = bb at *
  have HBB := Lib.hid hbb
  clear hbb
  have hs0 : bb ≤ W0.heap.size := by have h1 := HB0.out.size; have h2 := HBB.out; omega
  refine (begun_ok N lo hi _ hc).mono ?_
  rintro e w1 ⟨hb, mb, kb, cb, rfl, hH, hmb, hhb, hB1⟩
  have HB1 := Lib.hid hB1
  have HH := Lib.hid (And.intro hH (And.intro hmb hhb))
  have hlo := hH.lo
  have hhi := hH.hi
  have hbags := hH.bags
  clear hB1 hH hmb hhb
  obtain ⟨dw1_0, dw1_1, dw1_2, dw1_3, dw1_4, dw1_5, dw1_6⟩ := s1.out w1 HB1.out
  have Tw1 := HT.out w1 HB1.out
  have hs1 := HB1.out.size
  go_wp2_with fail
  refine (risked_any hb lo hi g b sn sd bn bd _ _ _ z _ hlo hhi rfl rfl rfl hy.out).mono ?_
  rintro e w2 ⟨rfl, hB2⟩
  have HB2 := Lib.hid (HB1.out.trans (hB2.mono hs1))
  have HH2 := Lib.hid (HH.out.1.kept (.of_below hB2))
  have hs2 := hB2.size
  clear hB2
  obtain ⟨dw2_0, dw2_1, dw2_2, dw2_3, dw2_4, dw2_5, dw2_6⟩ := s1.out w2 HB2.out
  have Tw2 := HT.out w2 HB2.out
  have tw2_c0 := Tw2.c0
  have tw2_c1 := Tw2.c1
  have tw2_f0 := Tw2.f0
  have tw2_f1 := Tw2.f1
  obtain ⟨z1, z2⟩ := two_stores (w := w2) (b := bb + 1 + 1 + 1) (.int .i64 (0)) (.int .i64 (0)) tw2_c0 tw2_c1
  have hB9 := Lib.hid (((HB0.out.trans (HB2.out.mono hs0)).setCell (p := ⟨bb + 1 + 1 + 1, 0, none⟩) (by show bb ≤ bb + 1 + 1 + 1; omega) (.int .i64 (0))).setCell (p := ⟨bb + 1 + 1 + 1, 1, none⟩) (by show bb ≤ bb + 1 + 1 + 1; omega) (.int .i64 (0)))
  go_wp2_with fail
  have hbb := HBB.out
  subst hbb
  refine bodyPost_ret (v := .tuple #[.agg #[.int .i64 (0), .int .i64 (0)], .int .i64 (z)]) ?_ rfl ⟨rfl, hB9.out⟩
  simp [results, Tryd.results22, go_sem, z1, z2]

set_option maxRecDepth 100000 in
set_option maxHeartbeats 2000000 in
theorem least_c (N lo hi g b sn sd bn bd : Int) (w : World) (hc : cargoB N lo hi = true) (hy : Hid (riskedE lo hi g b sn sd bn bd = 0)) (P : Int → Int → Bool) (hP : Hid (∀ o a, 0 ≤ a → a ≤ o → o ≤ N → fineB N g b o a sn sd bn bd = P o a)) :
    Calls Tryd.prog 22 #[.agg #[.int .i64 N, .int .i64 lo, .int .i64 hi], .int .i64 g, .int .i64 b, .agg #[.int .i64 sn, .int .i64 sd], .agg #[.int .i64 bn, .int .i64 bd]] w fun e w' => (∃ o a q, e = .returned (.tuple #[.agg #[.int .i64 o, .int .i64 a], .int .i64 q]) ∧ LeastIs P N o a q) ∧ Below w.heap.size w w' := by
  have hN := (cargoB_iff N lo hi).1 hc
  have hM := riskedE_zero hy.out
  have hfine := Lib.hid (fun (hb mb kb cb : Nat) (o a : Int) (W : World) (hH : Hold hb N lo hi mb kb cb W) (h1 : 0 ≤ a) (h2 : a ≤ o) (h3 : o ≤ N) => fine_any hb N lo hi g b o a sn sd bn bd mb kb cb (P o a) W hH (by omega) (by omega) (by omega) (by omega) hM.2.2.2.1 hM.2.2.2.2 (hP.out o a h1 h2 h3))
  have hN36 : 1 ≤ N ∧ N ≤ 36 := ⟨hN.1, hN.2.1⟩
  clear hN hM
  have hB0 : Below w.heap.size w ((((w.alloc (.cells #[.int .i64 N, .int .i64 lo, .int .i64 hi] 25)).alloc (.cells #[.int .i64 sn, .int .i64 sd] 31)).alloc (.cells #[.int .i64 bn, .int .i64 bd] 31)).alloc (.cells #[.int .i64 0, .int .i64 0] 27)) := ((((Below.refl _ w).alloc (Nat.le_refl _) _).alloc (by simp) _).alloc (by simp; omega) _).alloc (by simp; omega) _
  have c0 : ((((w.alloc (.cells #[.int .i64 N, .int .i64 lo, .int .i64 hi] 25)).alloc (.cells #[.int .i64 sn, .int .i64 sd] 31)).alloc (.cells #[.int .i64 bn, .int .i64 bd] 31)).alloc (.cells #[.int .i64 0, .int .i64 0] 27)).cell? ⟨w.heap.size, 0, none⟩ = some (.int .i64 N) := by simp [go_sem]
  have c1 : ((((w.alloc (.cells #[.int .i64 N, .int .i64 lo, .int .i64 hi] 25)).alloc (.cells #[.int .i64 sn, .int .i64 sd] 31)).alloc (.cells #[.int .i64 bn, .int .i64 bd] 31)).alloc (.cells #[.int .i64 0, .int .i64 0] 27)).cell? ⟨w.heap.size, 1, none⟩ = some (.int .i64 lo) := by simp [go_sem]
  have c2 : ((((w.alloc (.cells #[.int .i64 N, .int .i64 lo, .int .i64 hi] 25)).alloc (.cells #[.int .i64 sn, .int .i64 sd] 31)).alloc (.cells #[.int .i64 bn, .int .i64 bd] 31)).alloc (.cells #[.int .i64 0, .int .i64 0] 27)).cell? ⟨w.heap.size, 2, none⟩ = some (.int .i64 hi) := by simp [go_sem]
  have c3 : ((((w.alloc (.cells #[.int .i64 N, .int .i64 lo, .int .i64 hi] 25)).alloc (.cells #[.int .i64 sn, .int .i64 sd] 31)).alloc (.cells #[.int .i64 bn, .int .i64 bd] 31)).alloc (.cells #[.int .i64 0, .int .i64 0] 27)).cell? ⟨w.heap.size + 1, 0, none⟩ = some (.int .i64 sn) := by simp [go_sem]
  have c4 : ((((w.alloc (.cells #[.int .i64 N, .int .i64 lo, .int .i64 hi] 25)).alloc (.cells #[.int .i64 sn, .int .i64 sd] 31)).alloc (.cells #[.int .i64 bn, .int .i64 bd] 31)).alloc (.cells #[.int .i64 0, .int .i64 0] 27)).cell? ⟨w.heap.size + 1, 1, none⟩ = some (.int .i64 sd) := by simp [go_sem]
  have c5 : ((((w.alloc (.cells #[.int .i64 N, .int .i64 lo, .int .i64 hi] 25)).alloc (.cells #[.int .i64 sn, .int .i64 sd] 31)).alloc (.cells #[.int .i64 bn, .int .i64 bd] 31)).alloc (.cells #[.int .i64 0, .int .i64 0] 27)).cell? ⟨w.heap.size + 1 + 1, 0, none⟩ = some (.int .i64 bn) := by simp [go_sem]
  have c6 : ((((w.alloc (.cells #[.int .i64 N, .int .i64 lo, .int .i64 hi] 25)).alloc (.cells #[.int .i64 sn, .int .i64 sd] 31)).alloc (.cells #[.int .i64 bn, .int .i64 bd] 31)).alloc (.cells #[.int .i64 0, .int .i64 0] 27)).cell? ⟨w.heap.size + 1 + 1, 1, none⟩ = some (.int .i64 bd) := by simp [go_sem]
  have s1 := Lib.hid (fun (W : World) (h : Below ((((w.alloc (.cells #[.int .i64 N, .int .i64 lo, .int .i64 hi] 25)).alloc (.cells #[.int .i64 sn, .int .i64 sd] 31)).alloc (.cells #[.int .i64 bn, .int .i64 bd] 31)).alloc (.cells #[.int .i64 0, .int .i64 0] 27)).heap.size ((((w.alloc (.cells #[.int .i64 N, .int .i64 lo, .int .i64 hi] 25)).alloc (.cells #[.int .i64 sn, .int .i64 sd] 31)).alloc (.cells #[.int .i64 bn, .int .i64 bd] 31)).alloc (.cells #[.int .i64 0, .int .i64 0] 27)) W) => And.intro (keepsB h c0) ( And.intro (keepsB h c1) ( And.intro (keepsB h c2) ( And.intro (keepsB h c3) ( And.intro (keepsB h c4) ( And.intro (keepsB h c5) (keepsB h c6)))))))
  have HB0 := Lib.hid hB0
  clear hB0 c0 c1 c2 c3 c4 c5 c6
  have hT : Two (w.heap.size + 1 + 1 + 1) (.int .i64 0) (.int .i64 0) ((((w.alloc (.cells #[.int .i64 N, .int .i64 lo, .int .i64 hi] 25)).alloc (.cells #[.int .i64 sn, .int .i64 sd] 31)).alloc (.cells #[.int .i64 bn, .int .i64 bd] 31)).alloc (.cells #[.int .i64 0, .int .i64 0] 27)) := ⟨by simp [go_sem], by simp [go_sem], by simp [go_sem], by simp [go_sem]⟩
  have HT := Lib.hid (fun (W : World) (h : Below ((((w.alloc (.cells #[.int .i64 N, .int .i64 lo, .int .i64 hi] 25)).alloc (.cells #[.int .i64 sn, .int .i64 sd] 31)).alloc (.cells #[.int .i64 bn, .int .i64 bd] 31)).alloc (.cells #[.int .i64 0, .int .i64 0] 27)).heap.size ((((w.alloc (.cells #[.int .i64 N, .int .i64 lo, .int .i64 hi] 25)).alloc (.cells #[.int .i64 sn, .int .i64 sd] 31)).alloc (.cells #[.int .i64 bn, .int .i64 bd] 31)).alloc (.cells #[.int .i64 0, .int .i64 0] 27)) W) => hT.keeps h)
  clear hT
  go_enter Tryd.func22, Tryd.ntmps22
  go_wp2_with fail
  generalize ((((w.alloc (.cells #[.int .i64 N, .int .i64 lo, .int .i64 hi] 25)).alloc (.cells #[.int .i64 sn, .int .i64 sd] 31)).alloc (.cells #[.int .i64 bn, .int .i64 bd] 31)).alloc (.cells #[.int .i64 0, .int .i64 0] 27)) = W0 at *
  generalize hbb : w.heap.size = bb at *
  have HBB := Lib.hid hbb
  clear hbb
  have hs0 : bb ≤ W0.heap.size := by have h1 := HB0.out.size; have h2 := HBB.out; omega
  refine (begun_ok N lo hi _ hc).mono ?_
  rintro e w1 ⟨hb, mb, kb, cb, rfl, hH, hmb, hhb, hB1⟩
  have HB1 := Lib.hid hB1
  have HH := Lib.hid (And.intro hH (And.intro hmb hhb))
  have hlo := hH.lo
  have hhi := hH.hi
  have hbags := hH.bags
  clear hB1 hH hmb hhb
  obtain ⟨dw1_0, dw1_1, dw1_2, dw1_3, dw1_4, dw1_5, dw1_6⟩ := s1.out w1 HB1.out
  have Tw1 := HT.out w1 HB1.out
  have hs1 := HB1.out.size
  go_wp2_with fail
  refine (risked_any hb lo hi g b sn sd bn bd _ _ _ 0 _ hlo hhi rfl rfl rfl hy.out).mono ?_
  rintro e w2 ⟨rfl, hB2⟩
  have HB2 := Lib.hid (HB1.out.trans (hB2.mono hs1))
  have HH2 := Lib.hid (HH.out.1.kept (.of_below hB2))
  have hs2 := hB2.size
  clear hB2
  obtain ⟨dw2_0, dw2_1, dw2_2, dw2_3, dw2_4, dw2_5, dw2_6⟩ := s1.out w2 HB2.out
  have Tw2 := HT.out w2 HB2.out
  have hbags2 := HH2.out.bags
  have KF := Lib.hid (fun (W : World) (hK : Kept mb w2 W) => And.intro (HH2.out.kept hK) (And.intro (Tw2.kept hK (HH2.out.ctr.memo.ne Tw2.c0)) (And.intro (hK.cell dw2_0 (HH2.out.ctr.memo.ne dw2_0)) (And.intro (hK.cell dw2_1 (HH2.out.ctr.memo.ne dw2_1)) (And.intro (hK.cell dw2_2 (HH2.out.ctr.memo.ne dw2_2)) (And.intro (hK.cell dw2_3 (HH2.out.ctr.memo.ne dw2_3)) (And.intro (hK.cell dw2_4 (HH2.out.ctr.memo.ne dw2_4)) (And.intro (hK.cell dw2_5 (HH2.out.ctr.memo.ne dw2_5)) (hK.cell dw2_6 (HH2.out.ctr.memo.ne dw2_6))))))))))
  have HMB := Lib.hid (show bb ≤ mb ∧ bb ≤ w2.heap.size from ⟨Nat.le_trans hs0 HH.out.2.1, by omega⟩)
  go_wp2_with fail
  go_loopw [43] (fun i wr => ∃ n : Int, 0 ≤ n ∧ n ≤ N + 1 ∧ i = .int .i64 n ∧ Hid (∀ o' a', 0 ≤ a' → a' ≤ o' → o' < n → P o' a' = false) ∧ Hid (Kept mb w2 wr)) (fun i _ => (N + 1 - intOf i).toNat)
  case atStart => exact ⟨0, by omega, by omega, rfl, fun o' a' h1 h2 h3 => by omega, Kept.refl _ _⟩
  case round =>
    obtain ⟨n, hn0, hn1, rfl, hno, hK⟩ := hrel
    obtain ⟨Hwr, Twr, dwr_0, dwr_1, dwr_2, dwr_3, dwr_4, dwr_5, dwr_6⟩ := KF.out wr hK.out
    have twr_c0 := Twr.c0
    have twr_c1 := Twr.c1
    have twr_f0 := Twr.f0
    have twr_f1 := Twr.f1
    have hHr := Lib.hid Hwr
    clear Hwr
    by_cases hlt : n ≤ N
    · go_wp2_with fail
      go_step3
      go_wp2_with fail
      go_step3
      go_wp2_with fail
      have hdl : decide (n < N + 1) = true := by simp; omega
      simp only [hdl]
      clear hdl
      go_loopw [48] (fun i wr => ∃ k : Int, 0 ≤ k ∧ k ≤ n + 1 ∧ i = .int .i64 k ∧ Hid (∀ a', 0 ≤ a' → a' < k → P n a' = false) ∧ Hid (Kept mb w2 wr)) (fun i _ => (n + 1 - intOf i).toNat)
      case atStart => exact ⟨0, by omega, by omega, rfl, fun a' h1 h2 => by omega, hK.out⟩
      case round =>
        obtain ⟨k, hk0, hk1, rfl, hno2, hK3⟩ := hrel
        have hss := hK3.out.size
        obtain ⟨Hwr, Twr, dwr_0, dwr_1, dwr_2, dwr_3, dwr_4, dwr_5, dwr_6⟩ := KF.out wr hK3.out
        have twr_c0 := Twr.c0
        have twr_c1 := Twr.c1
        have twr_f0 := Twr.f0
        have twr_f1 := Twr.f1
        by_cases hlt2 : k ≤ n
        · have hKa := Lib.hid (hK3.out.alloc (.cells #[.int .i64 n, .int .i64 k] 27))
          obtain ⟨Ha, Ta, da_0, da_1, da_2, da_3, da_4, da_5, da_6⟩ := KF.out _ hKa.out
          have ka0 := (two_alloc (.int .i64 n) (.int .i64 k) 27 wr).c0
          have ka1 := (two_alloc (.int .i64 n) (.int .i64 k) 27 wr).c1
          have KA := Lib.hid (And.intro (two_alloc (.int .i64 n) (.int .i64 k) 27 wr) (Ha.ctr.memo.ne ka0))
          generalize hpk : P n k = q
          have HPK := Lib.hid hpk
          have hcall := Lib.hid (hfine.out hb mb kb cb n k (wr.alloc (.cells #[.int .i64 n, .int .i64 k] 27)) Ha hk0 hlt2 hlt)
          rw [hpk] at hcall
          clear hpk Ha Ta
          cases q
          · go_wp2_with fail
            refine hcall.out.mono ?_
            rintro e w4 ⟨rfl, hK4⟩
            have HK4 := Lib.hid (hKa.out.trans hK4)
            clear hK4
            go_wp2_with fail
            go_roundw
            case rel => exact ⟨k + 1, by omega, by omega, by go_num, fun a' h1 h2 => (by
              by_cases h : a' = k
              · subst h; exact HPK.out
              · exact hno2.out a' h1 (by omega)), HK4.out⟩
            case measure => simp [intOf]; omega
          · go_wp2_with fail
            refine hcall.out.mono ?_
            rintro e w4 ⟨rfl, hK4⟩
            have HK4 := Lib.hid (hKa.out.trans hK4)
            have K4 := KA.out.1.kept hK4 KA.out.2
            have k40 := K4.c0
            have k41 := K4.c1
            have HB4 := Lib.hid (HK4.out.below_of (HB0.out.trans (HB2.out.mono hs0)) HMB.out.1 HMB.out.2)
            clear hK4
            obtain ⟨Hw4, Tw4, dw4_0, dw4_1, dw4_2, dw4_3, dw4_4, dw4_5, dw4_6⟩ := KF.out w4 HK4.out
            have tw4_c0 := Tw4.c0
            have tw4_c1 := Tw4.c1
            have tw4_f0 := Tw4.f0
            have tw4_f1 := Tw4.f1
            obtain ⟨z1, z2⟩ := two_stores (w := w4) (b := bb + 1 + 1 + 1) (.int .i64 (n)) (.int .i64 (k)) tw4_c0 tw4_c1
            have hB9 := Lib.hid (((HB4.out).setCell (p := ⟨bb + 1 + 1 + 1, 0, none⟩) (by show bb ≤ bb + 1 + 1 + 1; omega) (.int .i64 (n))).setCell (p := ⟨bb + 1 + 1 + 1, 1, none⟩) (by show bb ≤ bb + 1 + 1 + 1; omega) (.int .i64 (k)))
            go_wp2_with fail
            have hbb := HBB.out
            subst hbb
            rw [Exit.noGoto_ret]
            simp +zetaDelta only [Exit.inBlock, Exit.then]
            refine bodyPost_ret (v := .tuple #[.agg #[.int .i64 (n), .int .i64 (k)], .int .i64 (0)]) ?_ rfl ⟨⟨n, k, 0, rfl, .inl ⟨rfl, hk0, hlt2, hlt, HPK.out, hno.out, hno2.out⟩⟩, hB9.out⟩
            simp [results, Tryd.results22, go_sem, z1, z2]
        · go_wp2_with fail
          go_roundw
          case rel => exact ⟨n + 1, by omega, by omega, by go_num, fun o' a' h1 h2 h3 => by
            by_cases h : o' = n
            · subst h; exact hno2.out a' h1 (by omega)
            · exact hno.out o' a' h1 h2 (by omega), hK3.out⟩
          case measure => simp [intOf]; omega
    · have HB4 := Lib.hid (hK.out.below_of (HB0.out.trans (HB2.out.mono hs0)) HMB.out.1 HMB.out.2)
      obtain ⟨z1, z2⟩ := two_stores (w := wr) (b := bb + 1 + 1 + 1) (.int .i64 (0)) (.int .i64 (0)) twr_c0 twr_c1
      have hB9 := Lib.hid (((HB4.out).setCell (p := ⟨bb + 1 + 1 + 1, 0, none⟩) (by show bb ≤ bb + 1 + 1 + 1; omega) (.int .i64 (0))).setCell (p := ⟨bb + 1 + 1 + 1, 1, none⟩) (by show bb ≤ bb + 1 + 1 + 1; omega) (.int .i64 (0)))
      go_wp2_with fail
      have hbb := HBB.out
      subst hbb
      refine bodyPost_ret (v := .tuple #[.agg #[.int .i64 (0), .int .i64 (0)], .int .i64 (6)]) ?_ rfl ⟨⟨0, 0, 6, rfl, .inr ⟨rfl, rfl, rfl, fun o' a' h1 h2 h3 => hno.out o' a' h1 h2 (by omega)⟩⟩, hB9.out⟩
      simp [results, Tryd.results22, go_sem, z1, z2]
end Go.Proofs.YthhallnkpbgomaaDoor

/- The rule that opens the fewest bags: what Least returns. -/
namespace Go.Proofs.YthhallnkpbgomaaDoor
set_option linter.unusedSimpArgs false
set_option linter.unusedVariables false
open Go.RowKit Go.Proofs.YthhallnkpbgomaaDoor.ML Go.Proofs.YthhallnkpbgomaaDoor.Samp

/-- What the rule that opens the fewest bags is. -/
def LeastAll (N lo hi g b sn sd bn bd o a q : Int) : Prop :=
  if cargoB N lo hi = false then o = 0 ∧ a = 0 ∧ q = 10 else if riskedE lo hi g b sn sd bn bd ≠ 0 then o = 0 ∧ a = 0 ∧ q = riskedE lo hi g b sn sd bn bd else LeastIs (fun o a => fineB N g b o a sn sd bn bd) N o a q
theorem LeastAll.unique {N lo hi g b sn sd bn bd o a q o' a' q' : Int} (h : LeastAll N lo hi g b sn sd bn bd o a q) (k : LeastAll N lo hi g b sn sd bn bd o' a' q') : o = o' ∧ a = a' ∧ q = q' := by
  unfold LeastAll at h k
  split at h
  · rw [if_pos ‹_›] at k; omega
  · split at h
    · rw [if_neg ‹_›, if_pos ‹_›] at k; omega
    · rw [if_neg ‹_›, if_neg ‹_›] at k; exact h.unique k
theorem least_all (N lo hi g b sn sd bn bd : Int) (w : World) :
    Calls Tryd.prog 22 #[.agg #[.int .i64 N, .int .i64 lo, .int .i64 hi], .int .i64 g, .int .i64 b, .agg #[.int .i64 sn, .int .i64 sd], .agg #[.int .i64 bn, .int .i64 bd]] w fun e w' => (∃ o a q, e = .returned (.tuple #[.agg #[.int .i64 o, .int .i64 a], .int .i64 q]) ∧ LeastAll N lo hi g b sn sd bn bd o a q) ∧ Below w.heap.size w w' := by
  cases hc : cargoB N lo hi
  · exact (least_a N lo hi g b sn sd bn bd w hc).mono fun e w' ⟨h1, h2⟩ => ⟨⟨0, 0, 10, h1, by rw [LeastAll, if_pos hc]; exact ⟨rfl, rfl, rfl⟩⟩, h2⟩
  · by_cases hz : riskedE lo hi g b sn sd bn bd = 0
    · exact (least_c N lo hi g b sn sd bn bd w hc hz (fun o a => fineB N g b o a sn sd bn bd) (fun _ _ _ _ _ => rfl)).mono fun e w' ⟨⟨o, a, q, h1, h3⟩, h2⟩ => ⟨⟨o, a, q, h1, by rw [LeastAll, if_neg (by simp [hc]), if_neg (by simp [hz])]; exact h3⟩, h2⟩
    · exact (least_b N lo hi g b sn sd bn bd w hc _ rfl (by simpa using hz)).mono fun e w' ⟨h1, h2⟩ => ⟨⟨0, 0, _, h1, by rw [LeastAll, if_neg (by simp [hc]), if_pos hz]; exact ⟨rfl, rfl, rfl⟩⟩, h2⟩
end Go.Proofs.YthhallnkpbgomaaDoor

/- What a double rule is asked. -/
namespace Go.Proofs.YthhallnkpbgomaaDoor
set_option linter.unusedSimpArgs false
set_option linter.unusedVariables false
open Go.RowKit Go.Proofs.YthhallnkpbgomaaDoor.ML Go.Proofs.YthhallnkpbgomaaDoor.Samp

def right1 (N F S : Int) : Bool := inB 0 N [F] && inB 0 (N - F) [S]
def right2 (F A : Int) : Bool := inB 0 F [A]
def right3 (F A R S T : Int) : Bool := inB (A + 1) (F + 1) [R] && inB A (R + S) [T]

set_option maxRecDepth 100000 in
set_option maxHeartbeats 2000000 in
theorem dbl1_any (N F A R S T : Int) (r : Bool) (w : World) (hN : 1 ≤ N ∧ N ≤ 36) (hr : Hid (right1 N F S = r)) :
    Calls Tryd.prog 146 #[.int .i64 N, .agg #[.int .i64 F, .int .i64 A, .int .i64 R, .int .i64 S, .int .i64 T]] w fun e w' => e = .returned (.bool r) ∧ Below w.heap.size w w' := by
  have hB0 : Below w.heap.size w (w.alloc (.cells #[.int .i64 F, .int .i64 A, .int .i64 R, .int .i64 S, .int .i64 T] 29)) := (Below.refl _ w).alloc (Nat.le_refl _) _
  have c0_0 : (w.alloc (.cells #[.int .i64 F, .int .i64 A, .int .i64 R, .int .i64 S, .int .i64 T] 29)).cell? ⟨w.heap.size, 0, none⟩ = some (.int .i64 F) := by simp [go_sem]
  have c0_1 : (w.alloc (.cells #[.int .i64 F, .int .i64 A, .int .i64 R, .int .i64 S, .int .i64 T] 29)).cell? ⟨w.heap.size, 1, none⟩ = some (.int .i64 A) := by simp [go_sem]
  have c0_2 : (w.alloc (.cells #[.int .i64 F, .int .i64 A, .int .i64 R, .int .i64 S, .int .i64 T] 29)).cell? ⟨w.heap.size, 2, none⟩ = some (.int .i64 R) := by simp [go_sem]
  have c0_3 : (w.alloc (.cells #[.int .i64 F, .int .i64 A, .int .i64 R, .int .i64 S, .int .i64 T] 29)).cell? ⟨w.heap.size, 3, none⟩ = some (.int .i64 S) := by simp [go_sem]
  have c0_4 : (w.alloc (.cells #[.int .i64 F, .int .i64 A, .int .i64 R, .int .i64 S, .int .i64 T] 29)).cell? ⟨w.heap.size, 4, none⟩ = some (.int .i64 T) := by simp [go_sem]
  cases h1 : inB 0 N [F]
  · have H1 := Lib.hid h1
    obtain rfl : r = false := by rw [← hr.out]; simp [right1, h1]
    have HB0 := Lib.hid hB0
    clear h1 hr hB0 c0_0 c0_1 c0_2 c0_3 c0_4
    go_enter Tryd.func146, Tryd.ntmps146
    go_wp2_with fail
    refine (in_one _ _ F false _ _ H1.out (by simp [go_sem])).mono ?_
    rintro e w1 ⟨rfl, hB1⟩
    go_wp2_with fail
    go_ret
    exact ⟨rfl, (HB0.out.alloc (by simp) _).trans (hB1.mono (by simp; omega))⟩
  · have H1 := Lib.hid h1
    have HR := Lib.hid (show inB 0 (N - F) [S] = r by rw [← hr.out]; simp [right1, h1])
    have hF : 0 ≤ F ∧ F ≤ N := by simpa [inB] using h1
    clear h1 hr
    go_enter Tryd.func146, Tryd.ntmps146
    go_wp2_with fail
    refine (in_one _ _ F true _ _ H1.out (by simp [go_sem])).mono ?_
    rintro e w1 ⟨rfl, hB1⟩
    have K_w1 : Free.Bel (w.alloc (.cells #[.int .i64 F, .int .i64 A, .int .i64 R, .int .i64 S, .int .i64 T] 29)) w1 := by
      refine Free.Bel.trans _ _ _ ?_ hB1
      repeat (first | exact Free.Bel.refl _ | refine Bel.allocT ?_ _ | refine Bel.drewT ?_)
    clear hB1
    have hq : w.heap.size + 1 = (w.alloc (.cells #[.int .i64 F, .int .i64 A, .int .i64 R, .int .i64 S, .int .i64 T] 29)).heap.size := by simp
    generalize (w.alloc (.cells #[.int .i64 F, .int .i64 A, .int .i64 R, .int .i64 S, .int .i64 T] 29)) = W0 at *
    generalize hbb : w.heap.size = bb at *
    have HBB := Lib.hid hbb
    clear hbb
    have HB0 := Lib.hid hB0
    have hq0 : bb + 1 ≤ W0.heap.size := by omega
    clear hB0 hq
    have FA : ∀ W, Free.Bel W0 W → W.cell? ⟨bb, 0, none⟩ = some (.int .i64 F) ∧ W.cell? ⟨bb, 1, none⟩ = some (.int .i64 A) ∧ W.cell? ⟨bb, 2, none⟩ = some (.int .i64 R) ∧ W.cell? ⟨bb, 3, none⟩ = some (.int .i64 S) ∧ W.cell? ⟨bb, 4, none⟩ = some (.int .i64 T) ∧ bb + 1 ≤ W.heap.size := fun W hW => ⟨keepsB hW c0_0, keepsB hW c0_1, keepsB hW c0_2, keepsB hW c0_3, keepsB hW c0_4, Nat.le_trans hq0 hW.size⟩
    clear c0_0 c0_1 c0_2 c0_3 c0_4
    go_wp2_with fail
    refine (in_one _ _ S r _ _ HR.out (by simp [go_sem])).mono ?_
    rintro e w2 ⟨rfl, hB2⟩
    have K_w2 : Free.Bel W0 w2 := by
      refine Free.Bel.trans _ _ _ ?_ hB2
      repeat (first | exact K_w1 | exact Free.Bel.refl _ | refine Bel.allocT ?_ _ | refine Bel.drewT ?_)
    go_wp2_with fail
    go_ret
    have hbb := HBB.out
    subst hbb
    exact ⟨rfl, HB0.out.trans (K_w2.mono (by omega))⟩

set_option maxRecDepth 100000 in
set_option maxHeartbeats 2000000 in
theorem dbl2_any (N F A R S T : Int) (r : Bool) (w : World)  (hr : Hid (right2 F A = r)) :
    Calls Tryd.prog 147 #[.int .i64 N, .agg #[.int .i64 F, .int .i64 A, .int .i64 R, .int .i64 S, .int .i64 T]] w fun e w' => e = .returned (.bool r) ∧ Below w.heap.size w w' := by
  have hB0 : Below w.heap.size w (w.alloc (.cells #[.int .i64 F, .int .i64 A, .int .i64 R, .int .i64 S, .int .i64 T] 29)) := (Below.refl _ w).alloc (Nat.le_refl _) _
  have c0_0 : (w.alloc (.cells #[.int .i64 F, .int .i64 A, .int .i64 R, .int .i64 S, .int .i64 T] 29)).cell? ⟨w.heap.size, 0, none⟩ = some (.int .i64 F) := by simp [go_sem]
  have c0_1 : (w.alloc (.cells #[.int .i64 F, .int .i64 A, .int .i64 R, .int .i64 S, .int .i64 T] 29)).cell? ⟨w.heap.size, 1, none⟩ = some (.int .i64 A) := by simp [go_sem]
  have c0_2 : (w.alloc (.cells #[.int .i64 F, .int .i64 A, .int .i64 R, .int .i64 S, .int .i64 T] 29)).cell? ⟨w.heap.size, 2, none⟩ = some (.int .i64 R) := by simp [go_sem]
  have c0_3 : (w.alloc (.cells #[.int .i64 F, .int .i64 A, .int .i64 R, .int .i64 S, .int .i64 T] 29)).cell? ⟨w.heap.size, 3, none⟩ = some (.int .i64 S) := by simp [go_sem]
  have c0_4 : (w.alloc (.cells #[.int .i64 F, .int .i64 A, .int .i64 R, .int .i64 S, .int .i64 T] 29)).cell? ⟨w.heap.size, 4, none⟩ = some (.int .i64 T) := by simp [go_sem]
  have HB0 := Lib.hid hB0
  clear hB0 c0_0 c0_1 c0_2 c0_3 c0_4
  go_enter Tryd.func147, Tryd.ntmps147
  go_wp2_with fail
  refine (in_one _ _ A r _ _ hr.out (by simp [go_sem])).mono ?_
  rintro e w1 ⟨rfl, hB1⟩
  go_wp2_with fail
  go_ret
  exact ⟨rfl, (HB0.out.alloc (by simp) _).trans (hB1.mono (by simp; omega))⟩

set_option maxRecDepth 100000 in
set_option maxHeartbeats 2000000 in
theorem dbl3_any (N F A R S T : Int) (r : Bool) (w : World) (hN : 0 ≤ F ∧ F ≤ 36 ∧ 0 ≤ A ∧ A ≤ F ∧ 0 ≤ S ∧ S ≤ 36) (hr : Hid (right3 F A R S T = r)) :
    Calls Tryd.prog 148 #[.int .i64 N, .agg #[.int .i64 F, .int .i64 A, .int .i64 R, .int .i64 S, .int .i64 T]] w fun e w' => e = .returned (.bool r) ∧ Below w.heap.size w w' := by
  have hB0 : Below w.heap.size w (w.alloc (.cells #[.int .i64 F, .int .i64 A, .int .i64 R, .int .i64 S, .int .i64 T] 29)) := (Below.refl _ w).alloc (Nat.le_refl _) _
  have c0_0 : (w.alloc (.cells #[.int .i64 F, .int .i64 A, .int .i64 R, .int .i64 S, .int .i64 T] 29)).cell? ⟨w.heap.size, 0, none⟩ = some (.int .i64 F) := by simp [go_sem]
  have c0_1 : (w.alloc (.cells #[.int .i64 F, .int .i64 A, .int .i64 R, .int .i64 S, .int .i64 T] 29)).cell? ⟨w.heap.size, 1, none⟩ = some (.int .i64 A) := by simp [go_sem]
  have c0_2 : (w.alloc (.cells #[.int .i64 F, .int .i64 A, .int .i64 R, .int .i64 S, .int .i64 T] 29)).cell? ⟨w.heap.size, 2, none⟩ = some (.int .i64 R) := by simp [go_sem]
  have c0_3 : (w.alloc (.cells #[.int .i64 F, .int .i64 A, .int .i64 R, .int .i64 S, .int .i64 T] 29)).cell? ⟨w.heap.size, 3, none⟩ = some (.int .i64 S) := by simp [go_sem]
  have c0_4 : (w.alloc (.cells #[.int .i64 F, .int .i64 A, .int .i64 R, .int .i64 S, .int .i64 T] 29)).cell? ⟨w.heap.size, 4, none⟩ = some (.int .i64 T) := by simp [go_sem]
  cases h1 : inB (A + 1) (F + 1) [R]
  · have H1 := Lib.hid h1
    obtain rfl : r = false := by rw [← hr.out]; simp [right3, h1]
    have HB0 := Lib.hid hB0
    clear h1 hr hB0 c0_0 c0_1 c0_2 c0_3 c0_4
    go_enter Tryd.func148, Tryd.ntmps148
    go_wp2_with fail
    refine (in_one _ _ R false _ _ H1.out (by simp [go_sem])).mono ?_
    rintro e w1 ⟨rfl, hB1⟩
    go_wp2_with fail
    go_ret
    exact ⟨rfl, (HB0.out.alloc (by simp) _).trans (hB1.mono (by simp; omega))⟩
  · have H1 := Lib.hid h1
    have HR := Lib.hid (show inB A (R + S) [T] = r by rw [← hr.out]; simp [right3, h1])
    have hF : (A + 1) ≤ R ∧ R ≤ (F + 1) := by simpa [inB] using h1
    clear h1 hr
    go_enter Tryd.func148, Tryd.ntmps148
    go_wp2_with fail
    refine (in_one _ _ R true _ _ H1.out (by simp [go_sem])).mono ?_
    rintro e w1 ⟨rfl, hB1⟩
    have K_w1 : Free.Bel (w.alloc (.cells #[.int .i64 F, .int .i64 A, .int .i64 R, .int .i64 S, .int .i64 T] 29)) w1 := by
      refine Free.Bel.trans _ _ _ ?_ hB1
      repeat (first | exact Free.Bel.refl _ | refine Bel.allocT ?_ _ | refine Bel.drewT ?_)
    clear hB1
    have hq : w.heap.size + 1 = (w.alloc (.cells #[.int .i64 F, .int .i64 A, .int .i64 R, .int .i64 S, .int .i64 T] 29)).heap.size := by simp
    generalize (w.alloc (.cells #[.int .i64 F, .int .i64 A, .int .i64 R, .int .i64 S, .int .i64 T] 29)) = W0 at *
    generalize hbb : w.heap.size = bb at *
    have HBB := Lib.hid hbb
    clear hbb
    have HB0 := Lib.hid hB0
    have hq0 : bb + 1 ≤ W0.heap.size := by omega
    clear hB0 hq
    have FA : ∀ W, Free.Bel W0 W → W.cell? ⟨bb, 0, none⟩ = some (.int .i64 F) ∧ W.cell? ⟨bb, 1, none⟩ = some (.int .i64 A) ∧ W.cell? ⟨bb, 2, none⟩ = some (.int .i64 R) ∧ W.cell? ⟨bb, 3, none⟩ = some (.int .i64 S) ∧ W.cell? ⟨bb, 4, none⟩ = some (.int .i64 T) ∧ bb + 1 ≤ W.heap.size := fun W hW => ⟨keepsB hW c0_0, keepsB hW c0_1, keepsB hW c0_2, keepsB hW c0_3, keepsB hW c0_4, Nat.le_trans hq0 hW.size⟩
    clear c0_0 c0_1 c0_2 c0_3 c0_4
    go_wp2_with fail
    refine (in_one _ _ T r _ _ HR.out (by simp [go_sem])).mono ?_
    rintro e w2 ⟨rfl, hB2⟩
    have K_w2 : Free.Bel W0 w2 := by
      refine Free.Bel.trans _ _ _ ?_ hB2
      repeat (first | exact K_w1 | exact Free.Bel.refl _ | refine Bel.allocT ?_ _ | refine Bel.drewT ?_)
    go_wp2_with fail
    go_ret
    have hbb := HBB.out
    subst hbb
    exact ⟨rfl, HB0.out.trans (K_w2.mono (by omega))⟩
end Go.Proofs.YthhallnkpbgomaaDoor

