/- A struct of any size that a region makes and stores once, in whatever order. -/
import Derived.Test.YthhallnkpbgomaaDoorKeptX
import Derived.RangeFuncBox
namespace Go.Proofs.YthhallnkpbgomaaDoor
set_option linter.unusedSimpArgs false
set_option linter.unusedVariables false
open Go.RowKit Go.Proofs.YthhallnkpbgomaaDoor.Free2

theorem with_world {c : Code} {P : Program} {Q : Exit → Act → World → Prop} {a : Act} {w : World} (h : ∀ W, W = w → c.wp P Q a W) : c.wp P Q a w := h w rfl
theorem yields_enter {P : Program} {K : Value → World → Prop} {f : FuncId} {args : Array Value} {w : World} (h : Calls P f args w fun e w' => ∃ v, e = .returned v ∧ K v w') : Free.Yields P K (.ok (.enter f args) w) := h

theorem heap_setCell_same {w : World} {b o : Nat} {c : Array Value} {t : TypeId} {f : Nat × Nat} (v : Value) (h : w.heap[b]? = some (.cells c t f)) : (w.setCell ⟨b, o, none⟩ v).heap[b]? = some (.cells (c.setIfInBounds o v) t f) := by
  show (w.heap.modify b _)[b]? = _
  rw [Array.getElem?_modify]
  simp [h]
theorem cell_of_heap {w : World} {b o : Nat} {c : Array Value} {t : TypeId} {f : Nat × Nat} {v : Value} (h : w.heap[b]? = some (.cells c t f)) (hc : c[o]? = some v) : w.cell? ⟨b, o, none⟩ = some v := by
  simp [World.cell?, h, hc]
theorem frozen_of_heap {w : World} {b o : Nat} {c : Array Value} {t : TypeId} (h : w.heap[b]? = some (.cells c t (0, 0))) : w.frozen? ⟨b, o, none⟩ = false := by
  simp [World.frozen?, h]
theorem lt_of_heap {w : World} {b : Nat} {o : Obj} (h : w.heap[b]? = some o) : b < w.heap.size := (Array.getElem?_eq_some_iff.1 h).1

/-- Operation i makes the block, operation j stores it. -/
structure LB (mb s0 i j : Nat) (o0 o1 : Obj) (X : XT) (w : World) : Prop where
  first : X i = none → X j = none
  blk : ∀ v, X i = some v → ∃ b, v = ptr b ∧ s0 ≤ b ∧ b ≠ mb ∧ (X j = none → w.heap[b]? = some o0) ∧ (X j ≠ none → w.heap[b]? = some o1)
section
variable {mb s0 i j : Nat} {o0 o1 : Obj} {X : XT} {w w' : World}
theorem LB.start : LB mb s0 i j o0 o1 (fun _ => none) w := ⟨fun _ => rfl, fun v h => (by cases h)⟩
theorem LB.skip (h : LB mb s0 i j o0 o1 X w) (n : Nat) (v : Value) (h1 : n ≠ i) (h2 : n ≠ j) : LB mb s0 i j o0 o1 (upd X n v) w :=
  ⟨by rw [upd_other _ _ h1.symm, upd_other _ _ h2.symm]; exact h.first, by rw [upd_other _ _ h1.symm, upd_other _ _ h2.symm]; exact h.blk⟩
theorem LB.kept (h : LB mb s0 i j o0 o1 X w) (hK : Kept mb w w') : LB mb s0 i j o0 o1 X w' :=
  ⟨h.first, fun v hv => by
    obtain ⟨b, rfl, h1, h2, h3, h4⟩ := h.blk v hv
    exact ⟨b, rfl, h1, h2, fun hj => (hK.block b (lt_of_heap (h3 hj)) h2).trans (h3 hj), fun hj => (hK.block b (lt_of_heap (h4 hj)) h2).trans (h4 hj)⟩⟩
theorem LB.new (h : LB mb s0 i j o0 o1 X w) (hij : i ≠ j) (hi : X i = none) (hs : s0 ≤ w.heap.size) (hm : mb < w.heap.size) : LB mb s0 i j o0 o1 (upd X i (ptr w.heap.size)) (w.alloc o0) :=
  ⟨fun h0 => (by rw [upd_same] at h0; cases h0), fun v hv => by
    rw [upd_same] at hv
    cases hv
    rw [upd_other _ _ hij.symm]
    exact ⟨_, rfl, hs, by omega, fun _ => World.alloc_heap_new w o0, fun hj => absurd (h.first hi) hj⟩⟩
/-- What is found where it is stored. -/
theorem LB.at_ (h : LB mb s0 i j o0 o1 X w) {v : Value} (hv : X i = some v) (hj : X j = none) : ∃ b, v = ptr b ∧ s0 ≤ b ∧ b ≠ mb ∧ w.heap[b]? = some o0 := by
  obtain ⟨b, rfl, h1, h2, h3, h4⟩ := h.blk v hv
  exact ⟨b, rfl, h1, h2, h3 hj⟩
theorem LB.stored (h : LB mb s0 i j o0 o1 X w) (hij : i ≠ j) {b : Nat} (hv : X i = some (ptr b)) (hs : s0 ≤ b) (hm : b ≠ mb) (hb : w'.heap[b]? = some o1) (u : Value) : LB mb s0 i j o0 o1 (upd X j u) w' :=
  ⟨fun h0 => (by rw [upd_other _ _ hij] at h0; rw [hv] at h0; cases h0), fun v hv' => by
    rw [upd_other _ _ hij, hv] at hv'
    cases hv'
    rw [upd_same]
    exact ⟨b, rfl, hs, hm, (by intro h; cases h), fun _ => hb⟩⟩
theorem LB.done (h : LB mb s0 i j o0 o1 X w) {v u : Value} (hv : X i = some v) (hu : X j = some u) : ∃ b, v = ptr b ∧ s0 ≤ b ∧ b ≠ mb ∧ w.heap[b]? = some o1 := by
  obtain ⟨b, rfl, h1, h2, h3, h4⟩ := h.blk v hv
  exact ⟨b, rfl, h1, h2, h4 (by simp [hu])⟩
theorem KeptB.setNew {b o : Nat} {v : Value} (hs : s0 ≤ b) (hm : b ≠ mb) : KeptB s0 mb w (w.setCell ⟨b, o, none⟩ v) :=
  ⟨rfl, rfl, rfl, by simp, fun k hk _ => Below.heap_setCell _ _ _ _ (by simp; omega), fun ⟨l, hl, hv⟩ => ⟨l, hl.of_block (Below.heap_setCell _ _ _ _ (by simpa using hm.symm)), hv⟩⟩
theorem Kept.setNew {a : World} {b o : Nat} {v : Value} (h : Kept mb a w) (hs : a.heap.size ≤ b) (hm : b ≠ mb) : Kept mb a (w.setCell ⟨b, o, none⟩ v) :=
  ⟨h.os, h.tape, h.output, by simpa using h.size, fun k hk hne => (Below.heap_setCell _ _ _ _ (by simp; omega)).trans (h.block k hk hne), fun m => by
    obtain ⟨l, hl, hv⟩ := h.memo m
    exact ⟨l, hl.of_block (Below.heap_setCell _ _ _ _ (by simpa using hm.symm)), hv⟩⟩
end
end Go.Proofs.YthhallnkpbgomaaDoor
