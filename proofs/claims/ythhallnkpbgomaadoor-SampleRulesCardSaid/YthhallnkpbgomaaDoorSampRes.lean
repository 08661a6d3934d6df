/- A result that lies in a block of its own and is stored once; all else stays. -/
import Derived.Test.YthhallnkpbgomaaDoorSampWorld
import Derived.Test.YthhallnkpbgomaaDoorFree
namespace Go.Proofs.YthhallnkpbgomaaDoor
open Go.RowKit

/-- All blocks but mb and rb stay; rb holds what it held, or what is stored at last. -/
structure KeptR (mb rb : Nat) (xs : List Value) (a b : World) : Prop where
  os : b.os = a.os
  tape : b.tape = a.tape
  output : b.output = a.output
  size : a.heap.size ≤ b.heap.size
  block : ∀ k, k < a.heap.size → k ≠ mb → k ≠ rb → b.heap[k]? = a.heap[k]?
  memo : Memo mb a → Memo mb b
  frozen : ∀ o, b.frozen? ⟨rb, o, none⟩ = a.frozen? ⟨rb, o, none⟩
  there : ∀ o, (a.cell? ⟨rb, o, none⟩).isSome = true → (b.cell? ⟨rb, o, none⟩).isSome = true
  cells : (∀ o, b.cell? ⟨rb, o, none⟩ = a.cell? ⟨rb, o, none⟩) ∨ (∀ i, (h : i < xs.length) → b.cell? ⟨rb, i, none⟩ = some xs[i])

theorem KeptR.refl (mb rb : Nat) (xs : List Value) (a : World) : KeptR mb rb xs a a :=
  ⟨rfl, rfl, rfl, Nat.le_refl _, fun _ _ _ _ => rfl, id, fun _ => rfl, fun _ h => h, .inl fun _ => rfl⟩
theorem KeptR.trans {mb rb : Nat} {xs : List Value} {a b c : World} (h : KeptR mb rb xs a b) (k : KeptR mb rb xs b c) : KeptR mb rb xs a c :=
  ⟨k.os.trans h.os, k.tape.trans h.tape, k.output.trans h.output, Nat.le_trans h.size k.size,
    fun i hi h1 h2 => (k.block i (Nat.lt_of_lt_of_le hi h.size) h1 h2).trans (h.block i hi h1 h2), fun m => k.memo (h.memo m),
    fun o => (k.frozen o).trans (h.frozen o), fun o hs => k.there o (h.there o hs), by
      rcases k.cells with hk | hk
      · rcases h.cells with hh | hh
        · exact .inl fun o => (hk o).trans (hh o)
        · exact .inr fun i hi => (hk i).trans (hh i hi)
      · exact .inr hk⟩
/-- What leaves all but mb leaves rb too, if that is a block of its own. -/
theorem KeptR.of_kept {mb rb : Nat} {xs : List Value} {a b : World} (h : Kept mb a b) (hne : rb ≠ mb) (hlt : rb < a.heap.size) : KeptR mb rb xs a b :=
  have hb := h.block rb hlt hne
  ⟨h.os, h.tape, h.output, h.size, fun k hk h1 _ => h.block k hk h1, h.memo, fun o => World.frozen?_of_block (w := a) (a := ⟨rb, o, none⟩) hb,
    fun o hs => by rw [World.cell?_of_block (w := a) (a := ⟨rb, o, none⟩) hb]; exact hs, .inl fun o => World.cell?_of_block (w := a) (a := ⟨rb, o, none⟩) hb⟩
/-- What was there when the call began stays, but for mb. -/
theorem KeptR.kept {mb rb : Nat} {xs : List Value} {w a b : World} (h0 : Kept mb w a) (h : KeptR mb rb xs a b) (hrb : w.heap.size ≤ rb) : Kept mb w b :=
  ⟨h.os.trans h0.os, h.tape.trans h0.tape, h.output.trans h0.output, Nat.le_trans h0.size h.size,
    fun k hk h1 => (h.block k (Nat.lt_of_lt_of_le hk h0.size) h1 (by omega)).trans (h0.block k hk h1), fun m => h.memo (h0.memo m)⟩
theorem KeptR.cell {mb rb : Nat} {xs : List Value} {w w' : World} (h : KeptR mb rb xs w w') {p : Addr} {v : Value} (hv : w.cell? p = some v) (h1 : p.block ≠ mb) (h2 : p.block ≠ rb) : w'.cell? p = some v := by
  rw [World.cell?_of_block (w := w) (h.block p.block (lt_of_cell hv) h1 h2)]; exact hv
theorem KeptR.drew {mb rb : Nat} {xs : List Value} {a b : World} (h : KeptR mb rb xs a b) : KeptR mb rb xs a b.drew := ⟨h.os, h.tape, h.output, h.size, h.block, h.memo, h.frozen, h.there, h.cells⟩
theorem KeptR.hold {mb rb : Nat} {xs : List Value} {hb : Nat} {N lo hi : Int} {kb cb : Nat} {w w' : World} (hH : Hold hb N lo hi mb kb cb w) (h : KeptR mb rb xs w w') (n1 : kb ≠ rb) (n2 : cb ≠ rb) (n3 : hb ≠ rb) : Hold hb N lo hi mb kb cb w' :=
  have m := hH.ctr.memo
  ⟨⟨h.memo m, h.cell hH.ctr.known (m.ne hH.ctr.known) n1, h.cell hH.ctr.count (m.ne hH.ctr.count) n2⟩, h.cell hH.bags (m.ne hH.bags) n3, h.cell hH.lo (m.ne hH.lo) n3, h.cell hH.hi (m.ne hH.hi) n3, h.cell hH.sets (m.ne hH.sets) n3⟩

theorem setCell_size (w : World) (a : Addr) (v : Value) : (w.setCell a v).heap.size = w.heap.size := by simp [World.setCell]
/-- A fraction is stored. -/
theorem KeptR.store2 {mb rb : Nat} {x y u v : Value} {w : World} (hne : rb ≠ mb) (c0 : w.cell? ⟨rb, 0, none⟩ = some u) (c1 : w.cell? ⟨rb, 1, none⟩ = some v) :
    KeptR mb rb [x, y] w ((w.setCell ⟨rb, 0, none⟩ x).setCell ⟨rb, 1, none⟩ y) ∧
      (((w.setCell ⟨rb, 0, none⟩ x).setCell ⟨rb, 1, none⟩ y).cell? ⟨rb, 0, none⟩ = some x ∧ ((w.setCell ⟨rb, 0, none⟩ x).setCell ⟨rb, 1, none⟩ y).cell? ⟨rb, 1, none⟩ = some y) := by
  have ht := two_stores (w := w) (b := rb) x y c0 c1
  have hblk : ∀ k, k ≠ rb → ((w.setCell ⟨rb, 0, none⟩ x).setCell ⟨rb, 1, none⟩ y).heap[k]? = w.heap[k]? := fun k hk => by
    rw [Below.heap_setCell _ _ _ _ (by simpa using hk), Below.heap_setCell _ _ _ _ (by simpa using hk)]
  refine ⟨⟨rfl, rfl, rfl, by simp, fun k _ _ h2 => hblk k h2, fun ⟨l, hl, hv⟩ => ⟨l, hl.of_block (hblk mb (Ne.symm hne)), hv⟩, fun o => by simp, ?_, .inr ?_⟩, ht⟩
  · intro o ho
    obtain ⟨z, hz⟩ := Option.isSome_iff_exists.1 ho
    obtain ⟨z1, hz1⟩ := cell?_setCell_some (p := ⟨rb, 0, none⟩) (x := x) hz
    obtain ⟨z2, hz2⟩ := cell?_setCell_some (p := ⟨rb, 1, none⟩) (x := y) hz1
    simp [hz2]
  · intro i hi
    match i, hi with
    | 0, _ => exact ht.1
    | 1, _ => exact ht.2
/-- That the fraction is there holds on. -/
theorem KeptR.stable2 {mb rb : Nat} {x y : Value} : Free.Stable (KeptR mb rb [x, y]) (fun _ w => w.cell? ⟨rb, 0, none⟩ = some x ∧ w.cell? ⟨rb, 1, none⟩ = some y) := by
  intro v w w' h ⟨h0, h1⟩
  rcases h.cells with hc | hc
  · exact ⟨(hc 0).trans h0, (hc 1).trans h1⟩
  · exact ⟨hc 0 (by simp), hc 1 (by simp)⟩
end Go.Proofs.YthhallnkpbgomaaDoor
