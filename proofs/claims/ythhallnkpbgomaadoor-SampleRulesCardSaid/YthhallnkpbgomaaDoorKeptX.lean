/- What a call leaves as it was, but for some blocks of the function's own; stores into two results in a region that draws its order. -/
import Derived.Test.YthhallnkpbgomaaDoorTwoLoc
namespace Go.Proofs.YthhallnkpbgomaaDoor
set_option linter.unusedSimpArgs false
set_option linter.unusedVariables false
open Go.RowKit Go.Proofs.YthhallnkpbgomaaDoor.Free2

theorem Bel.allocT {a b : World} (h : Free.Bel a b) (o : Obj) : Free.Bel a (b.alloc o) := h.trans _ _ _ (belAlloc b o)
theorem Bel.drewT {a b : World} (h : Free.Bel a b) : Free.Bel a b.drew := Below.drew h

structure KeptX (mb : Nat) (rs : List Nat) (a b : World) : Prop where
  os : b.os = a.os
  tape : b.tape = a.tape
  output : b.output = a.output
  size : a.heap.size ≤ b.heap.size
  block : ∀ k, k < a.heap.size → k ≠ mb → k ∉ rs → b.heap[k]? = a.heap[k]?
  memo : Memo mb a → Memo mb b
section
variable {mb : Nat} {rs : List Nat} {a b c w w' : World}
theorem KeptX.refl (mb : Nat) (rs : List Nat) (a : World) : KeptX mb rs a a := ⟨rfl, rfl, rfl, Nat.le_refl _, fun _ _ _ _ => rfl, id⟩
theorem KeptX.trans (h : KeptX mb rs a b) (k : KeptX mb rs b c) : KeptX mb rs a c :=
  ⟨k.os.trans h.os, k.tape.trans h.tape, k.output.trans h.output, Nat.le_trans h.size k.size, fun i hi hne hn => (k.block i (Nat.lt_of_lt_of_le hi h.size) hne hn).trans (h.block i hi hne hn), fun m => k.memo (h.memo m)⟩
theorem KeptX.of_kept (h : Kept mb a b) : KeptX mb rs a b := ⟨h.os, h.tape, h.output, h.size, fun k hk hne _ => h.block k hk hne, h.memo⟩
theorem KeptX.drew (h : KeptX mb rs a b) : KeptX mb rs a b.drew := ⟨h.os, h.tape, h.output, h.size, h.block, h.memo⟩
theorem KeptX.alloc (h : KeptX mb rs a b) (o : Obj) : KeptX mb rs a (b.alloc o) := h.trans (.of_kept ((Kept.refl mb b).alloc o))
theorem KeptX.cell (h : KeptX mb rs w w') {p : Addr} {v : Value} (hv : w.cell? p = some v) (h1 : p.block ≠ mb) (h2 : p.block ∉ rs) : w'.cell? p = some v :=
  (World.cell?_of_block (h.block _ (lt_of_cell hv) h1 h2)).trans hv
theorem KeptX.kept {w0 : World} (h0 : Kept mb w0 w) (h : KeptX mb rs w w') (hr : ∀ r ∈ rs, w0.heap.size ≤ r) : Kept mb w0 w' :=
  ⟨h.os.trans h0.os, h.tape.trans h0.tape, h.output.trans h0.output, Nat.le_trans h0.size h.size,
    fun k hk hne => (h.block k (Nat.lt_of_lt_of_le hk h0.size) hne (fun hm => by have := hr k hm; omega)).trans (h0.block k hk hne), fun m => h.memo (h0.memo m)⟩
theorem KeptX.below {w0 : World} {s : Nat} (h0 : Below s w0 w) (h : KeptX mb rs w w') (hm : s ≤ mb) (hr : ∀ r ∈ rs, s ≤ r) (hs : s ≤ w.heap.size) : Below s w0 w' :=
  ⟨h.os.trans h0.os, h.tape.trans h0.tape, h.output.trans h0.output, Nat.le_trans h0.size h.size,
    fun k hk => (h.block k (by omega) (by omega) (fun hm => by have := hr k hm; omega)).trans (h0.block k hk)⟩
theorem KeptX.hold {hb : Nat} {N lo hi : Int} {kb cb : Nat} (hH : Hold hb N lo hi mb kb cb w) (h : KeptX mb rs w w') (n1 : kb ∉ rs) (n2 : cb ∉ rs) (n3 : hb ∉ rs) : Hold hb N lo hi mb kb cb w' :=
  ⟨⟨h.memo hH.ctr.memo, h.cell hH.ctr.known (hH.ctr.memo.ne hH.ctr.known) n1, h.cell hH.ctr.count (hH.ctr.memo.ne hH.ctr.count) n2⟩, h.cell hH.bags (hH.ctr.memo.ne hH.bags) n3, h.cell hH.lo (hH.ctr.memo.ne hH.lo) n3, h.cell hH.hi (hH.ctr.memo.ne hH.hi) n3, h.cell hH.sets (hH.ctr.memo.ne hH.sets) n3⟩
theorem Two.storeX {b : Nat} {x y u v : Value} (h : Two b u v w) (hb : b ∈ rs) (hne : b ≠ mb) :
    Two b x y ((w.setCell ⟨b, 0, none⟩ x).setCell ⟨b, 1, none⟩ y) ∧ (∀ k, k ≠ b → ((w.setCell ⟨b, 0, none⟩ x).setCell ⟨b, 1, none⟩ y).heap[k]? = w.heap[k]?) ∧ KeptX mb rs w ((w.setCell ⟨b, 0, none⟩ x).setCell ⟨b, 1, none⟩ y) := by
  obtain ⟨h1, h2, h3⟩ := h.store (x := x) (y := y) hne
  have hK := h3 0 (Nat.zero_le _)
  exact ⟨h1, h2, hK.os, hK.tape, hK.output, hK.size, fun k _ _ hn => h2 k (fun e => hn (e ▸ hb)), hK.memo⟩
theorem Two.keptX {b : Nat} {x y : Value} (h : Two b x y w) (hK : KeptX mb rs w w') (h1 : b ≠ mb) (h2 : b ∉ rs) : Two b x y w' := h.of_block (hK.block b (lt_of_cell h.c0) h1 h2)
/-- What is stored is there already. -/
theorem setCell_noop {b o : Nat} {v : Value} (h : w.cell? ⟨b, o, none⟩ = some v) : w.setCell ⟨b, o, none⟩ v = w := by
  unfold World.cell? at h
  unfold World.setCell
  cases hb : w.heap[b]? with
  | none => simp [hb] at h
  | some ob =>
    rw [hb] at h
    cases ob with
    | cells c e f =>
      simp at h
      have : w.heap.modify b (fun | .cells c elem frozen => .cells (if (⟨b, o, none⟩ : Addr).spot.isSome then c else c.setIfInBounds o v) elem frozen | ob => ob) = w.heap := by
        refine Array.ext_getElem? fun i => ?_
        rw [Array.getElem?_modify]
        split
        · rename_i e
          subst e
          rw [hb]
          simp only [Option.map_some, Option.isSome_none, Bool.false_eq_true, if_false]
          congr 2
          refine Array.ext_getElem? fun j => ?_
          rw [Array.getElem?_setIfInBounds]
          split
          · rename_i e2
            subst e2
            split
            · exact h.symm
            · rename_i hn; simp at hn; rw [Array.getElem?_eq_none hn] at h; cases h
          · rfl
        · rfl
      exact congrArg (fun h => ({ w with heap := h } : World)) this
    | _ => simp at h
theorem noop2 {b : Nat} {x y : Value} (h0 : w.cell? ⟨b, 0, none⟩ = some x) (h1 : w.cell? ⟨b, 1, none⟩ = some y) : (w.setCell ⟨b, 0, none⟩ x).setCell ⟨b, 1, none⟩ y = w := by rw [setCell_noop h0, setCell_noop h1]

/-- Operation i stores into a block that was there. -/
structure Fx (i b : Nat) (x0 y0 x y : Value) (X : XT) (w : World) : Prop where
  old : X i = none → Two b x0 y0 w
  new : X i ≠ none → Two b x y w
variable {i i1 i2 b1 b2 : Nat} {x0 y0 x y x1 y1 x2 y2 u1 v1 u2 v2 : Value} {X : XT}
theorem Fx.skip {b : Nat} (h : Fx i b x0 y0 x y X w) (n : Nat) (v : Value) (h1 : n ≠ i) : Fx i b x0 y0 x y (upd X n v) w := ⟨by rw [upd_other _ _ h1.symm]; exact h.old, by rw [upd_other _ _ h1.symm]; exact h.new⟩
theorem Fx.block {b : Nat} (h : Fx i b x0 y0 x y X w) (hb : w'.heap[b]? = w.heap[b]?) : Fx i b x0 y0 x y X w' := ⟨fun hx => (h.old hx).of_block hb, fun hx => (h.new hx).of_block hb⟩
theorem Fx.lt {b : Nat} (h : Fx i b x0 y0 x y X w) : b < w.heap.size := by
  by_cases hx : X i = none
  · exact lt_of_cell (h.old hx).c0
  · exact lt_of_cell (h.new hx).c0
theorem Fx.kept {b : Nat} (h : Fx i b x0 y0 x y X w) (hK : Kept mb w w') (hne : b ≠ mb) : Fx i b x0 y0 x y X w' := h.block (hK.block b h.lt hne)
theorem Fx.at_ {b : Nat} (h : Fx i b x0 y0 x y X w) (hb : b ∈ rs) (hne : b ≠ mb) (hx : X i = none) :
    Two b x0 y0 w ∧ KeptX mb rs w ((w.setCell ⟨b, 0, none⟩ x).setCell ⟨b, 1, none⟩ y) ∧ ∀ v, Fx i b x0 y0 x y (upd X i v) ((w.setCell ⟨b, 0, none⟩ x).setCell ⟨b, 1, none⟩ y) := by
  obtain ⟨s1, s2, s3⟩ := (h.old hx).storeX (x := x) (y := y) hb hne
  exact ⟨h.old hx, s3, fun v => ⟨(fun e => by rw [upd_same] at e; cases e), fun _ => s1⟩⟩
theorem Fx.start {b : Nat} (h : Two b x0 y0 w) : Fx i b x0 y0 x y (fun _ => none) w := ⟨fun _ => h, fun h => absurd rfl h⟩
structure F2 (mb i1 b1 i2 b2 : Nat) (x1 y1 u1 v1 x2 y2 u2 v2 : Value) (X : XT) (w : World) : Prop where
  a : Fx i1 b1 x1 y1 u1 v1 X w
  b : Fx i2 b2 x2 y2 u2 v2 X w
  ne : b1 ≠ b2 ∧ b1 ≠ mb ∧ b2 ≠ mb
theorem F2.start (h1 : Two b1 x1 y1 w) (h2 : Two b2 x2 y2 w) (hne : b1 ≠ b2 ∧ b1 ≠ mb ∧ b2 ≠ mb) : F2 mb i1 b1 i2 b2 x1 y1 u1 v1 x2 y2 u2 v2 (fun _ => none) w := ⟨⟨fun _ => h1, fun h => absurd rfl h⟩, ⟨fun _ => h2, fun h => absurd rfl h⟩, hne⟩
theorem F2.skip (h : F2 mb i1 b1 i2 b2 x1 y1 u1 v1 x2 y2 u2 v2 X w) (n : Nat) (v : Value) (h1 : n ≠ i1) (h2 : n ≠ i2) : F2 mb i1 b1 i2 b2 x1 y1 u1 v1 x2 y2 u2 v2 (upd X n v) w := ⟨h.a.skip n v h1, h.b.skip n v h2, h.ne⟩
theorem F2.kept (h : F2 mb i1 b1 i2 b2 x1 y1 u1 v1 x2 y2 u2 v2 X w) (hK : Kept mb w w') : F2 mb i1 b1 i2 b2 x1 y1 u1 v1 x2 y2 u2 v2 X w' := ⟨h.a.kept hK h.ne.2.1, h.b.kept hK h.ne.2.2, h.ne⟩
theorem F2.at1 (h : F2 mb i1 b1 i2 b2 x1 y1 u1 v1 x2 y2 u2 v2 X w) (h12 : i1 ≠ i2) (h1 : b1 ∈ rs) (hx : X i1 = none) :
    Two b1 x1 y1 w ∧ KeptX mb rs w ((w.setCell ⟨b1, 0, none⟩ u1).setCell ⟨b1, 1, none⟩ v1) ∧ ∀ v, F2 mb i1 b1 i2 b2 x1 y1 u1 v1 x2 y2 u2 v2 (upd X i1 v) ((w.setCell ⟨b1, 0, none⟩ u1).setCell ⟨b1, 1, none⟩ v1) := by
  obtain ⟨s1, s2, s3⟩ := (h.a.old hx).storeX (x := u1) (y := v1) h1 h.ne.2.1
  exact ⟨h.a.old hx, s3, fun v => ⟨⟨(fun e => by rw [upd_same] at e; cases e), fun _ => s1⟩, (h.b.block (s2 b2 h.ne.1.symm)).skip _ _ h12, h.ne⟩⟩
theorem F2.at2 (h : F2 mb i1 b1 i2 b2 x1 y1 u1 v1 x2 y2 u2 v2 X w) (h12 : i1 ≠ i2) (h1 : b2 ∈ rs) (hx : X i2 = none) :
    Two b2 x2 y2 w ∧ KeptX mb rs w ((w.setCell ⟨b2, 0, none⟩ u2).setCell ⟨b2, 1, none⟩ v2) ∧ ∀ v, F2 mb i1 b1 i2 b2 x1 y1 u1 v1 x2 y2 u2 v2 (upd X i2 v) ((w.setCell ⟨b2, 0, none⟩ u2).setCell ⟨b2, 1, none⟩ v2) := by
  obtain ⟨s1, s2, s3⟩ := (h.b.old hx).storeX (x := u2) (y := v2) h1 h.ne.2.2
  exact ⟨h.b.old hx, s3, fun v => ⟨(h.a.block (s2 b1 h.ne.1)).skip _ _ h12.symm, ⟨(fun e => by rw [upd_same] at e; cases e), fun _ => s1⟩, h.ne⟩⟩
end
end Go.Proofs.YthhallnkpbgomaaDoor
