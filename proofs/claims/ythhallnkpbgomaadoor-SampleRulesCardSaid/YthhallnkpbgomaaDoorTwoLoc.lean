/- Two local structs of two cells that a region makes and stores once, in whatever order. -/
import Derived.Test.YthhallnkpbgomaaDoorSampExp
import Derived.Test.YthhallnkpbgomaaDoorFree2
namespace Go.Proofs.YthhallnkpbgomaaDoor
set_option linter.unusedSimpArgs false
set_option linter.unusedVariables false
open Go.RowKit Go.Proofs.YthhallnkpbgomaaDoor.Free2

/-- What is in the first s0 blocks stays, but for mb. -/
structure KeptB (s0 mb : Nat) (a b : World) : Prop where
  os : b.os = a.os
  tape : b.tape = a.tape
  output : b.output = a.output
  size : a.heap.size ≤ b.heap.size
  block : ∀ k, k < s0 → k ≠ mb → b.heap[k]? = a.heap[k]?
  memo : Memo mb a → Memo mb b
theorem KeptB.refl (s0 mb : Nat) (a : World) : KeptB s0 mb a a := ⟨rfl, rfl, rfl, Nat.le_refl _, fun _ _ _ => rfl, id⟩
theorem KeptB.trans {s0 mb : Nat} {a b c : World} (h : KeptB s0 mb a b) (k : KeptB s0 mb b c) : KeptB s0 mb a c :=
  ⟨k.os.trans h.os, k.tape.trans h.tape, k.output.trans h.output, Nat.le_trans h.size k.size, fun i hi hne => (k.block i hi hne).trans (h.block i hi hne), fun m => k.memo (h.memo m)⟩
theorem KeptB.of_kept {s0 mb : Nat} {a b : World} (h : Kept mb a b) (hs : s0 ≤ a.heap.size) : KeptB s0 mb a b :=
  ⟨h.os, h.tape, h.output, h.size, fun k hk hne => h.block k (by omega) hne, h.memo⟩
theorem KeptB.kept {s0 mb : Nat} {a b : World} (h : KeptB s0 mb a b) (hs : a.heap.size ≤ s0) : Kept mb a b :=
  ⟨h.os, h.tape, h.output, h.size, fun k hk hne => h.block k (by omega) hne, h.memo⟩

/-- A struct is stored. -/
theorem Two.store {b mb : Nat} {x y u v : Value} {w : World} (h : Two b u v w) (hne : b ≠ mb) :
    Two b x y ((w.setCell ⟨b, 0, none⟩ x).setCell ⟨b, 1, none⟩ y) ∧ (∀ k, k ≠ b → ((w.setCell ⟨b, 0, none⟩ x).setCell ⟨b, 1, none⟩ y).heap[k]? = w.heap[k]?) ∧ ∀ s0, s0 ≤ b → KeptB s0 mb w ((w.setCell ⟨b, 0, none⟩ x).setCell ⟨b, 1, none⟩ y) := by
  obtain ⟨hK, h0, h1⟩ := KeptR.store2 (x := x) (y := y) hne h.c0 h.c1
  have hblk : ∀ k, k ≠ b → ((w.setCell ⟨b, 0, none⟩ x).setCell ⟨b, 1, none⟩ y).heap[k]? = w.heap[k]? := fun k hk => by
    rw [Below.heap_setCell _ _ _ _ (by simpa using hk), Below.heap_setCell _ _ _ _ (by simpa using hk)]
  exact ⟨⟨h0, h1, (hK.frozen 0).trans h.f0, (hK.frozen 1).trans h.f1⟩, hblk, fun s0 hs => ⟨hK.os, hK.tape, hK.output, hK.size, fun k hk hn => hblk k (by omega), hK.memo⟩⟩
theorem Two.of_block {b : Nat} {x y : Value} {w w' : World} (h : Two b x y w) (hb : w'.heap[b]? = w.heap[b]?) : Two b x y w' :=
  ⟨(World.cell?_of_block (w := w) (a := ⟨b, 0, none⟩) hb).trans h.c0, (World.cell?_of_block (w := w) (a := ⟨b, 1, none⟩) hb).trans h.c1, (World.frozen?_of_block (w := w) (a := ⟨b, 0, none⟩) hb).trans h.f0, (World.frozen?_of_block (w := w) (a := ⟨b, 1, none⟩) hb).trans h.f1⟩

abbrev ptr (b : Nat) : Value := .pointer (some ⟨b, 0, none⟩)
/-- Operation i makes the struct, operation j stores it. -/
structure Loc (mb s0 i j : Nat) (x0 y0 x y : Value) (X : XT) (w : World) : Prop where
  first : X i = none → X j = none
  blk : ∀ v, X i = some v → ∃ b, v = ptr b ∧ s0 ≤ b ∧ b ≠ mb ∧ (X j = none → Two b x0 y0 w) ∧ (X j ≠ none → Two b x y w)
section
variable {mb s0 i j i1 j1 i2 j2 : Nat} {x0 y0 x y x1 y1 x2 y2 : Value} {X : XT} {w w' : World}
theorem Loc.skip (h : Loc mb s0 i j x0 y0 x y X w) (n : Nat) (v : Value) (h1 : n ≠ i) (h2 : n ≠ j) : Loc mb s0 i j x0 y0 x y (upd X n v) w :=
  ⟨by rw [upd_other _ _ h1.symm, upd_other _ _ h2.symm]; exact h.first, by rw [upd_other _ _ h1.symm, upd_other _ _ h2.symm]; exact h.blk⟩
theorem Loc.block (h : Loc mb s0 i j x0 y0 x y X w) (hb : ∀ b, X i = some (ptr b) → b ≠ mb → b < w.heap.size → w'.heap[b]? = w.heap[b]?) : Loc mb s0 i j x0 y0 x y X w' :=
  ⟨h.first, fun v hv => by
    obtain ⟨b, rfl, h1, h2, h3, h4⟩ := h.blk v hv
    have hlt : b < w.heap.size := by
      by_cases hj : X j = none
      · exact lt_of_cell (h3 hj).c0
      · exact lt_of_cell (h4 hj).c0
    exact ⟨b, rfl, h1, h2, fun hj => (h3 hj).of_block (hb b hv h2 hlt), fun hj => (h4 hj).of_block (hb b hv h2 hlt)⟩⟩
theorem Loc.kept (h : Loc mb s0 i j x0 y0 x y X w) (hK : Kept mb w w') : Loc mb s0 i j x0 y0 x y X w' := h.block fun b _ h2 h3 => hK.block b h3 h2
theorem Loc.lt (h : Loc mb s0 i j x0 y0 x y X w) {v : Value} (hv : X i = some v) : ∃ b, v = ptr b ∧ b < w.heap.size := by
  obtain ⟨b, rfl, h1, h2, h3, h4⟩ := h.blk v hv
  refine ⟨b, rfl, ?_⟩
  by_cases hj : X j = none
  · exact lt_of_cell (h3 hj).c0
  · exact lt_of_cell (h4 hj).c0
theorem Loc.new (h : Loc mb s0 i j x0 y0 x y X w) (hij : i ≠ j) (hi : X i = none) (hs : s0 ≤ w.heap.size) (hm : mb < w.heap.size) (ht : Two w.heap.size x0 y0 w') : Loc mb s0 i j x0 y0 x y (upd X i (ptr w.heap.size)) w' :=
  ⟨fun h0 => (by rw [upd_same] at h0; cases h0), fun v hv => by
    rw [upd_same] at hv
    cases hv
    rw [upd_other _ _ hij.symm]
    exact ⟨_, rfl, hs, by omega, fun _ => ht, fun hj => absurd (h.first hi) hj⟩⟩
theorem Loc.stored (h : Loc mb s0 i j x0 y0 x y X w) (hij : i ≠ j) (u : Value) {b : Nat} (hX : X i = some (ptr b)) (hs : s0 ≤ b) (hm : b ≠ mb) (ht : Two b x y w') : Loc mb s0 i j x0 y0 x y (upd X j u) w' :=
  ⟨fun h0 => (by rw [upd_other _ _ hij] at h0; rw [hX] at h0; cases h0), fun v hv => by
    rw [upd_other _ _ hij, hX] at hv
    cases hv
    rw [upd_same]
    exact ⟨b, rfl, hs, hm, (by intro h; cases h), fun _ => ht⟩⟩

structure J2 (mb s0 i1 j1 i2 j2 : Nat) (x0 y0 x1 y1 x2 y2 : Value) (X : XT) (w : World) : Prop where
  a : Loc mb s0 i1 j1 x0 y0 x1 y1 X w
  b : Loc mb s0 i2 j2 x0 y0 x2 y2 X w
  ne : ∀ v u, X i1 = some v → X i2 = some u → v ≠ u
theorem J2.start : J2 mb s0 i1 j1 i2 j2 x0 y0 x1 y1 x2 y2 (fun _ => none) w := ⟨⟨fun _ => rfl, fun v h => (by cases h)⟩, ⟨fun _ => rfl, fun v h => (by cases h)⟩, fun v u h => (by cases h)⟩
theorem J2.skip (h : J2 mb s0 i1 j1 i2 j2 x0 y0 x1 y1 x2 y2 X w) (n : Nat) (v : Value) (h1 : n ≠ i1) (h2 : n ≠ j1) (h3 : n ≠ i2) (h4 : n ≠ j2) : J2 mb s0 i1 j1 i2 j2 x0 y0 x1 y1 x2 y2 (upd X n v) w :=
  ⟨h.a.skip n v h1 h2, h.b.skip n v h3 h4, by rw [upd_other _ _ h1.symm, upd_other _ _ h3.symm]; exact h.ne⟩
theorem J2.kept (h : J2 mb s0 i1 j1 i2 j2 x0 y0 x1 y1 x2 y2 X w) (hK : Kept mb w w') : J2 mb s0 i1 j1 i2 j2 x0 y0 x1 y1 x2 y2 X w' := ⟨h.a.kept hK, h.b.kept hK, h.ne⟩
theorem two_alloc (x y : Value) (t : TypeId) (w : World) : Two w.heap.size x y (w.alloc (.cells #[x, y] t)) := ⟨by simp [go_sem], by simp [go_sem], by simp [go_sem], by simp [go_sem]⟩
theorem J2.new1 (h : J2 mb s0 i1 j1 i2 j2 x0 y0 x1 y1 x2 y2 X w) (t : TypeId) (h1 : i1 ≠ j1) (h2 : i1 ≠ i2) (h3 : i1 ≠ j2) (hi : X i1 = none) (hs : s0 ≤ w.heap.size) (hm : mb < w.heap.size) :
    J2 mb s0 i1 j1 i2 j2 x0 y0 x1 y1 x2 y2 (upd X i1 (ptr w.heap.size)) (w.alloc (.cells #[x0, y0] t)) :=
  ⟨h.a.new h1 hi hs hm (two_alloc _ _ _ _), (h.b.kept ((Kept.refl _ _).alloc _)).skip _ _ h2 h3, fun v u hv hu e => by
    rw [upd_same] at hv
    cases hv
    rw [upd_other _ _ h2.symm] at hu
    obtain ⟨b, hb, hlt⟩ := h.b.lt hu
    subst hb
    simp [ptr] at e <;> omega⟩
theorem J2.new2 (h : J2 mb s0 i1 j1 i2 j2 x0 y0 x1 y1 x2 y2 X w) (t : TypeId) (h1 : i2 ≠ j2) (h2 : i2 ≠ i1) (h3 : i2 ≠ j1) (hi : X i2 = none) (hs : s0 ≤ w.heap.size) (hm : mb < w.heap.size) :
    J2 mb s0 i1 j1 i2 j2 x0 y0 x1 y1 x2 y2 (upd X i2 (ptr w.heap.size)) (w.alloc (.cells #[x0, y0] t)) :=
  ⟨(h.a.kept ((Kept.refl _ _).alloc _)).skip _ _ h2 h3, h.b.new h1 hi hs hm (two_alloc _ _ _ _), fun v u hv hu e => by
    rw [upd_same] at hu
    cases hu
    rw [upd_other _ _ h2.symm] at hv
    obtain ⟨b, hb, hlt⟩ := h.a.lt hv
    subst hb
    simp [ptr] at e <;> omega⟩
/-- What is found where the first one is stored, and what holds behind. -/
theorem J2.at1 (h : J2 mb s0 i1 j1 i2 j2 x0 y0 x1 y1 x2 y2 X w) (h1 : i1 ≠ j1) (h2 : j1 ≠ i2) (h3 : j1 ≠ j2) {v : Value} (hv : X i1 = some v) (hj : X j1 = none) :
    ∃ b, v = ptr b ∧ Two b x0 y0 w ∧ KeptB s0 mb w ((w.setCell ⟨b, 0, none⟩ x1).setCell ⟨b, 1, none⟩ y1) ∧ ∀ u, J2 mb s0 i1 j1 i2 j2 x0 y0 x1 y1 x2 y2 (upd X j1 u) ((w.setCell ⟨b, 0, none⟩ x1).setCell ⟨b, 1, none⟩ y1) := by
  obtain ⟨b, rfl, g1, g2, g3, g4⟩ := h.a.blk v hv
  obtain ⟨s1, s2, s3⟩ := (g3 hj).store (x := x1) (y := y1) g2
  refine ⟨b, rfl, g3 hj, s3 _ g1, fun u => ⟨h.a.stored h1 u hv g1 g2 s1, (h.b.block fun b' hb' _ _ => s2 b' ?_).skip _ _ h2 h3, by rw [upd_other _ _ h1, upd_other _ _ h2.symm]; exact h.ne⟩⟩
  rintro rfl
  exact h.ne _ _ hv hb' rfl
theorem J2.at2 (h : J2 mb s0 i1 j1 i2 j2 x0 y0 x1 y1 x2 y2 X w) (h1 : i2 ≠ j2) (h2 : j2 ≠ i1) (h3 : j2 ≠ j1) {v : Value} (hv : X i2 = some v) (hj : X j2 = none) :
    ∃ b, v = ptr b ∧ Two b x0 y0 w ∧ KeptB s0 mb w ((w.setCell ⟨b, 0, none⟩ x2).setCell ⟨b, 1, none⟩ y2) ∧ ∀ u, J2 mb s0 i1 j1 i2 j2 x0 y0 x1 y1 x2 y2 (upd X j2 u) ((w.setCell ⟨b, 0, none⟩ x2).setCell ⟨b, 1, none⟩ y2) := by
  obtain ⟨b, rfl, g1, g2, g3, g4⟩ := h.b.blk v hv
  obtain ⟨s1, s2, s3⟩ := (g3 hj).store (x := x2) (y := y2) g2
  refine ⟨b, rfl, g3 hj, s3 _ g1, fun u => ⟨(h.a.block fun b' hb' _ _ => s2 b' ?_).skip _ _ h2 h3, h.b.stored h1 u hv g1 g2 s1, by rw [upd_other _ _ h1, upd_other _ _ h2.symm]; exact h.ne⟩⟩
  rintro rfl
  exact h.ne _ _ hb' hv rfl
/-- Behind the region. -/
theorem J2.done (h : J2 mb s0 i1 j1 i2 j2 x0 y0 x1 y1 x2 y2 X w) {v1 v2 u1 u2 : Value} (hv1 : X i1 = some v1) (hv2 : X i2 = some v2) (hu1 : X j1 = some u1) (hu2 : X j2 = some u2) :
    ∃ b1 b2, v1 = ptr b1 ∧ v2 = ptr b2 ∧ Two b1 x1 y1 w ∧ Two b2 x2 y2 w := by
  obtain ⟨b1, rfl, _, _, _, g1⟩ := h.a.blk v1 hv1
  obtain ⟨b2, rfl, _, _, _, g2⟩ := h.b.blk v2 hv2
  exact ⟨b1, b2, rfl, rfl, g1 (by simp [hu1]), g2 (by simp [hu2])⟩
end
end Go.Proofs.YthhallnkpbgomaaDoor
