/- The memory of the sample layer: what tells how many sets there are, with what it knows already; a cargo at work; what a call leaves as it was. -/
import Derived.Test.YthhallnkpbgomaaDoorRows
import Derived.Test.YthhallnkpbgomaaDoorSampMath
import Derived.Test.YthhallnkpbgomaaDoorMapLaws
import Derived.WalkKit
import Derived.ProofKit
import Derived.OpenShut
import Derived.Deep.QuietTactic
import Derived.BigQuiet
import Derived.Lib.Hide
namespace Go.Proofs.YthhallnkpbgomaaDoor
set_option linter.unusedSimpArgs false
set_option linter.unusedVariables false
open Go.RowKit Go.Proofs.YthhallnkpbgomaaDoor.ML Go.Proofs.YthhallnkpbgomaaDoor.Samp

/-- What the program's counter tells. -/
def chI (n k : Int) : Int := if k = 0 then 1 else if k < 0 ∨ n < k then 0 else (nCk n.toNat k.toNat : Nat)
theorem chI_zero (n : Int) : chI n 0 = 1 := by simp [chI]
theorem chI_out (n k : Int) (h0 : k ≠ 0) (h : k < 0 ∨ n < k) : chI n k = 0 := by simp [chI, h0, h]
theorem chI_nat (n k : Nat) : chI n k = (nCk n k : Nat) := by
  unfold chI
  by_cases h0 : k = 0
  · subst h0; simp [nCk_zero]
  · by_cases h : n < k
    · rw [if_neg (by omega), if_pos (by omega), nCk_gt n k h]; rfl
    · rw [if_neg (by omega), if_neg (by omega)]; simp
theorem chI_step (n k : Int) (h0 : k ≠ 0) (h1 : 0 ≤ k) (h2 : k ≤ n) : chI n k = chI (n - 1) (k - 1) + chI (n - 1) k := by
  obtain ⟨m, rfl⟩ : ∃ m : Nat, n = (m + 1 : Nat) := ⟨(n - 1).toNat, by omega⟩
  obtain ⟨j, rfl⟩ : ∃ j : Nat, k = (j + 1 : Nat) := ⟨(k - 1).toNat, by omega⟩
  rw [show ((m + 1 : Nat) : Int) - 1 = (m : Nat) by omega, show ((j + 1 : Nat) : Int) - 1 = (j : Nat) by omega, chI_nat, chI_nat, chI_nat, nCk_succ]
  simp
theorem chI_bound (n k : Int) (hn : n ≤ 36) : 0 ≤ chI n k ∧ chI n k ≤ 68719476736 := by
  unfold chI
  split
  · omega
  · split
    · omega
    · have h1 := nCk_le n.toNat k.toNat
      have h2 : 2 ^ n.toNat ≤ 2 ^ 36 := Nat.pow_le_pow_right (by omega) (by omega)
      have h3 : (2 : Nat) ^ 36 = 68719476736 := by decide
      omega

/-- All that is known is right. -/
def Memo (mb : Nat) (w : World) : Prop := ∃ l : List ((Int × Int) × Value), MapIs pairV mb l w ∧ ∀ y ∈ l, y.2 = .int .i64 (chI y.1.1 y.1.2)

/-- All blocks but one stay, and what is known there stays right. -/
structure Kept (mb : Nat) (w w' : World) : Prop where
  os : w'.os = w.os
  tape : w'.tape = w.tape
  output : w'.output = w.output
  size : w.heap.size ≤ w'.heap.size
  block : ∀ k, k < w.heap.size → k ≠ mb → w'.heap[k]? = w.heap[k]?
  memo : Memo mb w → Memo mb w'

theorem Kept.refl (mb : Nat) (w : World) : Kept mb w w := ⟨rfl, rfl, rfl, Nat.le_refl _, fun _ _ _ => rfl, id⟩
theorem Kept.trans {mb : Nat} {a b c : World} (h : Kept mb a b) (k : Kept mb b c) : Kept mb a c :=
  ⟨k.os.trans h.os, k.tape.trans h.tape, k.output.trans h.output, Nat.le_trans h.size k.size,
    fun i hi hne => (k.block i (Nat.lt_of_lt_of_le hi h.size) hne).trans (h.block i hi hne), fun m => k.memo (h.memo m)⟩
theorem Kept.of_below {mb : Nat} {w w' : World} (h : Below w.heap.size w w') : Kept mb w w' :=
  ⟨h.os, h.tape, h.output, h.size, fun k hk _ => h.block k hk, fun ⟨l, hl, hv⟩ => ⟨l, hl.of_block (h.block mb hl.lt), hv⟩⟩
theorem Kept.drew {mb : Nat} {a w : World} (h : Kept mb a w) : Kept mb a w.drew := ⟨h.os, h.tape, h.output, h.size, h.block, h.memo⟩
theorem Kept.alloc {mb : Nat} {a w : World} (h : Kept mb a w) (o : Obj) : Kept mb a (w.alloc o) :=
  h.trans (.of_below ((Below.refl _ _).alloc (Nat.le_refl _) o))
theorem Kept.cell {mb : Nat} {w w' : World} (h : Kept mb w w') {p : Addr} {v : Value} (hv : w.cell? p = some v) (hp : p.block ≠ mb) : w'.cell? p = some v := by
  by_cases hb : p.block < w.heap.size
  · rw [World.cell?_of_block (w := w) (h.block p.block hb hp)]; exact hv
  · simp [World.cell?, Array.getElem?_eq_none (Nat.le_of_not_lt hb)] at hv
theorem Kept.below {mb : Nat} {a w w' : World} (h0 : Below a.heap.size a w) (h : Kept mb w w') (hm : a.heap.size ≤ mb) : Below a.heap.size a w' :=
  ⟨h.os.trans h0.os, h.tape.trans h0.tape, h.output.trans h0.output, Nat.le_trans h0.size h.size,
    fun k hk => (h.block k (Nat.lt_of_lt_of_le hk h0.size) (by omega)).trans (h0.block k hk)⟩
/-- A cell lies in no map. -/
theorem Memo.ne {mb : Nat} {w : World} (h : Memo mb w) {p : Addr} {v : Value} (hv : w.cell? p = some v) : p.block ≠ mb := by
  intro e
  obtain ⟨l, ⟨es, c, hb, _⟩, _⟩ := h
  simp [World.cell?, e, hb] at hv

/-- What counts sets: the map, the variable that holds it, and the one that holds the function. -/
abbrev setsV (kb cb : Nat) : Value := .func (.func 107) #[] #[.pointer (some ⟨kb, 0, none⟩), .pointer (some ⟨cb, 0, none⟩)]
structure Ctr (mb kb cb : Nat) (w : World) : Prop where
  memo : Memo mb w
  known : w.cell? ⟨kb, 0, none⟩ = some (.map (some mb))
  count : w.cell? ⟨cb, 0, none⟩ = some (setsV kb cb)
theorem Ctr.kept {mb kb cb : Nat} {w w' : World} (h : Ctr mb kb cb w) (k : Kept mb w w') : Ctr mb kb cb w' :=
  ⟨k.memo h.memo, k.cell h.known (h.memo.ne h.known), k.cell h.count (h.memo.ne h.count)⟩

/-- A cargo at work. -/
structure Hold (hb : Nat) (N lo hi : Int) (mb kb cb : Nat) (w : World) : Prop where
  ctr : Ctr mb kb cb w
  bags : w.cell? ⟨hb, 0, none⟩ = some (.int .i64 N)
  lo : w.cell? ⟨hb, 1, none⟩ = some (.int .i64 lo)
  hi : w.cell? ⟨hb, 2, none⟩ = some (.int .i64 hi)
  sets : w.cell? ⟨hb, 3, none⟩ = some (setsV kb cb)
theorem Hold.kept {hb : Nat} {N lo hi : Int} {mb kb cb : Nat} {w w' : World} (h : Hold hb N lo hi mb kb cb w) (k : Kept mb w w') : Hold hb N lo hi mb kb cb w' :=
  ⟨h.ctr.kept k, k.cell h.bags (h.ctr.memo.ne h.bags), k.cell h.lo (h.ctr.memo.ne h.lo), k.cell h.hi (h.ctr.memo.ne h.hi), k.cell h.sets (h.ctr.memo.ne h.sets)⟩

theorem lt_of_cell {w : World} {p : Addr} {v : Value} (h : w.cell? p = some v) : p.block < w.heap.size := by
  by_cases hb : p.block < w.heap.size
  · exact hb
  · simp [World.cell?, Array.getElem?_eq_none (Nat.le_of_not_lt hb)] at h
theorem keepsB {w w' : World} (h : Below w.heap.size w w') {p : Addr} {v : Value} (hv : w.cell? p = some v) : w'.cell? p = some v :=
  (h.cell (lt_of_cell hv)).trans hv

/-- Two cells of one block are stored. -/
theorem two_stores {w : World} {b : Nat} {x y : Value} (u v : Value) (h0 : w.cell? ⟨b, 0, none⟩ = some x) (h1 : w.cell? ⟨b, 1, none⟩ = some y) :
    ((w.setCell ⟨b, 0, none⟩ u).setCell ⟨b, 1, none⟩ v).cell? ⟨b, 0, none⟩ = some u ∧ ((w.setCell ⟨b, 0, none⟩ u).setCell ⟨b, 1, none⟩ v).cell? ⟨b, 1, none⟩ = some v := by
  refine ⟨?_, ?_⟩
  · rw [World.cell?_setCell_other _ _ _ _ (by simp)]
    exact World.cell?_setCell_same _ _ _ h0
  · refine World.cell?_setCell_same _ _ _ (u := y) ?_
    rw [World.cell?_setCell_other _ _ _ _ (by simp)]
    exact h1
end Go.Proofs.YthhallnkpbgomaaDoor
