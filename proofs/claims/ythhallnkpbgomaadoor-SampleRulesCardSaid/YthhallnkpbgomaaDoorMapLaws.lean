/- Laws of maps over whatever program: a block that is a map, known by its list of keys and values in the order in which they came. No function of the program here. -/
import Derived.WalkKit
import Derived.ProofKit
import Derived.Maps.Own
namespace Go.Proofs.YthhallnkpbgomaaDoor.ML
open Go

/-- The place and the value of a key. -/
def assocI {κ β : Type} [DecidableEq κ] (x : κ) : List (κ × β) → Nat → Option (Nat × β)
  | [], _ => none
  | y :: r, i => if x = y.1 then some (i, y.2) else assocI x r (i + 1)
def assoc {κ β : Type} [DecidableEq κ] (x : κ) : List (κ × β) → Option β
  | [] => none
  | y :: r => if x = y.1 then some y.2 else assoc x r
/-- The list behind a store. -/
def assocSet {κ β : Type} [DecidableEq κ] (x : κ) (v : β) : List (κ × β) → List (κ × β)
  | [] => [(x, v)]
  | y :: r => if x = y.1 then (x, v) :: r else y :: assocSet x v r

section
variable {κ β : Type} [DecidableEq κ]
theorem assocI_map (x : κ) : ∀ (l : List (κ × β)) (i : Nat), (assocI x l i).map (·.2) = assoc x l
  | [], _ => rfl
  | y :: r, i => by
    unfold assocI assoc
    split
    · rfl
    · exact assocI_map x r (i + 1)
theorem assocI_spec (x : κ) : ∀ (l : List (κ × β)) (i j : Nat) (v : β), assocI x l i = some (j, v) → i ≤ j ∧ l[j - i]? = some (x, v)
  | [], _, _, _, h => by cases h
  | y :: r, i, j, v, h => by
    unfold assocI at h
    split at h
    · rename_i e
      cases h
      simp [e]
    · obtain ⟨h1, h2⟩ := assocI_spec x r (i + 1) j v h
      refine ⟨by omega, ?_⟩
      rw [show j - i = (j - (i + 1)) + 1 by omega]
      simpa using h2
theorem assoc_set_same (x : κ) (v : β) : ∀ l : List (κ × β), assoc x (assocSet x v l) = some v
  | [] => by simp [assocSet, assoc]
  | y :: r => by
    unfold assocSet
    split
    · simp [assoc]
    · rename_i h; simp [assoc, h, assoc_set_same x v r]
theorem assoc_set_other (x z : κ) (v : β) (hz : z ≠ x) : ∀ l : List (κ × β), assoc z (assocSet x v l) = assoc z l
  | [] => by simp [assocSet, assoc, hz]
  | y :: r => by
    unfold assocSet
    split
    · rename_i h; subst h; simp [assoc, hz]
    · simp [assoc, assoc_set_other x z v hz r]
theorem mem_assocSet {x : κ} {v : β} {y : κ × β} : ∀ {l : List (κ × β)}, y ∈ assocSet x v l → y = (x, v) ∨ y ∈ l
  | [], h => by simpa [assocSet] using h
  | z :: r, h => by
    unfold assocSet at h
    split at h
    · simp at h ⊢; rcases h with h | h
      · exact .inl h
      · exact .inr (.inr h)
    · simp at h ⊢; rcases h with h | h
      · exact .inr (.inl h)
      · rcases mem_assocSet h with h | h
        · exact .inl h
        · exact .inr (.inr h)
theorem assoc_mem {x : κ} {v : β} : ∀ {l : List (κ × β)}, assoc x l = some v → (x, v) ∈ l
  | [], h => by cases h
  | y :: r, h => by
    unfold assoc at h
    split at h
    · rename_i e; cases h; subst e; simp
    · simp [assoc_mem h]
theorem assocSet_append (x : κ) (v : β) : ∀ (l : List (κ × β)) (i : Nat), assocI x l i = none → assocSet x v l = l ++ [(x, v)]
  | [], _, _ => rfl
  | y :: r, i, h => by
    unfold assocI at h
    split at h
    · cases h
    · rename_i e; simp [assocSet, e, assocSet_append x v r (i + 1) h]
theorem assocSet_set (x : κ) (v : β) : ∀ (l : List (κ × β)) (i j : Nat) (u : β), assocI x l i = some (j, u) → assocSet x v l = l.set (j - i) (x, v)
  | [], _, _, _, h => by cases h
  | y :: r, i, j, u, h => by
    unfold assocI at h
    split at h
    · rename_i e; cases h; simp [assocSet, e]
    · rename_i e
      obtain ⟨h1, _⟩ := assocI_spec x r (i + 1) j u h
      rw [show j - i = (j - (i + 1)) + 1 by omega]
      simp [assocSet, e, assocSet_set x v r (i + 1) j u h]
end

/-- What is asked of a type of keys. -/
structure KeyL {κ : Type} [DecidableEq κ] (P : Program) (kt : TypeId) (kv : κ → Value) : Prop where
  check : ∀ e x w, (Instr.checkKey e 10000 kt (kv x)).run P w = .ok () w
  find : ∀ x (es : List MapEntry) (l : List (κ × Value)) w, es.map (fun e => (e.key, e.val)) = l.map (fun y => (kv y.1, y.2)) →
    (Instr.findKey kt (kv x) es).run P w = .ok (assocI x l 0) w
  stays : ∀ x w, (Instr.keyThatStays (kv x) (kv x)).run P w = .ok (kv x) w

/-- Keys that are compared one by one. -/
theorem findAsking_of {κ : Type} [DecidableEq κ] {P : Program} {kt : TypeId} {kv : κ → Value}
    (heq : ∀ x y w, (Op.equal kt (kv x) (kv y)).run P w = .ok (decide (x = y)) w) (x : κ) (w : World) :
    ∀ (es : List MapEntry) (l : List (κ × Value)) (i : Nat), es.map (fun e => (e.key, e.val)) = l.map (fun y => (kv y.1, y.2)) →
      (Instr.findAsking kt (kv x) es i).run P w = .ok (assocI x l i) w
  | [], [], i, _ => by simp [Instr.findAsking, assocI]
  | [], _ :: _, _, h => by cases h
  | _ :: _, [], _, h => by cases h
  | e :: es, y :: l, i, h => by
    simp only [List.map_cons, List.cons.injEq, Prod.mk.injEq] at h
    obtain ⟨⟨hk, hv⟩, ht⟩ := h
    rw [Instr.findAsking, assocI]
    have he : (Op.equal kt (kv x) e.key).run P w = .ok (decide (x = y.1)) w := by rw [hk]; exact heq x y.1 w
    simp only [Sem.run_bind, he]
    by_cases hc : x = y.1
    · simp [hc, hv]
    · simp [hc, findAsking_of heq x w es l (i + 1) ht]

/-- Block b of w is a map of these keys and values; the stamps rise. -/
def MapIs {κ : Type} (kv : κ → Value) (b : Nat) (l : List (κ × Value)) (w : World) : Prop :=
  ∃ es clock, w.heap[b]? = some (.map es clock) ∧ es.toList.map (fun e => (e.key, e.val)) = l.map (fun y => (kv y.1, y.2)) ∧
    (es.toList.map (·.born)).Pairwise (· < ·) ∧ ∀ e ∈ es.toList, e.born < clock

section
variable {κ : Type} {P : Program} {kt : TypeId} {kv : κ → Value} {b : Nat} {l : List (κ × Value)} {w : World}

theorem MapIs.made (kv : κ → Value) (w : World) : MapIs kv w.heap.size [] (w.alloc (.map #[] 0)) :=
  ⟨#[], 0, (MapKept.heap_alloc w _).1, rfl, by simp, by simp⟩
theorem MapIs.of_block {w' : World} (h : MapIs kv b l w) (he : w'.heap[b]? = w.heap[b]?) : MapIs kv b l w' := by
  obtain ⟨es, c, h1, h2⟩ := h
  exact ⟨es, c, he.trans h1, h2⟩
theorem MapIs.lt (h : MapIs kv b l w) : b < w.heap.size := by
  obtain ⟨es, c, h1, _⟩ := h
  exact (Array.getElem?_eq_some_iff.1 h1).1
theorem MapIs.kept {w' : World} {row : Option Nat} (h : MapIs kv b l w) (hg : w.grownBy w' row) (hne : some b ≠ row) : MapIs kv b l w' :=
  h.of_block (hg.block b h.lt hne)

variable [DecidableEq κ]
/-- 'v, ok := m[x]'. -/
theorem MapIs.lookup_ok (K : KeyL P kt kv) {t e : TypeId} (ht : P.underlying t = some (.map kt e)) {z : Value} (hz : (zeroValue e).run P w = .ok z w) (h : MapIs kv b l w) (x : κ) :
    (Instr.lookup t (.map (some b)) (kv x) true).run P w = .ok (.tuple #[(assoc x l).getD z, .bool (assoc x l).isSome]) w := by
  obtain ⟨es, c, h1, h2, _⟩ := h
  have hf := K.find x es.toList l w h2
  have hg := MapKept.run_getObj_map (P := P) h1
  rw [← assocI_map x l 0]
  unfold Instr.lookup
  cases ha : assocI x l 0 with
  | none => simp [run_underlying ht, hg, K.check, hf, ha, hz]
  | some y => simp [run_underlying ht, hg, K.check, hf, ha]
/-- 'm[x]'. -/
theorem MapIs.lookup (K : KeyL P kt kv) {t e : TypeId} (ht : P.underlying t = some (.map kt e)) {z : Value} (hz : (zeroValue e).run P w = .ok z w) (h : MapIs kv b l w) (x : κ) :
    (Instr.lookup t (.map (some b)) (kv x) false).run P w = .ok ((assoc x l).getD z) w := by
  obtain ⟨es, c, h1, h2, _⟩ := h
  have hf := K.find x es.toList l w h2
  have hg := MapKept.run_getObj_map (P := P) h1
  rw [← assocI_map x l 0]
  unfold Instr.lookup
  cases ha : assocI x l 0 with
  | none => simp [run_underlying ht, hg, K.check, hf, ha, hz]
  | some y => simp [run_underlying ht, hg, K.check, hf, ha]

/-- A block is written anew. -/
def put (w : World) (r : Nat) (o : Obj) : World := { w with heap := w.heap.setIfInBounds r o }
theorem put_grown (w : World) (r : Nat) (o : Obj) : w.grownBy (put w r o) (some r) :=
  ⟨rfl, rfl, rfl, by simp [put], fun k _ hk => by
    have : r ≠ k := fun e => hk (by rw [e])
    simp [put, this]⟩
theorem put_same {w : World} {r : Nat} {o : Obj} (h : r < w.heap.size) : (put w r o).heap[r]? = some o := by simp [put, h]

/-- 'm[x] = v'. -/
theorem MapIs.update (K : KeyL P kt kv) {t e : TypeId} (ht : P.underlying t = some (.map kt e)) (h : MapIs kv b l w) (x : κ) (v : Value) :
    ∃ w', (Instr.mapUpdate t (.map (some b)) (kv x) v).run P w = .ok () w' ∧ w.grownBy w' (some b) ∧ MapIs kv b (assocSet x v l) w' ∧ w'.heap.size = w.heap.size := by
  obtain ⟨es, c, h1, h2, h3, h4⟩ := h
  have hf := K.find x es.toList l w h2
  have hg := MapKept.run_getObj_map (P := P) h1
  have hlt := (Array.getElem?_eq_some_iff.1 h1).1
  unfold Instr.mapUpdate
  cases ha : assocI x l 0 with
  | none =>
    refine ⟨put w b (.map (es.push { key := kv x, val := v, born := c }) (c + 1)), ?_, put_grown w b _, ?_, by simp [put]⟩
    · simp [run_underlying ht, hg, K.check, hf, ha, MapKept.run_setObj_map _ h1, put]
    · refine ⟨_, _, put_same hlt, ?_, ?_, ?_⟩
      · rw [assocSet_append x v l 0 ha]; simp [h2]
      · simp only [Array.toList_push, List.map_append, List.map_cons, List.map_nil]
        refine List.pairwise_append.2 ⟨h3, by simp, ?_⟩
        intro a ha' q hq
        obtain ⟨e', he', rfl⟩ := List.mem_map.1 ha'
        simp at hq; subst hq
        exact h4 e' he'
      · intro e' he'
        simp at he'
        rcases he' with he' | rfl
        · have := h4 e' (by simpa using he'); omega
        · simp
  | some y =>
    obtain ⟨j, u⟩ := y
    obtain ⟨_, hj⟩ := assocI_spec x l 0 j u ha
    simp only [Nat.sub_zero] at hj
    have hjl : (es.toList[j]?).map (fun e => (e.key, e.val)) = some (kv x, u) := by
      rw [← List.getElem?_map, h2, List.getElem?_map, hj]; rfl
    obtain ⟨e0, he0, hk0⟩ := Option.map_eq_some_iff.1 hjl
    simp only [Prod.mk.injEq] at hk0
    have he0' : es[j]? = some e0 := by simpa using he0
    have hjlt : j < es.size := (Array.getElem?_eq_some_iff.1 he0').1
    refine ⟨put w b (.map (es.modify j fun e => { e with key := kv x, val := v }) c), ?_, put_grown w b _, ?_, by simp [put]⟩
    · simp [run_underlying ht, hg, K.check, hf, ha, he0', hk0.1, K.stays, MapKept.run_setObj_map _ h1, put]
    · have hget : es[j] = e0 := by have := Array.getElem?_eq_getElem hjlt; rw [he0'] at this; exact (Option.some.inj this).symm
      have hm : (es.modify j fun e => { e with key := kv x, val := v }).toList = es.toList.set j { e0 with key := kv x, val := v } := by
        refine List.ext_getElem? fun i => ?_
        simp only [Array.getElem?_toList, Array.getElem?_modify, List.getElem?_set]
        by_cases hij : j = i
        · subst hij; simp [hjlt, hget]
        · simp [hij]
      refine ⟨_, _, put_same hlt, ?_, ?_, ?_⟩
      · rw [hm, assocSet_set x v l 0 j u ha, List.map_set, List.map_set, h2]; rfl
      · rw [hm, List.map_set]
        have : (es.toList.map (·.born)).set j e0.born = es.toList.map (·.born) := by
          refine List.ext_getElem? fun i => ?_
          simp only [List.getElem?_set, List.getElem?_map, List.length_map]
          by_cases hij : j = i
          · subst hij; simp [hjlt, hget]
          · simp [hij]
        simpa [this] using h3
      · rw [hm]
        intro e' he'
        rcases List.mem_or_eq_of_mem_set he' with he' | rfl
        · exact h4 e' he'
        · exact h4 e0 (List.mem_of_getElem? he0)
end

/-! ### Keys that are arrays of two numbers -/
def pairV (x : Int × Int) : Value := .agg #[.int .i64 x.1, .int .i64 x.2]
section
variable {P : Program} {kt e : TypeId}
theorem eqIn_pair (hu : P.underlying kt = some (.array 2 e)) (he : P.underlying e = some (.int .i64)) (hc : P.cellsOf e = 1) (n : Nat) (x y : Int × Int) (w : World) :
    (Op.equalIn (n + 2) kt (pairV x) (pairV y)).run P w = .ok (decide (x = y)) w := by
  obtain ⟨a, b⟩ := x
  obtain ⟨c, d⟩ := y
  obtain ⟨i, hi⟩ := info_of_underlying he
  have pk : P.plainKey e = true := by simp [Program.plainKey, he]
  unfold pairV
  rw [Op.equalIn]
  have p0 (x y : Int) : (part e #[.int .i64 x, .int .i64 y] 0).run P w = .ok (.int .i64 x) w := run_part_plain w pk rfl
  have p1 (x y : Int) : (part e #[.int .i64 x, .int .i64 y] 1).run P w = .ok (.int .i64 y) w := run_part_plain w pk rfl
  simp [run_underlying hu, run_sizeOf w hi, hc]
  rw [show List.range' 0 2 = [0, 1] from rfl]
  by_cases h1 : a = c <;> by_cases h2 : b = d <;> simp [List.forIn_cons, p0, p1, run_equalIn_int _ _ _ _ _ _ _ he, h1, h2]
theorem check_pair (hu : P.underlying kt = some (.array 2 e)) (he : P.underlying e = some (.int .i64)) (hc : P.cellsOf e = 1) (q : Bool) (n : Nat) (x : Int × Int) (w : World) :
    (Instr.checkKey q (n + 2) kt (pairV x)).run P w = .ok () w := by
  obtain ⟨a, b⟩ := x
  obtain ⟨i, hi⟩ := info_of_underlying he
  have pk : P.plainKey e = true := by simp [Program.plainKey, he]
  unfold pairV
  rw [Instr.checkKey]
  have p0 (x y : Int) : (part e #[.int .i64 x, .int .i64 y] 0).run P w = .ok (.int .i64 x) w := run_part_plain w pk rfl
  have p1 (x y : Int) : (part e #[.int .i64 x, .int .i64 y] 1).run P w = .ok (.int .i64 y) w := run_part_plain w pk rfl
  simp [run_underlying hu]
  rw [show List.range' 0 2 = [0, 1] from rfl]
  have hq (x : Int) : (Instr.checkKey q (n + 1) e (.int .i64 x)).run P w = .ok () w := by
    rw [Instr.checkKey]; simp [run_underlying he]
  simp [List.forIn_cons, run_sizeOf w hi, hc, p0, p1, hq]
theorem pair_keys (hu : P.underlying kt = some (.array 2 e)) (he : P.underlying e = some (.int .i64)) (hc : P.cellsOf e = 1) : KeyL P kt pairV where
  check q x w := check_pair hu he hc q 9998 x w
  find x es l w h := by
    unfold Instr.findKey
    cases es with
    | nil => cases l with
      | nil => simp [run_underlying hu, Instr.findNow, assocI]
      | cons y l => cases h
    | cons e0 es =>
      simp [run_underlying hu, Instr.findNow, Instr.sameNow]
      exact findAsking_of (fun x y w => eqIn_pair hu he hc 9998 x y w) x w _ l 0 h
  stays x w := by
    unfold Instr.keyThatStays
    have : Instr.sameBits 10000 (pairV x) (pairV x) = true := by
      show Instr.sameBits (9999 + 1) (pairV x) (pairV x) = true
      simp [pairV, Instr.sameBits]
    simp [this]
end

/-! ### Keys that are bools, and numbers -/
theorem findNow_of {κ : Type} [DecidableEq κ] {kind : TypeDesc} {kv : κ → Value} (hs : ∀ x y, Instr.sameNow kind (kv x) (kv y) = some (decide (x = y))) (x : κ) :
    ∀ (es : List MapEntry) (l : List (κ × Value)) (i : Nat), es.map (fun e => (e.key, e.val)) = l.map (fun y => (kv y.1, y.2)) →
      Instr.findNow kind (kv x) es i = some (assocI x l i)
  | [], [], i, _ => by simp [Instr.findNow, assocI]
  | [], _ :: _, _, h => by cases h
  | _ :: _, [], _, h => by cases h
  | e :: es, y :: l, i, h => by
    simp only [List.map_cons, List.cons.injEq, Prod.mk.injEq] at h
    obtain ⟨⟨hk, hv⟩, ht⟩ := h
    rw [Instr.findNow, assocI, hk, hs]
    by_cases hc : x = y.1
    · simp [hc, hv]
    · simp [hc, findNow_of hs x es l (i + 1) ht]
theorem bool_keys {P : Program} {kt : TypeId} (hu : P.underlying kt = some .bool) : KeyL P kt Value.bool where
  check q x w := by
    show (Instr.checkKey q (9999 + 1) kt (.bool x)).run P w = .ok () w
    rw [Instr.checkKey]; simp [run_underlying hu]
  find x es l w h := by
    unfold Instr.findKey
    have := findNow_of (kind := .bool) (kv := Value.bool) (fun x y => by simp [Instr.sameNow]; cases x <;> cases y <;> rfl) x es l 0 h
    simp [run_underlying hu, this]
  stays x w := by
    unfold Instr.keyThatStays
    have : Instr.sameBits 10000 (.bool x) (.bool x) = true := by
      show Instr.sameBits (9999 + 1) (.bool x) (.bool x) = true
      simp [Instr.sameBits]
    simp [this]
theorem int_keys {P : Program} {kt : TypeId} {q : IntKind} (hu : P.underlying kt = some (.int q)) : KeyL P kt (Value.int q) where
  check e x w := by
    show (Instr.checkKey e (9999 + 1) kt (.int q x)).run P w = .ok () w
    rw [Instr.checkKey]; simp [run_underlying hu]
  find x es l w h := by
    unfold Instr.findKey
    have := findNow_of (kind := .int q) (kv := Value.int q) (fun x y => by simp only [Instr.sameNow, if_true]; congr 1) x es l 0 h
    simp [run_underlying hu, this]
  stays x w := by
    unfold Instr.keyThatStays
    have : Instr.sameBits 10000 (.int q x) (.int q x) = true := by
      show Instr.sameBits (9999 + 1) (.int q x) (.int q x) = true
      simp [Instr.sameBits]
    simp [this]
end Go.Proofs.YthhallnkpbgomaaDoor.ML
