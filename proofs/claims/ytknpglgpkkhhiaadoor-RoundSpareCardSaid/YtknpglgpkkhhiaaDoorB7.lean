/- The lead and the round, where it can go on for ever. -/
import Derived.Test.YtknpglgpkkhhiaaDoorB6
import Derived.Lib.SliceRun
import Derived.BigQuiet
import Derived.Deep.QuietTactic
namespace Go.Proofs.YtknpglgpkkhhiaaDoor
set_option linter.unusedSimpArgs false
set_option linter.unusedVariables false
open Go.RowKit Go.Proofs.YtknpglgpkkhhiaaDoor.Free2 Go.Proofs.YtknpglgpkkhhiaaDoor.ML RR
attribute [local go_sem] Oper.semAt_some

theorem T.uAt : Tryd.prog.underlying 129 = some (.map 109 3) := by kernel_rfl
theorem T.zIntS (w : World) : (zeroValue 3).run Tryd.prog w = .ok (.int .i64 0) w := by kernel_rfl
theorem slice_lead (g m cap i : Nat) (h : i ≤ cap) (W : World) : (Instr.slice 25 (.slice (some ⟨g, 0, none⟩) m cap) none (some (.int .i64 i)) (some (.int .i64 i))).run Tryd.prog W = .ok (.slice (some ⟨g, 0, none⟩) i i) W := by
  have h1 : (0 : Int) ≤ i := by omega
  have h2 : (i : Int) ≤ cap := by omega
  have hs : (sizeOf 58).run Tryd.prog W = .ok 1 W := by kernel_rfl
  simp [Instr.slice, run_underlying Tryd.underlying25, Instr.sliceBounds, run_sliceBound, h1, h2, hs]
  intro h9
  simp [Addr.add]
theorem slice_rest (g m cap i : Nat) (h : i < m) (hc : m ≤ cap) (W : World) : (Instr.slice 25 (.slice (some ⟨g, 0, none⟩) m cap) (some (.int .i64 i)) none none).run Tryd.prog W = .ok (.slice (some ⟨g, i, none⟩) (m - i) (cap - i)) W := by
  have h1 : (0 : Int) ≤ i := by omega
  have h2 : (i : Int) ≤ m := by omega
  have hs : (sizeOf 58).run Tryd.prog W = .ok 1 W := by kernel_rfl
  have h3 : ¬ cap = i := by omega
  simp [Instr.slice, run_underlying Tryd.underlying25, Instr.sliceBounds, run_sliceBound, h1, h2, hs, h3]
  rw [addE]
  simp
/-- What was seen: each state with its day. -/
noncomputable def seenL (h : Int) (xs : List Rk) (m : Nat) : List (Q4 × Value) := (List.range m).map fun i => (q4 (waits (planS h xs i)), .int .i64 (i : Int))
theorem seenL_succ (h : Int) (xs : List Rk) (m : Nat) : seenL h xs (m + 1) = seenL h xs m ++ [(q4 (waits (planS h xs m)), .int .i64 (m : Int))] := by simp [seenL, List.range_succ]
theorem assoc_none_iff {κ β : Type} [DecidableEq κ] (x : κ) : ∀ l : List (κ × β), assoc x l = none ↔ ∀ y ∈ l, y.1 ≠ x
  | [] => by simp [assoc]
  | y :: r => by
    have ih := assoc_none_iff x r
    by_cases h : x = y.1
    · simp [assoc, h]
    · have h' : ¬ y.1 = x := fun e => h e.symm
      simp [assoc, h, h', ih]
theorem assocI_none {κ β : Type} [DecidableEq κ] {x : κ} {l : List (κ × β)} (h : assoc x l = none) (i : Nat) : assocI x l i = none := by
  have := assocI_map x l i
  rw [h] at this
  simpa using this
theorem seen_none {h : Int} {xs : List Rk} {m : Nat} (h4 : xs.length ≤ 4) (hs : ∀ n, StOf xs (planS h xs n)) (hno : ∀ i, i < m → planS h xs i ≠ planS h xs m) : assoc (q4 (waits (planS h xs m))) (seenL h xs m) = none := by
  rw [assoc_none_iff]
  intro y hy
  obtain ⟨i, hi, rfl⟩ := List.mem_map.1 hy
  exact fun e => hno i (List.mem_range.1 hi) (q4_inj (hs i).1 (hs m).1 h4 e)
theorem seen_some {h : Int} {xs : List Rk} {m i : Nat} (h4 : xs.length ≤ 4) (hs : ∀ n, StOf xs (planS h xs n)) (hd : ∀ a b, a < b → b < m → planS h xs a ≠ planS h xs b) (hi : i < m) (he : planS h xs i = planS h xs m) : assoc (q4 (waits (planS h xs m))) (seenL h xs m) = some (.int .i64 (i : Int)) := by
  cases ha : assoc (q4 (waits (planS h xs m))) (seenL h xs m) with
  | none =>
    rw [assoc_none_iff] at ha
    exact absurd (by rw [he]) (ha _ (List.mem_map.2 ⟨i, List.mem_range.2 hi, rfl⟩))
  | some v =>
    have hm := assoc_mem ha
    obtain ⟨j, hj, e⟩ := List.mem_map.1 hm
    simp only [Prod.mk.injEq] at e
    obtain ⟨e1, rfl⟩ := e
    have hj := List.mem_range.1 hj
    have e2 : planS h xs j = planS h xs i := (q4_inj (hs j).1 (hs m).1 h4 e1).trans he.symm
    have : j = i := by
      rcases Nat.lt_trichotomy j i with h9 | h9 | h9
      · exact absurd e2 (hd j i h9 hi)
      · exact h9
      · exact absurd e2.symm (hd i j h9 hj)
    rw [this]
theorem distinct_le {h : Int} {xs : List Rk} {L : List Q4} {m : Nat} (h4 : xs.length ≤ 4) (hE : EverIs h xs L) (hs : ∀ n, StOf xs (planS h xs n) ∧ everB h (planS h xs n) = true) (hd : ∀ a b, a < b → b < m → planS h xs a ≠ planS h xs b) : m ≤ L.length := by
  have hn : ((List.range m).map fun i => q4 (waits (planS h xs i))).Nodup := by
    rw [List.nodup_iff_pairwise_ne, List.pairwise_map]
    refine List.Pairwise.imp_of_mem (fun {a b} ha hb hab e => ?_) (List.pairwise_lt_range)
    exact hd a b hab (List.mem_range.1 hb) (q4_inj (hs a).1.1 (hs b).1.1 h4 e)
  have := nodup_sub_length (L := L) hn fun q hq => by
    obtain ⟨i, _, rfl⟩ := List.mem_map.1 hq
    exact (hE.2 _).2 ⟨_, (hs i).1, (hs i).2, rfl⟩
  simpa using this
theorem ever_small {h : Int} {xs : List Rk} {L : List Q4} (hw : watchB h xs = true) (hE : EverIs h xs L) : L.length ≤ 1296 := by
  have hx1 : ∀ x ∈ xs, 1 ≤ x.2.1 := fun x hx => (watchB_ok hw x hx).2.2.1
  have h1 := nodup_sub_length (L := (allY xs).map fun ys => q4 (waits ys)) hE.1 fun q hq => by
    obtain ⟨ys, hy, _, rfl⟩ := (hE.2 q).1 hq
    exact List.mem_map.2 ⟨ys, (mem_allY hx1).2 hy, rfl⟩
  have h2 := (prodE_bound (xs := xs) fun x hx => ⟨(watchB_ok hw x hx).2.2.1, (watchB_ok hw x hx).2.2.2.1⟩).2
  have h4 := (watchB_iff.1 hw).2.1
  have h6 : (6 : Int) ^ xs.length ≤ 1296 := by
    rcases (show xs.length = 0 ∨ xs.length = 1 ∨ xs.length = 2 ∨ xs.length = 3 ∨ xs.length = 4 by omega) with e | e | e | e | e <;> rw [e] <;> decide
  simp [allY] at h1
  omega
theorem prefix_plan {h : Int} {xs : List Rk} {N : Nat} {pre : List (List Rk × List Int)} {x : List Rk × List Int} (hp : pre ++ [x] <+: planP h xs N) : x = (planS h xs pre.length, stepE h (planS h xs pre.length)) := by
  obtain ⟨t, ht⟩ := hp
  have h1 : (planP h xs N)[pre.length]? = some x := by rw [← ht]; simp
  unfold planP at h1
  rw [List.getElem?_map] at h1
  cases hr : (List.range N)[pre.length]? with
  | none => rw [hr] at h1; cases h1
  | some k =>
    rw [hr] at h1
    have : k = pre.length := by
      obtain ⟨_, e⟩ := List.getElem?_eq_some_iff.1 hr
      simpa using e.symm
    subst this
    simpa using h1.symm
theorem own_le {base : Nat} {e : TypeId} {size n : Nat} {v : Value} {xs : List Value} {W : World} (h : W.ownsRow base e size v n xs) : n ≤ maxLen := by
  rcases h.2 with ⟨_, rfl⟩ | ⟨g, cap, cur, _, _, _, h1, h2, _⟩
  · exact Nat.zero_le _
  · omega
theorem DO.part {base g m cap a n c : Nat} {ds : List (List Int)} {W : World} (h : DO base ds (.slice (some ⟨g, 0, none⟩) m cap) W) (hl : a + n ≤ ds.length) : DZ ((ds.drop a).take n) (.slice (some ⟨g, a, none⟩) n c) W := by
  obtain ⟨vs, hvl, ho, hr⟩ := h
  have hlen : ((ds.drop a).take n).length = n := by simp; omega
  have hle := own_le ho
  refine ⟨_, c, by rw [hlen], (by rw [hlen]; omega), (fun e => by cases e), fun hne => ⟨g, a, rfl, fun k hk => ?_⟩⟩
  have hk' : k < n := by rw [hlen] at hk; exact hk
  have hkv : a + k < vs.length := by omega
  have hu := List.getElem?_eq_getElem hkv
  have hc := ho.cells (g := g) (by simp [Value.ownBlock]) (a + k) vs[a + k] hu
  rw [addE, Nat.zero_add] at hc
  obtain ⟨b0, hrow⟩ := hr (a + k) (by omega) _ hu
  refine ⟨vs[a + k], hc, ?_, NZ.row hrow⟩
  have he : ((ds.drop a).take n)[k] = ds[a + k] := by simp
  rw [he]
  exact IL.of_own (own_le hrow) hrow
/-- The invariant of the round. -/
structure RndI (w : World) (mb bm lb n0 : Nat) (h : Int) (xs : List Rk) (m : Nat) (W : World) : Prop where
  bel : Below w.heap.size w W
  n1 : W.heap[w.heap.size + 1]? = some (.cells #[.slice none 0 0] 25 (0, 0))
  n2 : W.heap[w.heap.size + 1 + 1]? = some (.cells #[.slice none 0 0] 25 (0, 0))
  n3 : W.heap[w.heap.size + 1 + 1 + 1]? = some (.cells #[.int .i64 0] 31 (0, 0))
  mp : MapIs quadV mb (seenL h xs m) W
  bm : W.heap[bm]? = some (.cells #[.map (some mb)] 129 (0, 0))
  sz : n0 ≤ W.heap.size
  row : ∃ v, W.heap[lb]? = some (.cells #[v] 25 (0, 0)) ∧ DO lb (planL h xs m) v W
  dis : ∀ a b, a < b → b < m → planS h xs a ≠ planS h xs b
theorem RndI.rq {w : World} {mb bm lb n0 : Nat} {h : Int} {xs : List Rk} {m : Nat} {A B : World} (H : RndI w mb bm lb n0 h xs m A) (hR : RQ n0 A B) (hn : w.heap.size + 4 ≤ n0) (h1 : mb < n0) (h2 : bm < n0) (h3 : lb < n0) : RndI w mb bm lb n0 h xs m B :=
  ⟨H.bel.trans (hR.below.mono (by omega)), (hR.below.block _ (by omega)).trans H.n1, (hR.below.block _ (by omega)).trans H.n2, (hR.below.block _ (by omega)).trans H.n3, H.mp.of_block (hR.below.block _ h1), (hR.below.block _ h2).trans H.bm, Nat.le_trans H.sz hR.below.size, let ⟨v, a1, a2⟩ := H.row; ⟨v, (hR.below.block _ h3).trans a1, a2.rq hR⟩, H.dis⟩
theorem RndI.own {w : World} {mb bm lb n0 : Nat} {h : Int} {xs : List Rk} {m : Nat} {A B : World} {row : Option Nat} (H : RndI w mb bm lb n0 h xs m A) (hg : A.grownBy B row) (hr : ∀ r, row = some r → n0 ≤ r ∧ ∃ o : Obj, A.heap[r]? = some o ∧ o.isCells = false) (hn : w.heap.size + 4 ≤ n0) (h1 : mb < n0) (h2 : bm < n0) (h3 : lb < n0) : RndI w mb bm lb n0 h xs m B := by
  have hne : ∀ b, b < n0 → some b ≠ row := fun b hb e => by have := (hr _ e.symm).1; omega
  obtain ⟨v, a1, a2⟩ := H.row
  exact ⟨H.bel.trans (Below.of_grown hg H.bel.size (fun r e => by have := (hr r e).1; omega)), heap_grown H.n1 hg (hne _ (by omega)), heap_grown H.n2 hg (hne _ (by omega)), heap_grown H.n3 hg (hne _ (by omega)), H.mp.kept hg (hne _ h1), heap_grown H.bm hg (hne _ h2), Nat.le_trans H.sz hg.size, ⟨v, heap_grown a1 hg (hne _ h3), a2.own hg hr⟩, H.dis⟩
theorem RndI.step {w W W6 W9 : World} {mb bm lb n0 : Nat} {h : Int} {xs : List Rk} {m : Nat} {vl v' u : Value} {vs : List Value} {o : Obj} (H : RndI w mb bm lb n0 h xs m W) (hg6 : W.grownBy W6 (some mb)) (hm6 : MapIs quadV mb (seenL h xs (m + 1)) W6) (hl : W.heap[lb]? = some (.cells #[vl] 25 (0, 0))) (hvl : vs.length = (planL h xs m).length) (how : W.ownsRow lb 58 1 vl (planL h xs m).length vs) (hdr : ∀ (i : Nat) (h2 : i < (planL h xs m).length) u, vs[i]? = some u → DayR (planL h xs m)[i] u W) (hu : DayR (stepE h (planS h xs m)) u W)
    (hg : World.grownBy (W6.alloc o) W9 vl.ownBlock) (ho' : W9.ownsRow lb 58 1 v' ((planL h xs m).length + 1) (vs ++ [u])) (hw : w.heap.size + 4 ≤ mb) (h1 : bm = mb + 1) (h2 : lb = mb + 1 + 1) (hln : n0 = mb + 4) (hno : ∀ i, i < m → planS h xs i ≠ planS h xs m) :
    KeepsFrom n0 W (W9.setCell ⟨lb, 0, none⟩ v') ∧ KP mb [lb] W (W9.setCell ⟨lb, 0, none⟩ v') ∧ RndI w mb bm lb n0 h xs (m + 1) (W9.setCell ⟨lb, 0, none⟩ v') := by
  have hW6 : ∀ (k : Nat) q, W.heap[k]? = some q → k ≠ mb → W6.heap[k]? = some q := fun k q hk hne => heap_grown hk hg6 (by simpa using hne)
  have hmbc : ∀ (k : Nat) c e f, W.heap[k]? = some (.cells c e f) → k ≠ mb := fun k c e f hk e9 => by
    subst e9
    obtain ⟨q, h8, h9⟩ := H.mp.obj
    rw [hk] at h8
    cases h8
    cases h9
  have how6 : W6.ownsRow lb 58 1 vl (planL h xs m).length vs := own_typed how fun k c f hk => hW6 k _ hk (hmbc _ _ _ _ hk)
  have hl6 := hW6 lb _ hl (by omega)
  have hdi : ∀ {d : List Int} {u : Value}, DayR d u W → DayR d u W6 := fun hd => hd.stay fun k c f hk => hW6 k _ hk (hmbc _ _ _ _ hk)
  have hkp6 : KP mb [lb] W W6 := ⟨hg6.os, hg6.tape, hg6.output, hg6.size, fun k q hk hc => hW6 k q hk (by
    rcases hc with hc | ⟨hc, _⟩
    · omega
    · rintro rfl
      obtain ⟨q', h8, h9⟩ := H.mp.obj
      rw [hk] at h8
      cases h8
      rw [hc] at h9
      cases h9)⟩
  have hkp : KP mb [lb] W6 W9 := (KP.of_bel (belAlloc _ _)).trans (KP.grown (how6.alloc _) (by omega) hg)
  have hkp2 : KP mb [lb] W (W9.setCell ⟨lb, 0, none⟩ v') := (hkp6.trans hkp).trans (KP.set (by omega) (by simp))
  have hbx := box_grown hl6 how6 hg
  have hsz : mb ≤ W.heap.size := by have := H.sz; omega
  have hB := hkp2.below hsz
  refine ⟨((KeepsFrom.of_grownBy hg6 (by simp; omega)).trans (keepsFrom_row how6 hg)).trans ((KeepsOthers.setCell _ _ _).from _), hkp2, H.bel.trans (hB.mono (by omega)), (hB.block _ (by omega)).trans H.n1, (hB.block _ (by omega)).trans H.n2, (hB.block _ (by omega)).trans H.n3, ?_, ?_, Nat.le_trans H.sz hkp2.size, ⟨v', ?_, ?_⟩, fun a b hab hb => ?_⟩
  · have h8 : MapIs quadV mb (seenL h xs (m + 1)) W9 := (hm6.bel (belAlloc _ o)).kept hg (fun e => by
      rcases how6.2 with ⟨h9, _⟩ | ⟨g, cap, cur, h9, _, hg2, _⟩
      · rw [h9] at e; simp [Value.ownBlock] at e
      · rw [h9] at e
        simp [Value.ownBlock] at e
        subst e
        obtain ⟨q, h8, h9⟩ := hm6.obj
        rw [hg2] at h8
        cases h8
        cases h9)
    exact h8.of_block (heap_setCell_other (by omega))
  · exact hkp2.keep bm _ H.bm (.inr ⟨rfl, by simp; omega, fun _ _ e => by cases e⟩)
  · have := heap_setCell_same (o := 0) v' hbx
    simpa using this
  · rw [planL_succ]
    have hst : ∀ (k : Nat) c f, W6.heap[k]? = some (.cells c 3 f) → (W6.alloc o).heap[k]? = some (.cells c 3 f) := fun k c f hk => heap_old hk
    have h9 := DO.snoc (d := stepE h (planS h xs m)) hvl (how6.alloc o) (fun i hi u hu => (hdi (hdr i hi u hu)).stay hst) ((hdi hu).stay hst) hg ho'
    refine h9.stay (fun k c f hk => heap_other hk fun e => ?_) fun k c f hk => heap_other hk fun e => ?_
    · simp at e; subst e; rw [hbx] at hk; cases hk
    · simp at e; subst e; rw [hbx] at hk; cases hk
  · by_cases hbm : b < m
    · exact H.dis a b hab hbm
    · obtain rfl : b = m := by omega
      exact hno a hab
/-- What lies there when the round is told. -/
structure RndX (w : World) (lb : Nat) (h : Int) (xs : List Rk) (i m : Nat) (W : World) : Prop where
  bel : Below w.heap.size w W
  rd : RoundIs h xs i m
  row : ∃ g cap, DO lb (planL h xs m) (.slice (some ⟨g, 0, none⟩) m cap) W ∧ m ≤ cap ∧ W.heap[w.heap.size + 1]? = some (.cells #[.slice (some ⟨g, 0, none⟩) i i] 25 (0, 0)) ∧ W.heap[w.heap.size + 1 + 1]? = some (.cells #[.slice (some ⟨g, i, none⟩) (m - i) (cap - i)] 25 (0, 0))
  n3 : W.heap[w.heap.size + 1 + 1 + 1]? = some (.cells #[.int .i64 0] 31 (0, 0))
theorem RndX.rq {w : World} {lb n0 : Nat} {h : Int} {xs : List Rk} {i m : Nat} {A B : World} (H : RndX w lb h xs i m A) (hR : RQ n0 A B) (hn : w.heap.size + 4 ≤ n0) : RndX w lb h xs i m B :=
  ⟨H.bel.trans (hR.below.mono (by omega)), H.rd, let ⟨g, cap, a1, a2, a3, a4⟩ := H.row; ⟨g, cap, a1.rq hR, a2, (hR.below.block _ (by omega)).trans a3, (hR.below.block _ (by omega)).trans a4⟩, (hR.below.block _ (by omega)).trans H.n3⟩
theorem RndX.own {w : World} {lb n0 : Nat} {h : Int} {xs : List Rk} {i m : Nat} {A B : World} {row : Option Nat} (H : RndX w lb h xs i m A) (hg : A.grownBy B row) (hr : ∀ r, row = some r → n0 ≤ r ∧ ∃ o : Obj, A.heap[r]? = some o ∧ o.isCells = false) (hn : w.heap.size + 4 ≤ n0) : RndX w lb h xs i m B := by
  have hne : ∀ b, b < n0 → some b ≠ row := fun b hb e => by have := (hr _ e.symm).1; omega
  obtain ⟨g, cap, a1, a2, a3, a4⟩ := H.row
  exact ⟨H.bel.trans (Below.of_grown hg H.bel.size (fun r e => by have := (hr r e).1; omega)), H.rd, ⟨g, cap, a1.own hg hr, a2, heap_grown a3 hg (hne _ (by omega)), heap_grown a4 hg (hne _ (by omega))⟩, heap_grown H.n3 hg (hne _ (by omega))⟩
set_option maxRecDepth 100000 in
set_option maxHeartbeats 16000000 in
theorem round_b (h : Int) (xs : List Rk) (u : Value) (w : World) (hT : TabR w) (hu : RL xs u w) (hw : watchB h xs = true) (he : everB h xs = true) :
    Calls Tryd.prog 41 #[.agg #[.int .i64 h, u]] w fun e w' => (∃ i j vl vr, RoundIs h xs i j ∧ e = .returned (.tuple #[vl, vr, .int .i64 0]) ∧ DZ (planL h xs i) vl w' ∧ DZ ((planL h xs j).drop i) vr w') ∧ Below w.heap.size w w' := by
  have HU := Lib.hid hu
  obtain ⟨p, cp, rfl, _, _⟩ := hu
  have KB : Free.Bel w ((((w.alloc (.cells #[.int .i64 h, .slice p xs.length cp] 24)).alloc (.cells #[.slice none 0 0] 25)).alloc (.cells #[.slice none 0 0] 25)).alloc (.cells #[.int .i64 0] 31)) := bt (bt (bt (belAlloc _ _) (belAlloc _ _)) (belAlloc _ _)) (belAlloc _ _)
  have m0 : ((((w.alloc (.cells #[.int .i64 h, .slice p xs.length cp] 24)).alloc (.cells #[.slice none 0 0] 25)).alloc (.cells #[.slice none 0 0] 25)).alloc (.cells #[.int .i64 0] 31)).heap[w.heap.size]? = some (.cells #[.int .i64 h, .slice p xs.length cp] 24 (0, 0)) := heap_old (heap_old (heap_old (World.alloc_heap_new w _)))
  have m1 : ((((w.alloc (.cells #[.int .i64 h, .slice p xs.length cp] 24)).alloc (.cells #[.slice none 0 0] 25)).alloc (.cells #[.slice none 0 0] 25)).alloc (.cells #[.int .i64 0] 31)).heap[w.heap.size + 1]? = some (.cells #[.slice none 0 0] 25 (0, 0)) := heap_old (heap_old (by
    have := World.alloc_heap_new (w.alloc (.cells #[.int .i64 h, .slice p xs.length cp] 24)) (.cells #[.slice none 0 0] 25)
    simpa using this))
  have m2 : ((((w.alloc (.cells #[.int .i64 h, .slice p xs.length cp] 24)).alloc (.cells #[.slice none 0 0] 25)).alloc (.cells #[.slice none 0 0] 25)).alloc (.cells #[.int .i64 0] 31)).heap[w.heap.size + 1 + 1]? = some (.cells #[.slice none 0 0] 25 (0, 0)) := heap_old (by
    have := World.alloc_heap_new ((w.alloc (.cells #[.int .i64 h, .slice p xs.length cp] 24)).alloc (.cells #[.slice none 0 0] 25)) (.cells #[.slice none 0 0] 25)
    simpa using this)
  have m3 : ((((w.alloc (.cells #[.int .i64 h, .slice p xs.length cp] 24)).alloc (.cells #[.slice none 0 0] 25)).alloc (.cells #[.slice none 0 0] 25)).alloc (.cells #[.int .i64 0] 31)).heap[w.heap.size + 1 + 1 + 1]? = some (.cells #[.int .i64 0] 31 (0, 0)) := by
    have := World.alloc_heap_new (((w.alloc (.cells #[.int .i64 h, .slice p xs.length cp] 24)).alloc (.cells #[.slice none 0 0] 25)).alloc (.cells #[.slice none 0 0] 25)) (.cells #[.int .i64 0] 31)
    simpa using this
  have FA : ∀ W, Free.Bel ((((w.alloc (.cells #[.int .i64 h, .slice p xs.length cp] 24)).alloc (.cells #[.slice none 0 0] 25)).alloc (.cells #[.slice none 0 0] 25)).alloc (.cells #[.int .i64 0] 31)) W → W.cell? ⟨w.heap.size, 0, none⟩ = some (.int .i64 h) ∧ W.cell? ⟨w.heap.size, 1, none⟩ = some (.slice p xs.length cp) := fun W hW => ⟨keepsB hW (cell_of_heap m0 rfl), keepsB hW (cell_of_heap m0 rfl)⟩
  have KE : Free.Bel ((((w.alloc (.cells #[.int .i64 h, .slice p xs.length cp] 24)).alloc (.cells #[.slice none 0 0] 25)).alloc (.cells #[.slice none 0 0] 25)).alloc (.cells #[.int .i64 0] 31)) ((((w.alloc (.cells #[.int .i64 h, .slice p xs.length cp] 24)).alloc (.cells #[.slice none 0 0] 25)).alloc (.cells #[.slice none 0 0] 25)).alloc (.cells #[.int .i64 0] 31)) := Free.Bel.refl _
  have HGO := Lib.hid (going_v h xs _ ((((w.alloc (.cells #[.int .i64 h, .slice p xs.length cp] 24)).alloc (.cells #[.slice none 0 0] 25)).alloc (.cells #[.slice none 0 0] 25)).alloc (.cells #[.int .i64 0] 31)) (hT.bel KB) (HU.out.keeps KB) 0 (by show _ = _; unfold goE; simp [hw, he]))
  have hmm := @run_makeMap Tryd.prog
  have HKB := Lib.hid (And.intro KB (And.intro m1 (And.intro m2 m3)))
  have HWE := Lib.hid (And.intro hw he)
  clear hT m0 m1 m2 m3 hw he
  refine (callsIn_wide (n := 5)).1 ?_
  refine callsIn_of_wp_marks Tryd.func41 rfl trivial ?_ rfl
  simp only [Tryd.ntmps41, List.size_toArray, List.length_cons, List.length_nil, Nat.reduceAdd, Nat.reduceSub, Array.replicate_succ, Array.replicate_zero, List.push_toArray, List.append_toArray, an1, an2]
  refine wpIn_wide.2 ?_
  go_wp2_with fail
  refine HGO.out.mono ?_
  rintro e w1 ⟨hG, hB1⟩
  obtain ⟨yb, gb, v0, dv, L, rfl, hye, hy1, hy2⟩ : ∃ yb gb u dv L, e = .returned (.tuple #[.pointer (some ⟨yb, 0, none⟩), .int .i64 0]) ∧ YE yb gb h xs u dv L w1 ∧ ((((w.alloc (.cells #[.int .i64 h, .slice p xs.length cp] 24)).alloc (.cells #[.slice none 0 0] 25)).alloc (.cells #[.slice none 0 0] 25)).alloc (.cells #[.int .i64 0] 31)).heap.size ≤ yb ∧ ((((w.alloc (.cells #[.int .i64 h, .slice p xs.length cp] 24)).alloc (.cells #[.slice none 0 0] 25)).alloc (.cells #[.slice none 0 0] 25)).alloc (.cells #[.int .i64 0] 31)).heap.size ≤ gb := by
    rcases hG with ⟨h9, _⟩ | ⟨_, h9⟩
    · exact absurd rfl h9
    · exact h9
  have K1 : Free.Bel ((((w.alloc (.cells #[.int .i64 h, .slice p xs.length cp] 24)).alloc (.cells #[.slice none 0 0] 25)).alloc (.cells #[.slice none 0 0] 25)).alloc (.cells #[.int .i64 0] 31)) w1 := hB1
  have HYE := Lib.hid hye
  have n3 := (K1.block _ (lt_of_heap HKB.out.2.2.2)).trans HKB.out.2.2.2
  have y0 := cell_of_heap (o := 0) n3 rfl
  have y1 := frozen_of_heap (o := 0) n3
  have HB1 := Lib.hid (And.intro K1 n3)
  clear hG hB1 hye hy1 hy2 n3 KE FA K1 KB
  go_wp2_with fail
  have KC : Free.Bel w1 ((((w1.setCell ⟨w.heap.size + 1 + 1 + 1, 0, none⟩ (.int .i64 0)).alloc (.map #[] 0)).alloc (.cells #[.map (some w1.heap.size)] 129)).alloc (.cells #[.slice none 0 0] 25)) := bt (bel_same HB1.out.2) (bt (belAlloc _ _) (bt (belAlloc _ _) (belAlloc _ _)))
  have cm : MapIs quadV w1.heap.size (seenL h xs 0) ((((w1.setCell ⟨w.heap.size + 1 + 1 + 1, 0, none⟩ (.int .i64 0)).alloc (.map #[] 0)).alloc (.cells #[.map (some w1.heap.size)] 129)).alloc (.cells #[.slice none 0 0] 25)) := by
    have h9 := MapIs.made quadV (w1.setCell ⟨w.heap.size + 1 + 1 + 1, 0, none⟩ (.int .i64 0))
    simp only [World.size_setCell] at h9
    exact (h9.bel (belAlloc _ _)).bel (belAlloc _ _)
  have cb : ((((w1.setCell ⟨w.heap.size + 1 + 1 + 1, 0, none⟩ (.int .i64 0)).alloc (.map #[] 0)).alloc (.cells #[.map (some w1.heap.size)] 129)).alloc (.cells #[.slice none 0 0] 25)).heap[w1.heap.size + 1]? = some (.cells #[.map (some w1.heap.size)] 129 (0, 0)) := heap_old (by
    have := World.alloc_heap_new ((w1.setCell ⟨w.heap.size + 1 + 1 + 1, 0, none⟩ (.int .i64 0)).alloc (.map #[] 0)) (.cells #[.map (some w1.heap.size)] 129)
    simpa using this)
  have cl : ((((w1.setCell ⟨w.heap.size + 1 + 1 + 1, 0, none⟩ (.int .i64 0)).alloc (.map #[] 0)).alloc (.cells #[.map (some w1.heap.size)] 129)).alloc (.cells #[.slice none 0 0] 25)).heap[w1.heap.size + 1 + 1]? = some (.cells #[.slice none 0 0] 25 (0, 0)) := by
    have := World.alloc_heap_new (((w1.setCell ⟨w.heap.size + 1 + 1 + 1, 0, none⟩ (.int .i64 0)).alloc (.map #[] 0)).alloc (.cells #[.map (some w1.heap.size)] 129)) (.cells #[.slice none 0 0] 25)
    simpa using this
  have hsC : ((((w1.setCell ⟨w.heap.size + 1 + 1 + 1, 0, none⟩ (.int .i64 0)).alloc (.map #[] 0)).alloc (.cells #[.map (some w1.heap.size)] 129)).alloc (.cells #[.slice none 0 0] 25)).heap.size = w1.heap.size + 3 := by simp
  clear y0 y1
  generalize ((((w1.setCell ⟨w.heap.size + 1 + 1 + 1, 0, none⟩ (.int .i64 0)).alloc (.map #[] 0)).alloc (.cells #[.map (some w1.heap.size)] 129)).alloc (.cells #[.slice none 0 0] 25)) = C at *
  refine (plan_any yb C).mono ?_
  rintro e w5 ⟨rfl, hw5⟩
  have K5 : Free.Bel C w5 := by rw [← hw5]; exact belAlloc _ _
  have mY : w5.heap[w1.heap.size + 3]? = some (.cells #[.pointer (some ⟨yb, 0, none⟩)] 108 (0, 0)) := by
    rw [← hw5, ← hsC]
    exact World.alloc_heap_new C _
  have hs5 : w5.heap.size = w1.heap.size + 4 := by rw [← hw5]; simp [hsC]
  have K15 : Free.Bel w1 w5 := bt KC K5
  have hws : w.heap.size + 4 ≤ w1.heap.size := by have := HB1.out.1.size; simp at this; omega
  rw [hsC]
  have hseq : SeqN Fence.wide (5 - 1) Tryd.prog 102 #[.pointer (some ⟨w1.heap.size + 3, 0, none⟩)] EP (RQ w5.heap.size) (KP w1.heap.size [w1.heap.size + 1 + 1]) (planP h xs (L.length + 1)) w5 := fun l J Jx W hW hJ hJx hY hno h0 =>
    plan1_in (5 - 1) l w5.heap.size (w1.heap.size + 3) yb gb (L.length + 1) [w1.heap.size + 1 + 1] h xs v0 dv L (by omega) w1 W HYE.out HWE.out.1 HWE.out.2 ((hW.below.block _ (by omega)).trans mY) (by omega) (by simp) (by simp; omega) (by omega) hW.below.size (Below.trans (show Below w1.heap.size w1 w5 from K15) (hW.below.mono (by omega))) J Jx hJ hJx hY hno h0
  have HSEQ := Lib.hid hseq
  have HI := Lib.hid (show RndI w w1.heap.size (w1.heap.size + 1) (w1.heap.size + 1 + 1) w5.heap.size h xs 0 w5 from
    ⟨bt HKB.out.1 (bt HB1.out.1 K15), ((bt HB1.out.1 K15).block _ (lt_of_heap HKB.out.2.1)).trans HKB.out.2.1, ((bt HB1.out.1 K15).block _ (lt_of_heap HKB.out.2.2.1)).trans HKB.out.2.2.1, ((bt HB1.out.1 K15).block _ (lt_of_heap HKB.out.2.2.2)).trans HKB.out.2.2.2, cm.bel K5, (K5.block _ (lt_of_heap cb)).trans cb, Nat.le_refl _, ⟨_, (K5.block _ (lt_of_heap cl)).trans cl, DO.nil _ _⟩, fun a b _ hb => absurd hb (Nat.not_lt_zero _)⟩)
  have HS := Lib.hid (And.intro hs5 hws)
  have HPS := Lib.hid (planS_ever (st_self HWE.out.1) HWE.out.2)
  have HLL := Lib.hid (ever_small HWE.out.1 HYE.out.ev)
  clear hseq mY K5 K15 KC cm cb cl hs5 hws hw5 hsC
  go_wp2_with fail
  refine (wpIn_wide (n := 5)).1 ?_
  refine wpIn_rangeFunc_RN (F := Fence.wide) (n := 5) rfl (by omega) (gf := 102) (lb := #[.pointer (some ⟨w1.heap.size + 3, 0, none⟩)]) rfl trivial (enters_of Tryd.func102 (by kernel_rfl) rfl)
    HSEQ.out (fun A b hA h => h.trans (.of_bel (belAlloc A b) hA)) (RQ.refl _ _) (fun A B k b h _ hc hA => h.other k b hA fun c f e => by rw [e] at hc; cases hc)
    KP.trans (fun W l b b' hl h hc _ => KP.put h hc (by have := HS.out.1; omega)) (fun x vs W hE => by obtain ⟨v, rfl, _⟩ := hE; rfl)
    (fun pre W => RndI w w1.heap.size (w1.heap.size + 1) (w1.heap.size + 1 + 1) w5.heap.size h xs pre.length W)
    (fun c pre W => c = .ret ∧ ∃ i m, RndX w (w1.heap.size + 1 + 1) h xs i m W)
    ?own ?ownx ?abide ?abidex HI.out
    (fun x a' W => ∃ q m c B, DayR x.2 (.slice q m c) W ∧ w5.heap.size ≤ B ∧ W.heap[B]? = some (.cells (arrV (waits x.1)) 109 (0, 0)) ∧ a' = { tmps := #[.agg #[.int .i64 h, .slice p xs.length cp], .pointer (some ⟨w.heap.size, 0, none⟩), .pointer (some ⟨w.heap.size + 1, 0, none⟩), .pointer (some ⟨w.heap.size + 1 + 1, 0, none⟩), .pointer (some ⟨w.heap.size + 1 + 1 + 1, 0, none⟩), .pointer (some ⟨yb, 0, none⟩), .pointer (some ⟨w1.heap.size + 1, 0, none⟩), .pointer (some ⟨w1.heap.size + 1 + 1, 0, none⟩), .pointer (some ⟨B, 0, none⟩), .slice q m c, undef, undef, .tuple #[.pointer (some ⟨yb, 0, none⟩), .int .i64 0], .agg #[.int .i64 h, .slice p xs.length cp], .tuple #[.pointer (some ⟨yb, 0, none⟩), .int .i64 0], .pointer (some ⟨yb, 0, none⟩), .int .i64 0, .int .i64 0, .bool false, undef, .map (some w1.heap.size), .pointer (some ⟨yb, 0, none⟩), .func (.func 102) #[] #[.pointer (some ⟨w1.heap.size + 3, 0, none⟩)], stV (waits x.1), .slice q m c, undef, undef, undef, undef, undef, undef, undef, undef, undef, undef, undef, undef, undef, undef, undef, undef, undef, undef, undef, undef, undef, undef], defers := [] })
    ?hAx ?assign ?body (fun W hW => by
      have h9 := distinct_le (m := L.length + 1) (watchB_iff.1 HWE.out.1).2.1 HYE.out.ev HPS.out (by have := hW.dis; simpa [planP] using this)
      omega) ?stop
  case own =>
    rintro pre A B row h1 hgr hrow
    have hs := HS.out
    exact h1.own hgr hrow (by omega) (by omega) (by omega) (by omega)
  case ownx =>
    rintro c pre A B row ⟨h0, i, m, h1⟩ hgr hrow
    have hs := HS.out
    exact ⟨h0, i, m, h1.own hgr hrow (by omega)⟩
  case abide =>
    rintro pre A B h1 hR
    have hs := HS.out
    exact h1.rq hR (by omega) (by omega) (by omega) (by omega)
  case abidex =>
    rintro c pre A B ⟨h0, i, m, h1⟩ hR
    have hs := HS.out
    exact ⟨h0, i, m, h1.rq hR (by omega)⟩
  case hAx =>
    rintro x a' _ A B row ⟨q, m, c, b, hv, hb, hh, rfl⟩ hgr hrow
    have hcl : ∀ (k : Nat) c e f, A.heap[k]? = some (.cells c e f) → some k ≠ row := fun k c e f hk q => by
      obtain ⟨_, o, ho, hc⟩ := hrow k q.symm
      rw [hk] at ho
      cases ho
      cases hc
    exact ⟨q, m, c, b, hv.stay (fun k c f hk => heap_grown hk hgr (hcl _ _ _ _ hk)), hb, heap_grown hh hgr (hcl _ _ _ _ hh), rfl⟩
  case assign =>
    rintro l pre x vs W K hI hpre ⟨v, rfl, hv⟩ hK
    obtain ⟨b0, hrow⟩ := hv
    obtain ⟨q, c, rfl⟩ := row_slice hrow
    have c9 : (W.alloc (.cells (arrV (waits x.1)) 109)).heap[W.heap.size]? = _ := World.alloc_heap_new W _
    gi_wp2
    have hs := HS.out
    exact hK _ _ ((KeepsOthers.alloc W _).from _) (.of_bel (belAlloc W _)) (hI.rq (.of_bel (belAlloc W _) hI.sz) (by omega) (by omega) (by omega) (by omega)) ⟨q, _, c, W.heap.size, ⟨b0, bel_row hrow (belAlloc _ _)⟩, hI.sz, c9, rfl⟩
  case body =>
    rintro l pre x a' W hD ⟨q, m, c, B, hv, hB, hh, rfl⟩ hpre
    have hx := prefix_plan hpre
    subst hx
    obtain ⟨pm, hpm⟩ : ∃ y, pre.length = y := ⟨_, rfl⟩
    rw [hpm] at hD hv hh ⊢
    have hlp : (pre ++ [(planS h xs pm, stepE h (planS h xs pm))]).length = pm + 1 := by simp [hpm]
    obtain ⟨vl, hl, vs, hvl, how, hdr⟩ := hD.row
    obtain ⟨pl, cl, rfl⟩ := row_slice how
    have hpn : (planL h xs pm).length = pm := planL_length h xs pm
    obtain ⟨S, hS⟩ : ∃ y, waits (planS h xs pm) = y := ⟨_, rfl⟩
    have hL9 := distinct_le (watchB_iff.1 HWE.out.1).2.1 HYE.out.ev HPS.out hD.dis
    have hpb : pm ≤ 1296 := by have := HLL.out; omega
    simp only at hv hh ⊢
    rw [hS] at hh ⊢
    obtain ⟨S0, S1, S2, S3, _⟩ := cells4 hh
    have z0 := cell_of_heap (o := 0) hD.bm rfl
    have z1 := cell_of_heap (o := 0) hl rfl
    have f1 := frozen_of_heap (o := 0) hl
    have hlk : (Instr.lookup 129 (.map (some w1.heap.size)) (.agg #[.int .i64 (S 0), .int .i64 (S 1), .int .i64 (S 2), .int .i64 (S 3)]) true).run Tryd.prog W = .ok (.tuple #[(assoc (q4 S) (seenL h xs pm)).getD (.int .i64 0), .bool (assoc (q4 S) (seenL h xs pm)).isSome]) W := hD.mp.lookup_ok T.quads T.uAt (T.zIntS W) (q4 S)
    rw [hpn] at hl z1 how
    have hpw : IntKind.i64.wrap (pm : Int) = pm := IntWalk.i64_in _ (by omega)
    by_cases hex : ∃ i, i < pm ∧ planS h xs i = planS h xs pm
    · obtain ⟨i, hi, he⟩ := hex
      have has := seen_some (watchB_iff.1 HWE.out.1).2.1 (fun n => (HPS.out n).1) hD.dis hi he
      rw [hS] at has
      rw [has] at hlk
      simp only [Option.getD_some, Option.isSome_some] at hlk
      obtain ⟨g, cap, cur, he2, hge, hgb, hgc, _, _, _⟩ := how.2.resolve_left (fun h9 => by omega)
      simp only [Value.slice.injEq] at he2
      obtain ⟨rfl, _, rfl⟩ := he2
      have HD := Lib.hid (And.intro hD (And.intro hl (And.intro (show DO (w1.heap.size + 1 + 1) (planL h xs pm) (.slice (some ⟨g, 0, none⟩) pm cl) W from ⟨vs, hvl, by rw [hpn]; exact how, hdr⟩) (And.intro hgc (And.intro hi he)))))
      have HCP := Lib.hid (And.intro hgc hi)
      clear hD hl how hdr hvl hgb hge hgc he has hv hh hpre hlp hi hL9
      gi_wp2
      have hF : ∀ W', RX W.heap.size [w.heap.size + 1, w.heap.size + 1 + 1, w.heap.size + 1 + 1 + 1] W.drew W' → (W'.cell? ⟨w1.heap.size + 1 + 1, 0, none⟩ = some (.slice (some ⟨g, 0, none⟩) pm cl) ∧ (Instr.slice 25 (.slice (some ⟨g, 0, none⟩) pm cl) none (some (.int .i64 i)) (some (.int .i64 i))).run Tryd.prog W' = .ok (.slice (some ⟨g, 0, none⟩) i i) W' ∧ (Instr.slice 25 (.slice (some ⟨g, 0, none⟩) pm cl) (some (.int .i64 i)) none none).run Tryd.prog W' = .ok (.slice (some ⟨g, i, none⟩) (pm - i) (cl - i)) W') := fun W' hW => by
        have hs := HS.out
        obtain ⟨hc1, hc2⟩ := HCP.out
        exact ⟨hW.cell (show W.drew.cell? _ = _ from z1) (by have := lt_of_cell z1; simpa using this) (by simp; omega), slice_lead g pm cl i (by omega) W', slice_rest g pm cl i hc2 (by omega) W'⟩
      have hN1 : W.drew.heap[w.heap.size + 1]? = some (.cells #[.slice none 0 0] 25 (0, 0)) := HD.out.1.n1
      have hN2 : W.drew.heap[w.heap.size + 1 + 1]? = some (.cells #[.slice none 0 0] 25 (0, 0)) := HD.out.1.n2
      have hN3 : W.drew.heap[w.heap.size + 1 + 1 + 1]? = some (.cells #[.int .i64 0] 31 (0, 0)) := HD.out.1.n3
      refine Free2R.wp_free (R := RX W.heap.size [w.heap.size + 1, w.heap.size + 1 + 1, w.heap.size + 1 + 1 + 1]) (J := JHL [(7, w.heap.size + 1, .cells #[.slice none 0 0] 25 (0, 0), .cells #[.slice (some ⟨g, 0, none⟩) i i] 25 (0, 0)), (8, w.heap.size + 1 + 1, .cells #[.slice none 0 0] 25 (0, 0), .cells #[.slice (some ⟨g, i, none⟩) (pm - i) (cl - i)] 25 (0, 0)), (9, w.heap.size + 1 + 1 + 1, .cells #[.int .i64 0] 31 (0, 0), .cells #[.int .i64 0] 31 (0, 0))]) (by kernel_rfl) (by kernel_rfl) (by kernel_rfl) (RX.refl _ _) RX.trans (JHL.start (by simp [hN1, hN2, hN3])) ?_
      refine Free2R.Chain.ex ?_ 0 rfl [] [7] (by kernel_rfl) (by kernel_rfl) rfl (RX.refl _ _) (fun X W v h => JHL.skip h 0 v (by simp)) ?_ ?_
      rotate_left
      · (intro ev W hb hR hO hD; have hS := hF W hR; obtain ⟨hb1, hb2, hb3⟩ := hb; simp only [Free.AllDeps, Free.AllOuts, Free.At, al1, al2, al3, al4, al5, and_true] at hO hD; go_simp; rfl)
      simp only [an1, an2]
      refine Free2R.Chain.ex ?_ 1 rfl [] [10] (by kernel_rfl) (by kernel_rfl) rfl (RX.refl _ _) (fun X W v h => JHL.skip h 1 v (by simp)) ?_ ?_
      rotate_left
      · (intro ev W hb hR hO hD; have hS := hF W hR; obtain ⟨hb1, hb2, hb3⟩ := hb; simp only [Free.AllDeps, Free.AllOuts, Free.At, al1, al2, al3, al4, al5, and_true] at hO hD; go_simp; rfl)
      simp only [an1, an2]
      refine Free2R.Chain.ex ?_ 2 rfl [] [10] (by kernel_rfl) (by kernel_rfl) rfl (RX.refl _ _) (fun X W v h => JHL.skip h 2 v (by simp)) ?_ ?_
      rotate_left
      · (intro ev W hb hR hO hD; have hS := hF W hR; obtain ⟨hb1, hb2, hb3⟩ := hb; simp only [Free.AllDeps, Free.AllOuts, Free.At, al1, al2, al3, al4, al5, and_true] at hO hD; go_simp; rfl)
      simp only [an1, an2]
      refine Free2R.Chain.ex ?_ 3 rfl [(0, 32), (1, 33), (2, 34)] [] (by kernel_rfl) (by kernel_rfl) rfl (RX.refl _ _) (fun X W v h => JHL.skip h 3 v (by simp)) ?_ ?_
      rotate_left
      · (intro ev W hb hR hO hD; have hS := hF W hR; obtain ⟨hb1, hb2, hb3⟩ := hb; simp only [Free.AllDeps, Free.AllOuts, Free.At, al1, al2, al3, al4, al5, and_true] at hO hD; go_simp; rfl)
      simp only [an1, an2]
      refine Free2R.Chain.ex ?_ 4 rfl [] [7] (by kernel_rfl) (by kernel_rfl) rfl (RX.refl _ _) (fun X W v h => JHL.skip h 4 v (by simp)) ?_ ?_
      rotate_left
      · (intro ev W hb hR hO hD; have hS := hF W hR; obtain ⟨hb1, hb2, hb3⟩ := hb; simp only [Free.AllDeps, Free.AllOuts, Free.At, al1, al2, al3, al4, al5, and_true] at hO hD; go_simp; rfl)
      simp only [an1, an2]
      refine Free2R.Chain.ex ?_ 5 rfl [] [10] (by kernel_rfl) (by kernel_rfl) rfl (RX.refl _ _) (fun X W v h => JHL.skip h 5 v (by simp)) ?_ ?_
      rotate_left
      · (intro ev W hb hR hO hD; have hS := hF W hR; obtain ⟨hb1, hb2, hb3⟩ := hb; simp only [Free.AllDeps, Free.AllOuts, Free.At, al1, al2, al3, al4, al5, and_true] at hO hD; go_simp; rfl)
      simp only [an1, an2]
      refine Free2R.Chain.ex ?_ 6 rfl [(4, 36), (5, 37)] [] (by kernel_rfl) (by kernel_rfl) rfl (RX.refl _ _) (fun X W v h => JHL.skip h 6 v (by simp)) ?_ ?_
      rotate_left
      · (intro ev W hb hR hO hD; have hS := hF W hR; obtain ⟨hb1, hb2, hb3⟩ := hb; simp only [Free.AllDeps, Free.AllOuts, Free.At, al1, al2, al3, al4, al5, and_true] at hO hD; go_simp; rfl)
      simp only [an1, an2]
      refine Free2R.Chain.pr (fun _ _ => True) 7 rfl [(3, 35), (0, 32), (1, 33), (2, 34), (3, 35)] [2] (by kernel_rfl) (by kernel_rfl) rfl (fun _ _ _ _ h => h) ?_ ?_
      · (intro ev W X hb hR hO hD hj hx hax; have hS := hF W hR; obtain ⟨hb1, hb2, hb3⟩ := hb; simp only [Free.AllDeps, Free.AllOuts, Free.At, al1, al2, al3, al4, al5, and_true] at hO hD; simp only [Free2.AllX, and_true] at hax; have hj0 := (hj (7, w.heap.size + 1, .cells #[.slice none 0 0] 25 (0, 0), .cells #[.slice (some ⟨g, 0, none⟩) i i] 25 (0, 0)) (by simp)).1 hx; have c0 := cell_of_heap (o := 0) hj0 rfl; have c1 := frozen_of_heap (o := 0) hj0; go_simp; exact ⟨RX.set (by simp), JHL.put hj (7, w.heap.size + 1, .cells #[.slice none 0 0] 25 (0, 0), .cells #[.slice (some ⟨g, 0, none⟩) i i] 25 (0, 0)) _ (by first | (simp; done) | (simp; omega)) (by have := heap_setCell_same (o := 0) (.slice (some ⟨g, 0, none⟩) i i) hj0; simpa using this) (fun k hk => heap_setCell_other hk)⟩)
      simp only [an1, an2]
      refine Free2R.Chain.pr (fun _ _ => True) 8 rfl [(6, 38), (0, 32), (1, 33), (2, 34), (3, 35), (4, 36), (5, 37), (6, 38)] [3] (by kernel_rfl) (by kernel_rfl) rfl (fun _ _ _ _ h => h) ?_ ?_
      · (intro ev W X hb hR hO hD hj hx hax; have hS := hF W hR; obtain ⟨hb1, hb2, hb3⟩ := hb; simp only [Free.AllDeps, Free.AllOuts, Free.At, al1, al2, al3, al4, al5, and_true] at hO hD; simp only [Free2.AllX, and_true] at hax; have hj0 := (hj (8, w.heap.size + 1 + 1, .cells #[.slice none 0 0] 25 (0, 0), .cells #[.slice (some ⟨g, i, none⟩) (pm - i) (cl - i)] 25 (0, 0)) (by simp)).1 hx; have c0 := cell_of_heap (o := 0) hj0 rfl; have c1 := frozen_of_heap (o := 0) hj0; go_simp; exact ⟨RX.set (by simp), JHL.put hj (8, w.heap.size + 1 + 1, .cells #[.slice none 0 0] 25 (0, 0), .cells #[.slice (some ⟨g, i, none⟩) (pm - i) (cl - i)] 25 (0, 0)) _ (by first | (simp; done) | (simp; omega)) (by have := heap_setCell_same (o := 0) (.slice (some ⟨g, i, none⟩) (pm - i) (cl - i)) hj0; simpa using this) (fun k hk => heap_setCell_other hk)⟩)
      simp only [an1, an2]
      refine Free2R.Chain.pr (fun _ _ => True) 9 rfl [(0, 32), (1, 33), (2, 34), (3, 35), (4, 36), (5, 37), (6, 38)] [4] (by kernel_rfl) (by kernel_rfl) rfl (fun _ _ _ _ h => h) ?_ ?_
      · (intro ev W X hb hR hO hD hj hx hax; have hS := hF W hR; obtain ⟨hb1, hb2, hb3⟩ := hb; simp only [Free.AllDeps, Free.AllOuts, Free.At, al1, al2, al3, al4, al5, and_true] at hO hD; simp only [Free2.AllX, and_true] at hax; have hj0 := (hj (9, w.heap.size + 1 + 1 + 1, .cells #[.int .i64 0] 31 (0, 0), .cells #[.int .i64 0] 31 (0, 0)) (by simp)).1 hx; have c0 := cell_of_heap (o := 0) hj0 rfl; have c1 := frozen_of_heap (o := 0) hj0; go_simp; exact ⟨RX.set (by simp), JHL.put hj (9, w.heap.size + 1 + 1 + 1, .cells #[.int .i64 0] 31 (0, 0), .cells #[.int .i64 0] 31 (0, 0)) _ (by first | (simp; done) | (simp; omega)) (by have := heap_setCell_same (o := 0) (.int .i64 0) hj0; simpa using this) (fun k hk => heap_setCell_other hk)⟩)
      simp only [an1, an2]
      clear hN1 hN2 hN3
      intro ys w6 hR hV hX
      obtain ⟨X, hj, hxx⟩ := hX
      simp only [Free.AllV, Free.At, List.length_cons, List.length_nil, Nat.reduceAdd, List.getElem?_cons_succ, List.getElem?_cons_zero, true_and, and_true] at hV
      simp only [Free.putsFrom, Act.put, Nat.zero_add, Nat.reduceAdd, hV, List.setIfInBounds_toArray, List.set_cons_succ, List.set_cons_zero]
      have b1 := (hj (7, w.heap.size + 1, .cells #[.slice none 0 0] 25 (0, 0), .cells #[.slice (some ⟨g, 0, none⟩) i i] 25 (0, 0)) (by simp)).2 (by show X 7 ≠ none; rw [hxx 7 (by decide)]; simp)
      have b2 := (hj (8, w.heap.size + 1 + 1, .cells #[.slice none 0 0] 25 (0, 0), .cells #[.slice (some ⟨g, i, none⟩) (pm - i) (cl - i)] 25 (0, 0)) (by simp)).2 (by show X 8 ≠ none; rw [hxx 8 (by decide)]; simp)
      have b3 := (hj (9, w.heap.size + 1 + 1 + 1, .cells #[.int .i64 0] 31 (0, 0), .cells #[.int .i64 0] 31 (0, 0)) (by simp)).2 (by show X 9 ≠ none; rw [hxx 9 (by decide)]; simp)
      have HBB := Lib.hid (And.intro b1 (And.intro b2 (And.intro b3 hR)))
      clear hR hV hj hxx hF b1 b2 b3
      gi_wp2
      obtain ⟨b1, b2, b3, hR⟩ := HBB.out
      obtain ⟨hD, hl, hdo, hgc, hi, he⟩ := HD.out
      have hs := HS.out
      have hW : ∀ (k : Nat) q, W.heap[k]? = some q → k ∉ [w.heap.size + 1, w.heap.size + 1 + 1, w.heap.size + 1 + 1 + 1] → w6.heap[k]? = some q := fun k q hk hne => (hR.block k (lt_of_heap hk) hne).trans hk
      have hcl : ∀ (e : TypeId) (k : Nat) c f, e ≠ 25 → e ≠ 31 → W.heap[k]? = some (.cells c e f) → w6.heap[k]? = some (.cells c e f) := fun e k c f h1 h2 hk => hW k _ hk (by
        intro hm
        simp at hm
        rcases hm with rfl | rfl | rfl
        · rw [hD.n1] at hk; cases hk; exact h1 rfl
        · rw [hD.n2] at hk; cases hk; exact h1 rfl
        · rw [hD.n3] at hk; cases hk; exact h2 rfl)
      refine ⟨⟨hR.size, fun k q hk h1 _ => hW k q h1 (by simp; omega)⟩, rfl, i, pm, ⟨hD.bel.trans ⟨hR.os, hR.tape, hR.output, hR.size, fun k hk => hR.block k (by have := hD.bel.size; omega) (by simp; omega)⟩, ⟨hi, he.symm, hD.dis⟩, ⟨g, cl, hdo.stay (fun k c f hk => hcl 58 k c f (by decide) (by decide) hk) (fun k c f hk => hcl 3 k c f (by decide) (by decide) hk), by omega, b1, b2⟩, b3⟩⟩
    · have hno : ∀ i, i < pm → planS h xs i ≠ planS h xs pm := fun i hi he => hex ⟨i, hi, he⟩
      have has := seen_none (watchB_iff.1 HWE.out.1).2.1 (fun n => (HPS.out n).1) hno
      obtain ⟨w6, hup, hg6, hm6, hs6⟩ := hD.mp.update T.quads T.uAt (q4 S) (.int .i64 pm)
      have hset : assocSet (q4 S) (.int .i64 (pm : Int)) (seenL h xs pm) = seenL h xs (pm + 1) := by
        rw [seenL_succ, hS]
        rw [hS] at has
        exact assocSet_append _ _ _ 0 (assocI_none has 0)
      rw [hset] at hm6
      rw [hS] at has
      rw [has] at hlk
      simp only [Option.getD_none, Option.isSome_none] at hlk
      have hup2 : (Instr.mapUpdate 129 (.map (some w1.heap.size)) (.agg #[.int .i64 (S 0), .int .i64 (S 1), .int .i64 (S 2), .int .i64 (S 3)]) (.int .i64 pm)).run Tryd.prog W = .ok () w6 := hup
      have hl6 : w6.heap[w1.heap.size + 1 + 1]? = some (.cells #[.slice pl pm cl] 25 (0, 0)) := heap_grown hl hg6 (by simp; omega)
      have y0 := cell_of_heap (o := 0) hl6 rfl
      have y1 := frozen_of_heap (o := 0) hl6
      have how6 : w6.ownsRow (w1.heap.size + 1 + 1) 58 1 (.slice pl pm cl) pm vs := own_typed how fun k c f hk => heap_grown hk hg6 (fun e => by
        simp at e
        subst e
        obtain ⟨q', h8, h9⟩ := hD.mp.obj
        rw [hk] at h8
        cases h8
        cases h9)
      have hsz6 : w1.heap.size + 1 + 1 ≤ w6.heap.size := by have := lt_of_heap hl6; omega
      obtain ⟨i0, hi0, hz0, hz1, hz2⟩ := info_parts Go.Proofs.YtknpglgpkkhhiaaDoor.T.infoDT
      have HZ := Lib.hid (And.intro hi0 (And.intro hz0 (And.intro hz1 hz2)))
      have HD := Lib.hid (And.intro hD (And.intro hg6 (And.intro hm6 (And.intro hl (And.intro hvl (And.intro how (And.intro hdr (And.intro hv hno))))))))
      have HL6 := Lib.hid hl6
      have HLP := Lib.hid hlp
      clear hi0 hz0 hz1 hz2 hD hl how hdr hvl hv hno hex has hset hup hg6 hm6 hs6 hh hpre hlp hl6 hL9
      gi_wp2_with (gi_at_builtin; go_loud (refine wpListIn_append_own _ rfl _ _ 25 rfl (w1.heap.size + 1 + 1) 58 i0 (.slice none 0 0) 1 24 Tryd.underlying25 HZ.out.1 HZ.out.2.1 HZ.out.2.2.1 HZ.out.2.2.2 rfl (by decide) _ _ _ rfl (how6.alloc _) ⟨w6.heap.size, 0, none⟩ 1 1 [.slice q m c] rfl rfl (cell_one_new _ _ _) (fun u hu => by simp at hu; subst hu; rfl) (by unfold maxLen; omega) (by omega) (by simp; omega) ?_); intro v' w9 hown' hgrow hnil9; obtain ⟨q9, c9, rfl⟩ := row_slice hown'; have hg9 := box_grown HL6.out how6 hgrow; have y2 := cell_of_heap (o := 0) hg9 rfl; have y3 := frozen_of_heap (o := 0) hg9; have HG := Lib.hid (And.intro hown' (And.intro hgrow hg9)); clear hown' hgrow hnil9 hg9 y0 y1)
      obtain ⟨hown', hgrow, hg9⟩ := HG.out
      obtain ⟨hD, hg6, hm6, hl, hvl, how, hdr, hv, hno⟩ := HD.out
      have hs := HS.out
      have h9 := RndI.step hD hg6 hm6 hl hvl (by rw [hpn]; exact how) hdr hv hgrow (by rw [hpn]; exact hown') (by omega) rfl rfl (by omega) hno
      exact ⟨h9.1, h9.2.1, (show RndI w w1.heap.size (w1.heap.size + 1) (w1.heap.size + 1 + 1) w5.heap.size h xs (pre ++ [(planS h xs pm, stepE h (planS h xs pm))]).length _ from by rw [HLP.out]; exact h9.2.2)⟩
  case stop =>
    rintro D c pre W hD _ ⟨rfl, i, m, hX⟩ hKD
    obtain ⟨g, cap, hdo, hmc, b1, b2⟩ := hX.row
    have z1 := cell_of_heap (o := 0) b1 rfl
    have z2 := cell_of_heap (o := 0) b2 rfl
    have z3 := cell_of_heap (o := 0) hX.n3 rfl
    have HXX := Lib.hid (And.intro hX (And.intro hdo hmc))
    clear hX hdo hmc b1 b2
    gi_wp2
    refine ⟨by simp, .inl ⟨_, _, rfl, run_takeDeferred hKD, ?_⟩⟩
    obtain ⟨hX, hdo, hmc⟩ := HXX.out
    have hs := HS.out
    have hne : ∀ b, b < w1.heap.size → (W.putObj D (.deferred none)).heap[b]? = W.heap[b]? := fun b hb => World.putObj_heap_other (by omega)
    have q1 := (World.cell?_of_block (w' := W.putObj D (.deferred none)) (a := ⟨w.heap.size + 1, 0, none⟩) (hne _ (by simp; omega))).trans z1
    have q2 := (World.cell?_of_block (w' := W.putObj D (.deferred none)) (a := ⟨w.heap.size + 1 + 1, 0, none⟩) (hne _ (by simp; omega))).trans z2
    have q3 := (World.cell?_of_block (w' := W.putObj D (.deferred none)) (a := ⟨w.heap.size + 1 + 1 + 1, 0, none⟩) (hne _ (by simp; omega))).trans z3
    refine ⟨.tuple #[.slice (some ⟨g, 0, none⟩) i i, .slice (some ⟨g, i, none⟩) (m - i) (cap - i), .int .i64 0], by simp [results, Tryd.f41, go_sem, q1, q2, q3], ⟨i, m, _, _, hX.rd, rfl, ?_, ?_⟩, hX.bel.trans (Below.putNew _ (by omega))⟩
    · have hz := (hdo.put (o' := .deferred none) hKD rfl).part (a := 0) (n := i) (c := i) (by rw [planL_length]; have := hX.rd.1; omega)
      have e : ((planL h xs m).drop 0).take i = planL h xs i := by
        rw [List.drop_zero]
        have := planL_add h xs i (m - i)
        rw [show i + (m - i) = m by have := hX.rd.1; omega] at this
        rw [this, List.take_left' (planL_length h xs i)]
      rw [e] at hz
      exact hz
    · have hz := (hdo.put (o' := .deferred none) hKD rfl).part (a := i) (n := m - i) (c := cap - i) (by rw [planL_length]; have := hX.rd.1; omega)
      have e : ((planL h xs m).drop i).take (m - i) = (planL h xs m).drop i := List.take_of_length_le (by simp [planL_length])
      rw [e] at hz
      exact hz
end Go.Proofs.YtknpglgpkkhhiaaDoor

/- The longest days on which no rick becomes hot: Last. -/
namespace Go.Proofs.YtknpglgpkkhhiaaDoor
set_option linter.unusedSimpArgs false
set_option linter.unusedVariables false
open Go.RowKit Go.Proofs.YtknpglgpkkhhiaaDoor.Free2 Go.Proofs.YtknpglgpkkhhiaaDoor.ML RR
attribute [local go_sem] Oper.semAt_some

theorem keys_small {h : Int} {xs : List Rk} (hw : watchB h xs = true) : (keysY (allY xs)).length ≤ 1296 := by
  have hx1 : ∀ x ∈ xs, 1 ≤ x.2.1 := fun x hx => (watchB_ok hw x hx).2.2.1
  have h1 := nodup_sub_length (A := keysY (allY xs)) (L := (allY xs).map fun ys => q4 (waits ys)) (keysY_ok _).1 fun q hq => by
    obtain ⟨ys, hy, rfl⟩ := ((keysY_ok _).2 q).1 hq
    exact List.mem_map.2 ⟨ys, hy, rfl⟩
  have h2 := (prodE_bound (xs := xs) fun x hx => ⟨(watchB_ok hw x hx).2.2.1, (watchB_ok hw x hx).2.2.2.1⟩).2
  have h4 := (watchB_iff.1 hw).2.1
  have h6 : (6 : Int) ^ xs.length ≤ 1296 := by
    rcases (show xs.length = 0 ∨ xs.length = 1 ∨ xs.length = 2 ∨ xs.length = 3 ∨ xs.length = 4 by omega) with e | e | e | e | e <;> rw [e] <;> decide
  have h7 : (allY xs).length = (prodE xs).toNat := by simp [allY]
  rw [List.length_map] at h1
  omega
/-- A day of the longest ones. -/
theorem last_step {h : Int} {xs zs : List Rk} {L : List Q4} {j : Nat} (hw : watchB h xs = true) (hG : GoodIs h xs j L) (hz : StOf xs zs) (hg : goodN h (j + 1) zs = true) :
    ∃ d, stepS xs (waits zs) L (D7 h xs) = (tset xs d, waits (dayR d zs), true) ∧ turnB h xs d = true ∧ StOf xs (dayR d zs) ∧ goodN h j (dayR d zs) = true ∧ lastL h (j + 1) zs = d :: lastL h j (dayR d zs) := by
  obtain ⟨d, hd, hm, hc, hg'⟩ := good_step hg
  have h1 := stepS_first (h := h) hz.1 L
  have h2 : firstD h (fun zs => decide (q4 (waits zs) ∈ L)) zs = firstD h (goodN h j) zs := firstD_congr hz fun ys hy => hG.has (watchB_iff.1 hw).2.1 hy
  refine ⟨d, by rw [D7, h1, h2, hd], (mem_daysL hw).1 (by rw [← daysL_ids hz.1.ids]; exact hm), hz.day d hc, hg', ?_⟩
  rw [lastL, hd]
  rfl
/-- The days so far, and where they lead. -/
structure LastI (w6 : World) (B7 B9 n0 : Nat) (h : Int) (xs : List Rk) (n m : Nat) (W : World) : Prop where
  bel : Free.Bel w6 W
  sz : n0 ≤ W.heap.size
  le : m ≤ n
  st : ∃ zs ds v, StOf xs zs ∧ goodN h (n - m) zs = true ∧ lastL h n xs = ds ++ lastL h (n - m) zs ∧ ds.length = m ∧ W.heap[B7]? = some (.cells (arrV (waits zs)) 109 (0, 0)) ∧ W.heap[B9]? = some (.cells #[v] 25 (0, 0)) ∧ DO B9 ds v W
theorem LastI.keep {w6 : World} {B7 B9 n0 : Nat} {h : Int} {xs : List Rk} {n m : Nat} {A B : World} (H : LastI w6 B7 B9 n0 h xs n m A) (hB : Free.Bel A B) : LastI w6 B7 B9 n0 h xs n m B :=
  ⟨bt H.bel hB, Nat.le_trans H.sz hB.size, H.le, let ⟨zs, ds, v, a1, a2, a3, a4, a5, a6, a7⟩ := H.st; ⟨zs, ds, v, a1, a2, a3, a4, (hB.block _ (lt_of_heap a5)).trans a5, (hB.block _ (lt_of_heap a6)).trans a6, a7.bel hB⟩⟩
theorem LastI.own {w6 : World} {B7 B9 n0 : Nat} {h : Int} {xs : List Rk} {n m : Nat} {A B : World} {row : Option Nat} (H : LastI w6 B7 B9 n0 h xs n m A) (hg : A.grownBy B row) (hr : ∀ r, row = some r → n0 ≤ r ∧ ∃ o : Obj, A.heap[r]? = some o ∧ o.isCells = false) (h6 : w6.heap.size ≤ n0) (h7 : B7 < n0) (h9 : B9 < n0) : LastI w6 B7 B9 n0 h xs n m B := by
  have hne : ∀ b, b < n0 → some b ≠ row := fun b hb e => by have := (hr _ e.symm).1; omega
  obtain ⟨zs, ds, v, a1, a2, a3, a4, a5, a6, a7⟩ := H.st
  exact ⟨(show Below w6.heap.size w6 A from H.bel).trans (Below.of_grown hg H.bel.size (fun r e => by have := (hr r e).1; omega)), Nat.le_trans H.sz hg.size, H.le, zs, ds, v, a1, a2, a3, a4, heap_grown a5 hg (hne _ h7), heap_grown a6 hg (hne _ h9), a7.own hg hr⟩
/-- The region that takes a day in. -/
structure JL (B7 B9 : Nat) (S RS : Nat → Int) (v0 : Value) (vs : List Value) (ds : List (List Int)) (d : List Int) (X : XT) (W : World) : Prop where
  o4 : X 4 ≠ none → X 3 ≠ none
  o5 : X 5 ≠ none → X 0 ≠ none ∧ X 4 ≠ none
  o7 : X 7 ≠ none → X 5 ≠ none
  o8 : X 8 ≠ none → X 5 ≠ none
  c9 : X 7 = none → W.heap[B9]? = some (.cells #[v0] 25 (0, 0))
  d9 : X 7 ≠ none → ∀ v, X 5 = some v → W.heap[B9]? = some (.cells #[v] 25 (0, 0))
  c7 : X 8 = none → W.heap[B7]? = some (.cells (arrV S) 109 (0, 0))
  d7 : X 8 ≠ none → W.heap[B7]? = some (.cells (arrV RS) 109 (0, 0))
  row : X 5 = none → vs.length = ds.length ∧ W.ownsRow B9 58 1 v0 ds.length vs ∧ ∀ (i : Nat) (h : i < ds.length) u, vs[i]? = some u → DayR ds[i] u W
  id : X 5 = none → ∀ u, X 3 = some u → DayR d u W
  src : X 5 = none → ∀ v, X 4 = some v → ∃ b u, v = .slice (some ⟨b, 0, none⟩) 1 1 ∧ W.cell? ⟨b, 0, none⟩ = some u ∧ X 3 = some u
  now : ∀ v, X 5 = some v → DO B9 (ds ++ [d]) v W
theorem upd_ne {X : XT} {i n : Nat} {v : Value} (h : X i ≠ none) : upd X n v i ≠ none := by unfold upd; split <;> simp_all
section
variable {B7 B9 : Nat} {S RS : Nat → Int} {v0 : Value} {vs : List Value} {ds : List (List Int)} {d : List Int} {X : XT} {W W' : World}
theorem JL.skip (H : JL B7 B9 S RS v0 vs ds d X W) (n : Nat) (v : Value) (hn : n ≠ 3 ∧ n ≠ 4 ∧ n ≠ 5 ∧ n ≠ 7 ∧ n ≠ 8) : JL B7 B9 S RS v0 vs ds d (upd X n v) W := by
  obtain ⟨n3, n4, n5, n7, n8⟩ := hn
  have e3 := upd_other X v (Ne.symm n3)
  have e4 := upd_other X v (Ne.symm n4)
  have e5 := upd_other X v (Ne.symm n5)
  have e7 := upd_other X v (Ne.symm n7)
  have e8 := upd_other X v (Ne.symm n8)
  exact ⟨by rw [e4, e3]; exact H.o4, fun h => ⟨upd_ne (H.o5 (by rwa [e5] at h)).1, upd_ne (H.o5 (by rwa [e5] at h)).2⟩, by rw [e7, e5]; exact H.o7, by rw [e8, e5]; exact H.o8, by rw [e7]; exact H.c9, by rw [e7, e5]; exact H.d9, by rw [e8]; exact H.c7, by rw [e8]; exact H.d7, by rw [e5]; exact H.row, by rw [e5, e3]; exact H.id, by rw [e5, e4, e3]; exact H.src, by rw [e5]; exact H.now⟩
theorem JL.bel (H : JL B7 B9 S RS v0 vs ds d X W) (hB : Free.Bel W W') : JL B7 B9 S RS v0 vs ds d X W' :=
  have kb : ∀ {k : Nat} {o : Obj}, W.heap[k]? = some o → W'.heap[k]? = some o := fun hk => (hB.block _ (lt_of_heap hk)).trans hk
  ⟨H.o4, H.o5, H.o7, H.o8, fun h => kb (H.c9 h), fun h v hv => kb (H.d9 h v hv), fun h => kb (H.c7 h), fun h => kb (H.d7 h), fun h => ⟨(H.row h).1, bel_row (H.row h).2.1 hB, fun i hi u hu => ((H.row h).2.2 i hi u hu).stay fun _ _ _ hk => kb hk⟩, fun h u hu => (H.id h u hu).stay fun _ _ _ hk => kb hk, fun h v hv => let ⟨b, u, h1, h2, h3⟩ := H.src h v hv; ⟨b, u, h1, keepsB hB h2, h3⟩, fun v hv => (H.now v hv).bel hB⟩
theorem JL.no7 (H : JL B7 B9 S RS v0 vs ds d X W) (h : X 5 = none) : X 7 = none ∧ X 8 = none := ⟨by cases h9 : X 7 with | none => rfl | some v => exact absurd h (H.o7 (by rw [h9]; simp)), by cases h9 : X 8 with | none => rfl | some v => exact absurd h (H.o8 (by rw [h9]; simp))⟩
theorem JL.no5 (H : JL B7 B9 S RS v0 vs ds d X W) (h : X 0 = none ∨ X 4 = none) : X 5 = none := by
  cases h9 : X 5 with
  | none => rfl
  | some v =>
    have := H.o5 (by rw [h9]; simp)
    rcases h with h | h
    · exact absurd h this.1
    · exact absurd h this.2
theorem JL.no4 (H : JL B7 B9 S RS v0 vs ds d X W) (h : X 3 = none) : X 4 = none ∧ X 5 = none := by
  have h4 : X 4 = none := by
    cases h9 : X 4 with
    | none => rfl
    | some v => exact absurd h (H.o4 (by rw [h9]; simp))
  exact ⟨h4, H.no5 (.inr h4)⟩
theorem JL.ids (H : JL B7 B9 S RS v0 vs ds d X W) (h3 : X 3 = none) {u : Value} (hB : Free.Bel W W') (hd : DayR d u W') : JL B7 B9 S RS v0 vs ds d (upd X 3 u) W' := by
  have G := H.bel hB
  obtain ⟨h4, h5⟩ := H.no4 h3
  have e4 := upd_other X u (show (4 : Nat) ≠ 3 by decide)
  have e5 := upd_other X u (show (5 : Nat) ≠ 3 by decide)
  have e7 := upd_other X u (show (7 : Nat) ≠ 3 by decide)
  have e8 := upd_other X u (show (8 : Nat) ≠ 3 by decide)
  exact ⟨fun h => absurd h4 (by rwa [e4] at h), fun h => absurd h5 (by rwa [e5] at h), by rw [e7, e5]; exact G.o7, by rw [e8, e5]; exact G.o8, by rw [e7]; exact G.c9, by rw [e7, e5]; exact G.d9, by rw [e8]; exact G.c7, by rw [e8]; exact G.d7, by rw [e5]; exact G.row, fun _ u' hu => by rw [upd_same] at hu; cases hu; exact hd, fun _ v hv => (by rw [e4, h4] at hv; cases hv), by rw [e5]; exact G.now⟩
theorem JL.made (H : JL B7 B9 S RS v0 vs ds d X W) (h5 : X 5 = none) {b : Nat} {u : Value} (hB : Free.Bel W W') (h3 : X 3 = some u) (hc : W'.cell? ⟨b, 0, none⟩ = some u) : JL B7 B9 S RS v0 vs ds d (upd X 4 (.slice (some ⟨b, 0, none⟩) 1 1)) W' := by
  have G := H.bel hB
  have e3 := upd_other X (.slice (some ⟨b, 0, none⟩) 1 1) (show (3 : Nat) ≠ 4 by decide)
  have e5 := upd_other X (.slice (some ⟨b, 0, none⟩) 1 1) (show (5 : Nat) ≠ 4 by decide)
  have e7 := upd_other X (.slice (some ⟨b, 0, none⟩) 1 1) (show (7 : Nat) ≠ 4 by decide)
  have e8 := upd_other X (.slice (some ⟨b, 0, none⟩) 1 1) (show (8 : Nat) ≠ 4 by decide)
  exact ⟨fun _ => by rw [e3, h3]; simp, fun h => absurd h5 (by rwa [e5] at h), by rw [e7, e5]; exact G.o7, by rw [e8, e5]; exact G.o8, by rw [e7]; exact G.c9, by rw [e7, e5]; exact G.d9, by rw [e8]; exact G.c7, by rw [e8]; exact G.d7, by rw [e5]; exact G.row, by rw [e5, e3]; exact G.id, fun _ v hv => by rw [upd_same] at hv; cases hv; exact ⟨b, u, rfl, hc, by rw [e3]; exact h3⟩, by rw [e5]; exact G.now⟩
theorem JL.app (H : JL B7 B9 S RS v0 vs ds d X W) (h5 : X 5 = none) (h0 : X 0 ≠ none) (h4 : X 4 ≠ none) {v' u : Value} (h3 : X 3 = some u) (hB7 : B7 < B9) (hg : W.grownBy W' v0.ownBlock) (ho : W'.ownsRow B9 58 1 v' (ds.length + 1) (vs ++ [u])) : JL B7 B9 S RS v0 vs ds d (upd X 5 v') W' := by
  have e0 := upd_other X v' (show (0 : Nat) ≠ 5 by decide)
  have e4 := upd_other X v' (show (4 : Nat) ≠ 5 by decide)
  have e3 := upd_other X v' (show (3 : Nat) ≠ 5 by decide)
  have e7 := upd_other X v' (show (7 : Nat) ≠ 5 by decide)
  have e8 := upd_other X v' (show (8 : Nat) ≠ 5 by decide)
  obtain ⟨h7, h8⟩ := H.no7 h5
  obtain ⟨hl, how, hdr⟩ := H.row h5
  have hne : ∀ {k : Nat} {c : Array Value} {t : TypeId} {f : Nat × Nat}, t ≠ 58 → W.heap[k]? = some (.cells c t f) → W'.heap[k]? = some (.cells c t f) := fun {k c t f} ht hk => heap_grown hk hg fun e => by
    rcases how.2 with ⟨h9, _⟩ | ⟨g, cap, cur, h9, _, hg2, _⟩
    · rw [h9] at e; simp [Value.ownBlock] at e
    · rw [h9] at e
      simp [Value.ownBlock] at e
      subst e
      rw [hk] at hg2
      cases hg2
      exact ht rfl
  have h9 := hne (by decide) (H.c9 h7)
  refine ⟨fun _ => by rw [e3, h3]; simp, fun _ => ⟨by rw [e0]; exact h0, by rw [e4]; exact h4⟩, fun _ => by rw [upd_same]; simp, fun _ => by rw [upd_same]; simp, fun _ => h9, fun h => absurd h7 (by rwa [e7] at h), fun _ => hne (by decide) (H.c7 h8), fun h => absurd h8 (by rwa [e8] at h), fun h => (by rw [upd_same] at h; cases h), fun h => (by rw [upd_same] at h; cases h), fun h => (by rw [upd_same] at h; cases h), fun v hv => ?_⟩
  rw [upd_same] at hv
  cases hv
  exact DO.snoc hl how hdr (H.id h5 u h3) hg ho
theorem JL.put9 (H : JL B7 B9 S RS v0 vs ds d X W) (h7 : X 7 = none) {v v1 : Value} (h5 : X 5 = some v) (hB7 : B7 < B9) : JL B7 B9 S RS v0 vs ds d (upd X 7 v1) (W.setCell ⟨B9, 0, none⟩ v) := by
  have e0 := upd_other X v1 (show (0 : Nat) ≠ 7 by decide)
  have e3 := upd_other X v1 (show (3 : Nat) ≠ 7 by decide)
  have e4 := upd_other X v1 (show (4 : Nat) ≠ 7 by decide)
  have e5 := upd_other X v1 (show (5 : Nat) ≠ 7 by decide)
  have e8 := upd_other X v1 (show (8 : Nat) ≠ 7 by decide)
  have hb := H.c9 h7
  have h9 := heap_setCell_same (o := 0) v hb
  have ho : ∀ (k : Nat) c t f, t ≠ 25 → W.heap[k]? = some (.cells c t f) → (W.setCell ⟨B9, 0, none⟩ v).heap[k]? = some (.cells c t f) := fun k c t f ht hk => heap_other hk fun e => by
    simp at e; subst e; rw [hb] at hk; cases hk; exact ht rfl
  refine ⟨by rw [e4, e3]; exact H.o4, fun h => ⟨by rw [e0]; exact (H.o5 (by rwa [e5] at h)).1, by rw [e4]; exact (H.o5 (by rwa [e5] at h)).2⟩, fun _ => by rw [e5, h5]; simp, by rw [e8, e5]; exact H.o8, fun h => (by rw [upd_same] at h; cases h), fun _ v' hv => by rw [e5, h5] at hv; cases hv; simpa using h9, fun h => ho _ _ _ _ (by decide) (H.c7 (by rwa [e8] at h)), fun h => ho _ _ _ _ (by decide) (H.d7 (by rwa [e8] at h)), fun h => (by rw [e5, h5] at h; cases h), fun h => (by rw [e5, h5] at h; cases h), fun h => (by rw [e5, h5] at h; cases h), fun v' hv => ?_⟩
  have hn := H.now v' (by rwa [e5] at hv)
  exact hn.stay (fun k c f hk => ho k c _ f (by decide) hk) fun k c f hk => ho k c _ f (by decide) hk
theorem four_put {b : Nat} {S RS : Nat → Int} (h : W.heap[b]? = some (.cells (arrV S) 109 (0, 0))) : ((((W.setCell ⟨b, 0, none⟩ (.int .i64 (RS 0))).setCell ⟨b, 1, none⟩ (.int .i64 (RS 1))).setCell ⟨b, 2, none⟩ (.int .i64 (RS 2))).setCell ⟨b, 3, none⟩ (.int .i64 (RS 3))).heap[b]? = some (.cells (arrV RS) 109 (0, 0)) := four_heap (x0 := .int .i64 (RS 0)) (x1 := .int .i64 (RS 1)) (x2 := .int .i64 (RS 2)) (x3 := .int .i64 (RS 3)) h
theorem JL.put7 (H : JL B7 B9 S RS v0 vs ds d X W) (h8 : X 8 = none) (h5 : X 5 ≠ none) {v1 : Value} (hB7 : B7 < B9) : JL B7 B9 S RS v0 vs ds d (upd X 8 v1) ((((W.setCell ⟨B7, 0, none⟩ (.int .i64 (RS 0))).setCell ⟨B7, 1, none⟩ (.int .i64 (RS 1))).setCell ⟨B7, 2, none⟩ (.int .i64 (RS 2))).setCell ⟨B7, 3, none⟩ (.int .i64 (RS 3))) := by
  have e0 := upd_other X v1 (show (0 : Nat) ≠ 8 by decide)
  have e3 := upd_other X v1 (show (3 : Nat) ≠ 8 by decide)
  have e4 := upd_other X v1 (show (4 : Nat) ≠ 8 by decide)
  have e5 := upd_other X v1 (show (5 : Nat) ≠ 8 by decide)
  have e7 := upd_other X v1 (show (7 : Nat) ≠ 8 by decide)
  have hb := H.c7 h8
  have h9 := four_put (RS := RS) hb
  have ho : ∀ (k : Nat) c t f, t ≠ 109 → W.heap[k]? = some (.cells c t f) → ((((W.setCell ⟨B7, 0, none⟩ (.int .i64 (RS 0))).setCell ⟨B7, 1, none⟩ (.int .i64 (RS 1))).setCell ⟨B7, 2, none⟩ (.int .i64 (RS 2))).setCell ⟨B7, 3, none⟩ (.int .i64 (RS 3))).heap[k]? = some (.cells c t f) := fun k c t f ht hk => by
    have hne : k ≠ B7 := fun e => by subst e; rw [hb] at hk; cases hk; exact ht rfl
    exact heap_other (heap_other (heap_other (heap_other hk (by simpa using hne)) (by simpa using hne)) (by simpa using hne)) (by simpa using hne)
  refine ⟨by rw [e4, e3]; exact H.o4, fun h => ⟨by rw [e0]; exact (H.o5 (by rwa [e5] at h)).1, by rw [e4]; exact (H.o5 (by rwa [e5] at h)).2⟩, by rw [e7, e5]; exact H.o7, fun _ => by rw [e5]; exact h5, fun h => ho _ _ _ _ (by decide) (H.c9 (by rwa [e7] at h)), fun h v hv => ho _ _ _ _ (by decide) (H.d9 (by rwa [e7] at h) v (by rwa [e5] at hv)), fun h => (by rw [upd_same] at h; cases h), fun _ => h9, fun h => absurd (by rwa [e5] at h) h5, fun h => absurd (by rwa [e5] at h) h5, fun h => absurd (by rwa [e5] at h) h5, fun v hv => ?_⟩
  exact (H.now v (by rwa [e5] at hv)).stay (fun k c f hk => ho k c _ f (by decide) hk) fun k c f hk => ho k c _ f (by decide) hk
end
theorem RX.less {s0 s1 : Nat} {bs : List Nat} {a b : World} (h : RX s0 bs a b) (hs : s1 ≤ s0) : RX s1 bs a b := ⟨h.os, h.tape, h.output, h.size, fun k h1 h2 => h.block k (by omega) h2⟩
theorem JL.start {B7 B9 : Nat} {S RS : Nat → Int} {v0 : Value} {vs : List Value} {ds : List (List Int)} {d : List Int} {W : World} (h9 : W.heap[B9]? = some (.cells #[v0] 25 (0, 0))) (h7 : W.heap[B7]? = some (.cells (arrV S) 109 (0, 0))) (hr : vs.length = ds.length ∧ W.ownsRow B9 58 1 v0 ds.length vs ∧ ∀ (i : Nat) (h : i < ds.length) u, vs[i]? = some u → DayR ds[i] u W) : JL B7 B9 S RS v0 vs ds d (fun _ => none) W :=
  ⟨fun h => absurd rfl h, fun h => absurd rfl h, fun h => absurd rfl h, fun h => absurd rfl h, fun _ => h9, fun h => absurd rfl h, fun _ => h7, fun h => absurd rfl h, fun _ => hr, (fun _ u hu => (by cases hu)), (fun _ v hv => (by cases hv)), fun v hv => (by cases hv)⟩
theorem RX.row {s0 n : Nat} {B7 B9 : Nat} {v0 : Value} {vs : List Value} {W W' : World} (ho : W.ownsRow B9 58 1 v0 n vs) (hg : W.grownBy W' v0.ownBlock) (hs : s0 ≤ W.heap.size) : RX s0 (B9 :: B7 :: v0.ownBlock.toList) W W' :=
  ⟨hg.os, hg.tape, hg.output, hg.size, fun k hk hn => hg.block k (by omega) fun e => hn (by rw [← e]; simp)⟩
theorem cell_one_add {b : Nat} {u : Value} {W : World} (h : W.cell? ⟨b, 0, none⟩ = some u) : ∀ (j : Nat) u', [u][j]? = some u' → W.cell? ((⟨b, 0, none⟩ : Addr).add j) = some u' := fun j u' hj => by
  match j, hj with
  | 0, hj => simp at hj; subst hj; simpa [Addr.add] using h
theorem rx_kp {B7 B9 n0 n : Nat} {v0 : Value} {vs : List Value} {c7 c9 : Array Value} {f7 f9 : Nat × Nat} {W W' : World} (how : W.ownsRow B9 58 1 v0 n vs) (h7 : W.heap[B7]? = some (.cells c7 109 f7)) (h9 : W.heap[B9]? = some (.cells c9 25 f9)) (h79 : B7 < B9) (hR : RX W.heap.size (B9 :: B7 :: v0.ownBlock.toList) W W') : KeepsFrom n0 W W' ∧ KP B7 [B7, B9] W W' := by
  have key : ∀ (k : Nat) (o : Obj), W.heap[k]? = some o → k ≠ B7 → k ≠ B9 → (k < B7 ∨ ∀ c f, o ≠ .cells c 58 f) → W'.heap[k]? = some o := fun k o hk h1 h2 h3 => (hR.block k (lt_of_heap hk) (by
    simp only [List.mem_cons, not_or]
    refine ⟨h2, h1, ?_⟩
    rcases how.2 with ⟨h9, _⟩ | ⟨g, cap, cur, h9, hb, hg2, _⟩
    · rw [h9]; simp [Value.ownBlock]
    · rw [h9]
      simp [Value.ownBlock]
      rintro rfl
      rcases h3 with h3 | h3
      · omega
      · rw [hk] at hg2
        cases hg2
        exact h3 _ _ rfl)).trans hk
  refine ⟨⟨hR.size, fun k o _ hk hc => key k o hk ?_ ?_ (.inr ?_)⟩, hR.os, hR.tape, hR.output, hR.size, fun k o hk hc => ?_⟩
  · rintro rfl; rw [h7] at hk; cases hk; cases hc
  · rintro rfl; rw [h9] at hk; cases hk; cases hc
  · rintro c f rfl; cases hc
  · rcases hc with hc | ⟨_, hc, ht⟩
    · exact key k o hk (by omega) (by omega) (.inl hc)
    · simp at hc
      exact key k o hk hc.1 hc.2 (.inr ht)
end Go.Proofs.YtknpglgpkkhhiaaDoor

/- The longest days: the walk. -/
namespace Go.Proofs.YtknpglgpkkhhiaaDoor
set_option linter.unusedSimpArgs false
set_option linter.unusedVariables false
open Go.RowKit Go.Proofs.YtknpglgpkkhhiaaDoor.Free2 Go.Proofs.YtknpglgpkkhhiaaDoor.ML RR
attribute [local go_sem] Oper.semAt_some

theorem slice_low (g m cap i : Nat) (h : i ≤ cap) (W : World) : (Instr.slice 137 (.slice (some ⟨g, 0, none⟩) m cap) none (some (.int .i64 i)) none).run Tryd.prog W = .ok (.slice (some ⟨g, 0, none⟩) i cap) W := by
  have h1 : (0 : Int) ≤ i := by omega
  have h2 : (i : Int) ≤ cap := by omega
  have hs : (sizeOf 139).run Tryd.prog W = .ok 1 W := by kernel_rfl
  simp [Instr.slice, run_underlying Tryd.underlying137, Instr.sliceBounds, run_sliceBound, h1, h2, hs]
  intro h9
  simp [Addr.add]
noncomputable def lastE (h : Int) (xs : List Rk) : Int := open Classical in if watchB h xs = true then (if everB h xs = true then 6 else 0) else 70
/-- What Last tells. -/
def LastPost (h : Int) (xs : List Rk) (c : Int) (w : World) (e : Ending) (w' : World) : Prop :=
  (c ≠ 0 ∧ e = .returned (.tuple #[.slice none 0 0, .int .i64 c])) ∨ (c = 0 ∧ ∃ n v, n ≤ 1296 ∧ goodN h n xs = true ∧ goodN h (n + 1) xs = false ∧ e = .returned (.tuple #[v, .int .i64 0]) ∧ DO w.heap.size (lastL h n xs) v w')
set_option maxRecDepth 100000 in
set_option maxHeartbeats 16000000 in
theorem last_a (h : Int) (xs : List Rk) (u : Value) (w : World) (hT : TabR w) (hu : RL xs u w) (hw : watchB h xs = false) :
    Calls Tryd.prog 47 #[.agg #[.int .i64 h, u]] w fun e w' => e = .returned (.tuple #[.slice none 0 0, .int .i64 70]) ∧ Below w.heap.size w w' := by
  have HU := Lib.hid hu
  obtain ⟨p, cp, rfl, _, _⟩ := hu
  have KB : Free.Bel w (w.alloc (.cells #[.int .i64 h, .slice p xs.length cp] 24)) := belAlloc _ _
  have m0 : (w.alloc (.cells #[.int .i64 h, .slice p xs.length cp] 24)).heap[w.heap.size]? = some (.cells #[.int .i64 h, .slice p xs.length cp] 24 (0, 0)) := World.alloc_heap_new w _
  have FA : ∀ W, Free.Bel (w.alloc (.cells #[.int .i64 h, .slice p xs.length cp] 24)) W → W.cell? ⟨w.heap.size, 0, none⟩ = some (.int .i64 h) ∧ W.cell? ⟨w.heap.size, 1, none⟩ = some (.slice p xs.length cp) := fun W hW => ⟨keepsB hW (cell_of_heap m0 rfl), keepsB hW (cell_of_heap m0 rfl)⟩
  have KE : Free.Bel (w.alloc (.cells #[.int .i64 h, .slice p xs.length cp] 24)) (w.alloc (.cells #[.int .i64 h, .slice p xs.length cp] 24)) := Free.Bel.refl _
  have HKB := Lib.hid KB
  have HCK := Lib.hid (checkP_v h xs _ (w.alloc (.cells #[.int .i64 h, .slice p xs.length cp] 24)) (hT.bel KB) (HU.out.keeps KB) 70 (by show _ = _; simp [hw]))
  clear hT hw m0
  go_enter Tryd.func47, Tryd.ntmps47
  go_wp2_with fail
  refine HCK.out.mono ?_
  rintro e w1 ⟨rfl, hB1⟩
  have HB := Lib.hid (bt KB hB1)
  clear hB1
  go_wp2_with fail
  go_ret2
  exact ⟨rfl, HB.out⟩
set_option maxRecDepth 100000 in
set_option maxHeartbeats 16000000 in
theorem last_b (h : Int) (xs : List Rk) (u : Value) (w : World) (hT : TabR w) (hu : RL xs u w) (hw : watchB h xs = true) (he : everB h xs = true) :
    Calls Tryd.prog 47 #[.agg #[.int .i64 h, u]] w fun e w' => e = .returned (.tuple #[.slice none 0 0, .int .i64 6]) ∧ Below w.heap.size w w' := by
  have HU := Lib.hid hu
  obtain ⟨p, cp, rfl, _, _⟩ := hu
  have KB : Free.Bel w (w.alloc (.cells #[.int .i64 h, .slice p xs.length cp] 24)) := belAlloc _ _
  have m0 : (w.alloc (.cells #[.int .i64 h, .slice p xs.length cp] 24)).heap[w.heap.size]? = some (.cells #[.int .i64 h, .slice p xs.length cp] 24 (0, 0)) := World.alloc_heap_new w _
  have FA : ∀ W, Free.Bel (w.alloc (.cells #[.int .i64 h, .slice p xs.length cp] 24)) W → W.cell? ⟨w.heap.size, 0, none⟩ = some (.int .i64 h) ∧ W.cell? ⟨w.heap.size, 1, none⟩ = some (.slice p xs.length cp) := fun W hW => ⟨keepsB hW (cell_of_heap m0 rfl), keepsB hW (cell_of_heap m0 rfl)⟩
  have KE : Free.Bel (w.alloc (.cells #[.int .i64 h, .slice p xs.length cp] 24)) (w.alloc (.cells #[.int .i64 h, .slice p xs.length cp] 24)) := Free.Bel.refl _
  have HKB := Lib.hid KB
  have HCK := Lib.hid (checkP_v h xs _ (w.alloc (.cells #[.int .i64 h, .slice p xs.length cp] 24)) (hT.bel KB) (HU.out.keeps KB) 0 (by show _ = _; simp [hw]))
  have H4 := Lib.hid (watchB_iff.1 hw).2.1
  have HX := Lib.hid (watchB_ok hw)
  have HST := Lib.hid (st_self hw)
  have HWE := Lib.hid (And.intro hw he)
  clear hT hw he m0
  go_enter Tryd.func47, Tryd.ntmps47
  go_wp2_with fail
  refine HCK.out.mono ?_
  rintro e w1 ⟨rfl, hB1⟩
  have HB1 := Lib.hid (bt HKB.out hB1)
  have K1 : Free.Bel (w.alloc (.cells #[.int .i64 h, .slice p xs.length cp] 24)) w1 := hB1
  clear hB1
  go_wp2_with fail
  refine (begun_any h xs _ w1 (HU.out.keeps (bt HKB.out K1)) HWE.out.1).mono ?_
  rintro e w2 ⟨yb, gb, dv, v, rfl, hyw, hm, hy1, hy2, hy3, hB2⟩
  have hB12 : Free.Bel w w2 := bt (bt HKB.out K1) hB2
  have hgl := hm.lt
  have hmo := (show MapIs quadV gb _ (w2.alloc (.cells #[.pointer (some ⟨yb, 0, none⟩)] 108)) from hm.bel (belAlloc _ _)).obj
  have hyl := lt_of_cell hyw.c1
  have hlb : ((w2.alloc (.cells #[.pointer (some ⟨yb, 0, none⟩)] 108)).alloc (.cells #[.slice none 0 0] 137)).heap[w2.heap.size + 1]? = some (.cells #[.slice none 0 0] 137 (0, 0)) := by
    have := World.alloc_heap_new (w2.alloc (.cells #[.pointer (some ⟨yb, 0, none⟩)] 108)) (.cells #[.slice none 0 0] 137)
    simpa using this
  have h5b : (w2.alloc (.cells #[.pointer (some ⟨yb, 0, none⟩)] 108)).heap[w2.heap.size]? = some (.cells #[.pointer (some ⟨yb, 0, none⟩)] 108 (0, 0)) := World.alloc_heap_new w2 _
  have HSET := Lib.hid (settle_told yb gb (w2.heap.size + 1) h xs v dv _ (w2.alloc (.cells #[.pointer (some ⟨yb, 0, none⟩)] 108)) ((w2.alloc (.cells #[.pointer (some ⟨yb, 0, none⟩)] 108)).alloc (.cells #[.slice none 0 0] 137)) (hyw.kc (.of_bel (belAlloc _ _))) (hm.bel (belAlloc _ _)) (belAlloc _ _) hlb (by simp) H4.out (fun x hx => (HX.out x hx).2.2.2.1) (keysY_good fun x hx => (HX.out x hx).2.2.1) (keys_small HWE.out.1))
  have HALL := Lib.hid (And.intro hB12 (And.intro h5b (And.intro hgl (And.intro hyw.c1 (And.intro hyw (And.intro hy2 (And.intro hmo hyl)))))))
  clear hyw hm hy1 hy2 hy3 hB2 hB12 hgl hyl hmo h5b hlb FA KE KB K1
  go_wp2_with fail
  refine HSET.out.mono ?_
  rintro e w5 ⟨⟨x, rfl⟩, K, gs, tv, L, hK, hE, hM, hG, hTl, hstay⟩
  obtain ⟨hB12, h5b, hgl, hc1, hyw, hgy, hmo, hyl⟩ := HALL.out
  have hgw : w.heap.size ≤ gb := Nat.le_trans (by have := (show Free.Bel w w1 from HB1.out).size; exact this) hgy
  have h5 : w5.heap[w2.heap.size]? = some (.cells #[.pointer (some ⟨yb, 0, none⟩)] 108 (0, 0)) := heap_grown h5b hG (by simp; omega)
  have hyw5 : YW yb gb h xs v dv w5 := (hyw.kc (.of_bel (belAlloc _ _))).kc ((fun ⟨o, h1, h2⟩ => KC.of_grown hG h1 h2) hmo)
  have HYE := Lib.hid (show YE yb gb h xs v dv L w5 from ⟨hyw5, hM, hE⟩)
  have hB5 : Below w.heap.size w w5 := Below.trans (show Below w.heap.size w (w2.alloc (.cells #[.pointer (some ⟨yb, 0, none⟩)] 108)) from bt hB12 (belAlloc _ _)) (Below.of_grown hG (by have := hB12.size; simp; omega) (fun r e => by cases e; exact hgw))
  have hsz5 : w2.heap.size + 2 ≤ w5.heap.size := by have := lt_of_heap hTl.box; omega
  have HTL := Lib.hid (And.intro hTl (And.intro hK (And.intro hstay (And.intro hB5 (And.intro h5 (And.intro hsz5 (hB12.size)))))))
  have c5 := cell_of_heap (o := 0) h5 rfl
  clear hE hM hG hTl hstay hK hB5 h5 hsz5 hB12 h5b hgl hc1 hyw hgy hmo hyl hyw5 hgw
  go_wp2_with fail
  refine (now_any yb xs v w5 HYE.out.yw.c1 HYE.out.yw.rl H4.out).mono ?_
  rintro e w6 ⟨rfl, hB6⟩
  have hB6 : Free.Bel w5 w6 := hB6
  have HK6 := Lib.hid hB6
  clear c5 hB6
  go_wp2_with fail
  have KA : Free.Bel w6 (w6.alloc (.cells (arrV (waits xs)) 109)) := belAlloc _ _
  have hFB : ∀ W, Free.Bel (w6.alloc (.cells (arrV (waits xs)) 109)).drew W → Free.Bel w6 W := fun W hW => bt KA (bt (Bel.drewT (Free.Bel.refl _)) hW)
  have m7 : (w6.alloc (.cells (arrV (waits xs)) 109)).heap[w6.heap.size]? = some (.cells (arrV (waits xs)) 109 (0, 0)) := World.alloc_heap_new w6 _
  have HM7 := Lib.hid m7
  have hF : ∀ W, Free.Bel (w6.alloc (.cells (arrV (waits xs)) 109)).drew W → (W.cell? ⟨w2.heap.size, 0, none⟩ = some (.pointer (some ⟨yb, 0, none⟩)) ∧ W.cell? ⟨yb, 2, none⟩ = some (.map (some gb)) ∧ (Instr.lookup 139 (.map (some gb)) (.agg #[.int .i64 (waits xs 0), .int .i64 (waits xs 1), .int .i64 (waits xs 2), .int .i64 (waits xs 3)]) false).run Tryd.prog W = .ok (.bool true) W ∧ (W.cell? ⟨w6.heap.size, 0, none⟩ = some (.int .i64 (waits xs 0)) ∧ W.cell? ⟨w6.heap.size, 1, none⟩ = some (.int .i64 (waits xs 1)) ∧ W.cell? ⟨w6.heap.size, 2, none⟩ = some (.int .i64 (waits xs 2)) ∧ W.cell? ⟨w6.heap.size, 3, none⟩ = some (.int .i64 (waits xs 3)))) := fun W hW => by
    have h1 := HYE.out.bel (bt HK6.out (hFB W hW))
    have h2 := h1.has H4.out HST.out
    rw [HWE.out.2] at h2
    have hd : Free.Bel (w6.alloc (.cells (arrV (waits xs)) 109)) W := bt (Bel.drewT (Free.Bel.refl _)) hW
    obtain ⟨z0, z1, z2, z3, _⟩ := cells4 ((hd.block _ (lt_of_heap HM7.out)).trans HM7.out)
    exact ⟨keepsB (bt HK6.out (hFB W hW)) (cell_of_heap HTL.out.2.2.2.2.1 rfl), h1.yw.c2, h2, z0, z1, z2, z3⟩
  refine Free.wp_free (R := Free.Bel) (by kernel_rfl) (by kernel_rfl) Free.Bel.refl Free.Bel.trans ?_
  refine Free.Chain.ex ?_ [] [5] (by kernel_rfl) (by kernel_rfl) rfl Free.Bel.refl ?_ ?_
  rotate_left
  · (intro ev W hb hR hO hD; have hS := hF W hR; obtain ⟨hb1, hb2, hb3⟩ := hb; simp only [Free.AllDeps, Free.AllOuts, Free.At, al1, al2, al3, al4, al5, and_true] at hO hD; go_simp; rfl)
  simp only [an1, an2]
  refine Free.Chain.ex ?_ [(0, 27)] [] (by kernel_rfl) (by kernel_rfl) rfl Free.Bel.refl ?_ ?_
  rotate_left
  · (intro ev W hb hR hO hD; have hS := hF W hR; obtain ⟨hb1, hb2, hb3⟩ := hb; simp only [Free.AllDeps, Free.AllOuts, Free.At, al1, al2, al3, al4, al5, and_true] at hO hD; go_simp; rfl)
  simp only [an1, an2]
  refine Free.Chain.ex ?_ [(1, 28)] [] (by kernel_rfl) (by kernel_rfl) rfl Free.Bel.refl ?_ ?_
  rotate_left
  · (intro ev W hb hR hO hD; have hS := hF W hR; obtain ⟨hb1, hb2, hb3⟩ := hb; simp only [Free.AllDeps, Free.AllOuts, Free.At, al1, al2, al3, al4, al5, and_true] at hO hD; go_simp; rfl)
  simp only [an1, an2]
  refine Free.Chain.ex ?_ [(2, 29)] [] (by kernel_rfl) (by kernel_rfl) rfl Free.Bel.refl ?_ ?_
  rotate_left
  · (intro ev W hb hR hO hD; have hS := hF W hR; obtain ⟨hb1, hb2, hb3⟩ := hb; simp only [Free.AllDeps, Free.AllOuts, Free.At, al1, al2, al3, al4, al5, and_true] at hO hD; go_simp; rfl)
  simp only [an1, an2]
  refine Free.Chain.ex ?_ [] [7] (by kernel_rfl) (by kernel_rfl) rfl Free.Bel.refl ?_ ?_
  rotate_left
  · (intro ev W hb hR hO hD; have hS := hF W hR; obtain ⟨hb1, hb2, hb3⟩ := hb; simp only [Free.AllDeps, Free.AllOuts, Free.At, al1, al2, al3, al4, al5, and_true] at hO hD; go_simp; rfl)
  simp only [an1, an2]
  refine Free.Chain.ex ?_ [(3, 30), (4, 31)] [] (by kernel_rfl) (by kernel_rfl) rfl Free.Bel.refl ?_ ?_
  rotate_left
  · (intro ev W hb hR hO hD; have hS := hF W hR; obtain ⟨hb1, hb2, hb3⟩ := hb; simp only [Free.AllDeps, Free.AllOuts, Free.At, al1, al2, al3, al4, al5, and_true] at hO hD; go_simp; rfl)
  simp only [an1, an2]
  intro ys w8 hR hV
  simp only [Free.AllV, Free.At, List.length_cons, List.length_nil, Nat.reduceAdd, List.getElem?_cons_succ, List.getElem?_cons_zero, true_and, and_true] at hV
  simp only [Free.putsFrom, Act.put, Nat.zero_add, Nat.reduceAdd, hV, List.setIfInBounds_toArray, List.set_cons_succ, List.set_cons_zero]
  have HB8 := Lib.hid (show Free.Bel (w6.alloc (.cells (arrV (waits xs)) 109)) w8 from bt (Bel.drewT (Free.Bel.refl _)) hR)
  clear hR hV hF hFB KA m7
  have HBW := Lib.hid (HTL.out.2.2.2.1.trans (Below.mono (bt HK6.out (bt (belAlloc _ _) HB8.out)) HTL.out.2.2.2.1.size))
  go_wp2_with fail
  go_ret2
  exact ⟨rfl, HBW.out⟩
end Go.Proofs.YtknpglgpkkhhiaaDoor

/- The longest days: the walk through the days. -/
namespace Go.Proofs.YtknpglgpkkhhiaaDoor
set_option linter.unusedSimpArgs false
set_option linter.unusedVariables false
open Go.RowKit Go.Proofs.YtknpglgpkkhhiaaDoor.Free2 Go.Proofs.YtknpglgpkkhhiaaDoor.ML RR
attribute [local go_sem] Oper.semAt_some

set_option maxRecDepth 100000 in
set_option maxHeartbeats 32000000 in
theorem last_c (h : Int) (xs : List Rk) (u : Value) (w : World) (hT : TabR w) (hu : RL xs u w) (hw : watchB h xs = true) (he : everB h xs = false) :
    Calls Tryd.prog 47 #[.agg #[.int .i64 h, u]] w fun e w' => (∃ n v, n ≤ 1296 ∧ goodN h n xs = true ∧ goodN h (n + 1) xs = false ∧ e = .returned (.tuple #[v, .int .i64 0]) ∧ DO w.heap.size (lastL h n xs) v w') ∧ Below w.heap.size w w' := by
  have HU := Lib.hid hu
  obtain ⟨p, cp, rfl, _, _⟩ := hu
  have KB : Free.Bel w (w.alloc (.cells #[.int .i64 h, .slice p xs.length cp] 24)) := belAlloc _ _
  have m0 : (w.alloc (.cells #[.int .i64 h, .slice p xs.length cp] 24)).heap[w.heap.size]? = some (.cells #[.int .i64 h, .slice p xs.length cp] 24 (0, 0)) := World.alloc_heap_new w _
  have FA : ∀ W, Free.Bel (w.alloc (.cells #[.int .i64 h, .slice p xs.length cp] 24)) W → W.cell? ⟨w.heap.size, 0, none⟩ = some (.int .i64 h) ∧ W.cell? ⟨w.heap.size, 1, none⟩ = some (.slice p xs.length cp) := fun W hW => ⟨keepsB hW (cell_of_heap m0 rfl), keepsB hW (cell_of_heap m0 rfl)⟩
  have KE : Free.Bel (w.alloc (.cells #[.int .i64 h, .slice p xs.length cp] 24)) (w.alloc (.cells #[.int .i64 h, .slice p xs.length cp] 24)) := Free.Bel.refl _
  have HKB := Lib.hid KB
  have HCK := Lib.hid (checkP_v h xs _ (w.alloc (.cells #[.int .i64 h, .slice p xs.length cp] 24)) (hT.bel KB) (HU.out.keeps KB) 0 (by show _ = _; simp [hw]))
  have H4 := Lib.hid (watchB_iff.1 hw).2.1
  have HX := Lib.hid (watchB_ok hw)
  have HST := Lib.hid (st_self hw)
  have HWE := Lib.hid (And.intro hw he)
  clear hT hw he m0
  have hmx : Tryd.prog.follows .mixedOrders = true := by kernel_rfl
  refine (callsIn_wide (n := 5)).1 ?_
  refine callsIn_of_wp_marks Tryd.func47 rfl trivial ?_ rfl
  simp only [Tryd.ntmps47, List.size_toArray, List.length_cons, List.length_nil, Nat.reduceAdd, Nat.reduceSub, Array.replicate_succ, Array.replicate_zero, List.push_toArray, List.append_toArray, an1, an2]
  refine wpIn_wide.2 ?_
  go_wp2_with fail
  refine HCK.out.mono ?_
  rintro e w1 ⟨rfl, hB1⟩
  have HB1 := Lib.hid (bt HKB.out hB1)
  have K1 : Free.Bel (w.alloc (.cells #[.int .i64 h, .slice p xs.length cp] 24)) w1 := hB1
  clear hB1
  go_wp2_with fail
  refine (begun_any h xs _ w1 (HU.out.keeps (bt HKB.out K1)) HWE.out.1).mono ?_
  rintro e w2 ⟨yb, gb, dv, v, rfl, hyw, hm, hy1, hy2, hy3, hB2⟩
  have hB12 : Free.Bel w w2 := bt (bt HKB.out K1) hB2
  have hgl := hm.lt
  have hmo := (show MapIs quadV gb _ (w2.alloc (.cells #[.pointer (some ⟨yb, 0, none⟩)] 108)) from hm.bel (belAlloc _ _)).obj
  have hyl := lt_of_cell hyw.c1
  have hlb : ((w2.alloc (.cells #[.pointer (some ⟨yb, 0, none⟩)] 108)).alloc (.cells #[.slice none 0 0] 137)).heap[w2.heap.size + 1]? = some (.cells #[.slice none 0 0] 137 (0, 0)) := by
    have := World.alloc_heap_new (w2.alloc (.cells #[.pointer (some ⟨yb, 0, none⟩)] 108)) (.cells #[.slice none 0 0] 137)
    simpa using this
  have h5b : (w2.alloc (.cells #[.pointer (some ⟨yb, 0, none⟩)] 108)).heap[w2.heap.size]? = some (.cells #[.pointer (some ⟨yb, 0, none⟩)] 108 (0, 0)) := World.alloc_heap_new w2 _
  have HSET := Lib.hid (settle_told yb gb (w2.heap.size + 1) h xs v dv _ (w2.alloc (.cells #[.pointer (some ⟨yb, 0, none⟩)] 108)) ((w2.alloc (.cells #[.pointer (some ⟨yb, 0, none⟩)] 108)).alloc (.cells #[.slice none 0 0] 137)) (hyw.kc (.of_bel (belAlloc _ _))) (hm.bel (belAlloc _ _)) (belAlloc _ _) hlb (by simp) H4.out (fun x hx => (HX.out x hx).2.2.2.1) (keysY_good fun x hx => (HX.out x hx).2.2.1) (keys_small HWE.out.1))
  have HALL := Lib.hid (And.intro hB12 (And.intro h5b (And.intro hgl (And.intro hyw.c1 (And.intro hyw (And.intro hy2 (And.intro hmo hyl)))))))
  clear hyw hm hy1 hy2 hy3 hB2 hB12 hgl hyl hmo h5b hlb FA KE KB K1
  go_wp2_with fail
  refine HSET.out.mono ?_
  rintro e w5 ⟨⟨xv, rfl⟩, K, gs, tv, L, hK, hE, hM, hG, hTl, hstay⟩
  obtain ⟨hB12, h5b, hgl, hc1, hyw, hgy, hmo, hyl⟩ := HALL.out
  have hgw : w.heap.size ≤ gb := Nat.le_trans (by have := (show Free.Bel w w1 from HB1.out).size; exact this) hgy
  have h5 : w5.heap[w2.heap.size]? = some (.cells #[.pointer (some ⟨yb, 0, none⟩)] 108 (0, 0)) := heap_grown h5b hG (by simp; omega)
  have hyw5 : YW yb gb h xs v dv w5 := (hyw.kc (.of_bel (belAlloc _ _))).kc ((fun ⟨o, h1, h2⟩ => KC.of_grown hG h1 h2) hmo)
  have HYE := Lib.hid (show YE yb gb h xs v dv L w5 from ⟨hyw5, hM, hE⟩)
  have hB5 : Below w.heap.size w w5 := Below.trans (show Below w.heap.size w (w2.alloc (.cells #[.pointer (some ⟨yb, 0, none⟩)] 108)) from bt hB12 (belAlloc _ _)) (Below.of_grown hG (by have := hB12.size; simp; omega) (fun r e => by cases e; exact hgw))
  have hsz5 : w2.heap.size + 2 ≤ w5.heap.size := by have := lt_of_heap hTl.box; omega
  have HTL := Lib.hid (And.intro hTl (And.intro hK (And.intro hstay (And.intro hB5 (And.intro h5 (And.intro hsz5 (hB12.size)))))))
  have c5 := cell_of_heap (o := 0) h5 rfl
  clear hE hM hG hTl hstay hK hB5 h5 hsz5 hB12 h5b hgl hc1 hyw hgy hmo hyl hyw5 hgw
  go_wp2_with fail
  refine (now_any yb xs v w5 HYE.out.yw.c1 HYE.out.yw.rl H4.out).mono ?_
  rintro e w6 ⟨rfl, hB6⟩
  have hB6 : Free.Bel w5 w6 := hB6
  have HK6 := Lib.hid hB6
  clear c5 hB6
  go_wp2_with fail
  have KA : Free.Bel w6 (w6.alloc (.cells (arrV (waits xs)) 109)) := belAlloc _ _
  have hFB : ∀ W, Free.Bel (w6.alloc (.cells (arrV (waits xs)) 109)).drew W → Free.Bel w6 W := fun W hW => bt KA (bt (Bel.drewT (Free.Bel.refl _)) hW)
  have m7 : (w6.alloc (.cells (arrV (waits xs)) 109)).heap[w6.heap.size]? = some (.cells (arrV (waits xs)) 109 (0, 0)) := World.alloc_heap_new w6 _
  have HM7 := Lib.hid m7
  have hF : ∀ W, Free.Bel (w6.alloc (.cells (arrV (waits xs)) 109)).drew W → (W.cell? ⟨w2.heap.size, 0, none⟩ = some (.pointer (some ⟨yb, 0, none⟩)) ∧ W.cell? ⟨yb, 2, none⟩ = some (.map (some gb)) ∧ (Instr.lookup 139 (.map (some gb)) (.agg #[.int .i64 (waits xs 0), .int .i64 (waits xs 1), .int .i64 (waits xs 2), .int .i64 (waits xs 3)]) false).run Tryd.prog W = .ok (.bool false) W ∧ (W.cell? ⟨w6.heap.size, 0, none⟩ = some (.int .i64 (waits xs 0)) ∧ W.cell? ⟨w6.heap.size, 1, none⟩ = some (.int .i64 (waits xs 1)) ∧ W.cell? ⟨w6.heap.size, 2, none⟩ = some (.int .i64 (waits xs 2)) ∧ W.cell? ⟨w6.heap.size, 3, none⟩ = some (.int .i64 (waits xs 3)))) := fun W hW => by
    have h1 := HYE.out.bel (bt HK6.out (hFB W hW))
    have h2 := h1.has H4.out HST.out
    rw [HWE.out.2] at h2
    have hd : Free.Bel (w6.alloc (.cells (arrV (waits xs)) 109)) W := bt (Bel.drewT (Free.Bel.refl _)) hW
    obtain ⟨z0, z1, z2, z3, _⟩ := cells4 ((hd.block _ (lt_of_heap HM7.out)).trans HM7.out)
    exact ⟨keepsB (bt HK6.out (hFB W hW)) (cell_of_heap HTL.out.2.2.2.2.1 rfl), h1.yw.c2, h2, z0, z1, z2, z3⟩
  refine Free.wp_free (R := Free.Bel) (by kernel_rfl) (by kernel_rfl) Free.Bel.refl Free.Bel.trans ?_
  refine Free.Chain.ex ?_ [] [5] (by kernel_rfl) (by kernel_rfl) rfl Free.Bel.refl ?_ ?_
  rotate_left
  · (intro ev W hb hR hO hD; have hS := hF W hR; obtain ⟨hb1, hb2, hb3⟩ := hb; simp only [Free.AllDeps, Free.AllOuts, Free.At, al1, al2, al3, al4, al5, and_true] at hO hD; go_simp; rfl)
  simp only [an1, an2]
  refine Free.Chain.ex ?_ [(0, 27)] [] (by kernel_rfl) (by kernel_rfl) rfl Free.Bel.refl ?_ ?_
  rotate_left
  · (intro ev W hb hR hO hD; have hS := hF W hR; obtain ⟨hb1, hb2, hb3⟩ := hb; simp only [Free.AllDeps, Free.AllOuts, Free.At, al1, al2, al3, al4, al5, and_true] at hO hD; go_simp; rfl)
  simp only [an1, an2]
  refine Free.Chain.ex ?_ [(1, 28)] [] (by kernel_rfl) (by kernel_rfl) rfl Free.Bel.refl ?_ ?_
  rotate_left
  · (intro ev W hb hR hO hD; have hS := hF W hR; obtain ⟨hb1, hb2, hb3⟩ := hb; simp only [Free.AllDeps, Free.AllOuts, Free.At, al1, al2, al3, al4, al5, and_true] at hO hD; go_simp; rfl)
  simp only [an1, an2]
  refine Free.Chain.ex ?_ [(2, 29)] [] (by kernel_rfl) (by kernel_rfl) rfl Free.Bel.refl ?_ ?_
  rotate_left
  · (intro ev W hb hR hO hD; have hS := hF W hR; obtain ⟨hb1, hb2, hb3⟩ := hb; simp only [Free.AllDeps, Free.AllOuts, Free.At, al1, al2, al3, al4, al5, and_true] at hO hD; go_simp; rfl)
  simp only [an1, an2]
  refine Free.Chain.ex ?_ [] [7] (by kernel_rfl) (by kernel_rfl) rfl Free.Bel.refl ?_ ?_
  rotate_left
  · (intro ev W hb hR hO hD; have hS := hF W hR; obtain ⟨hb1, hb2, hb3⟩ := hb; simp only [Free.AllDeps, Free.AllOuts, Free.At, al1, al2, al3, al4, al5, and_true] at hO hD; go_simp; rfl)
  simp only [an1, an2]
  refine Free.Chain.ex ?_ [(3, 30), (4, 31)] [] (by kernel_rfl) (by kernel_rfl) rfl Free.Bel.refl ?_ ?_
  rotate_left
  · (intro ev W hb hR hO hD; have hS := hF W hR; obtain ⟨hb1, hb2, hb3⟩ := hb; simp only [Free.AllDeps, Free.AllOuts, Free.At, al1, al2, al3, al4, al5, and_true] at hO hD; go_simp; rfl)
  simp only [an1, an2]
  intro ys w8 hR hV
  simp only [Free.AllV, Free.At, List.length_cons, List.length_nil, Nat.reduceAdd, List.getElem?_cons_succ, List.getElem?_cons_zero, true_and, and_true] at hV
  simp only [Free.putsFrom, Act.put, Nat.zero_add, Nat.reduceAdd, hV, List.setIfInBounds_toArray, List.set_cons_succ, List.set_cons_zero]
  have HB8 := Lib.hid (show Free.Bel (w6.alloc (.cells (arrV (waits xs)) 109)) w8 from bt (Bel.drewT (Free.Bel.refl _)) hR)
  clear hR hV hF hFB KA m7
  have hE0 : goodN h K xs = false := by
    rw [good_ever HTL.out.2.2.1 xs HST.out]
    exact HWE.out.2
  have HE0 := Lib.hid hE0
  obtain ⟨NN, hNN⟩ : ∃ y, y = K + 1 := ⟨_, rfl⟩
  have HNN := Lib.hid hNN
  have HT8 := Lib.hid (HTL.out.1.bel (bt HK6.out (bt (belAlloc _ _) HB8.out)))
  obtain ⟨g, cap, cur, rfl, hgB, hgO, hgc1, hgc2, hgc3, hgcs⟩ := HTL.out.1.row.2.resolve_left (fun h9 => by have := h9.2; omega)
  rw [← hNN] at HT8
  have HGW := Lib.hid (And.intro (lt_of_heap hgO) hgc1)
  clear hE0 hNN hgB hgO hgc1 hgc2 hgc3 hgcs
  have HB5 := Lib.hid (And.intro HTL.out.2.2.2.1 (And.intro HTL.out.2.2.2.2.1 (And.intro HTL.out.2.2.2.2.2.1 HTL.out.2.2.2.2.2.2)))
  have HKK := Lib.hid (And.intro HTL.out.2.1 HTL.out.2.2.1)
  rw [← HNN.out] at HTL
  go_wp2_with fail
  go_loopw [8] (fun i wr => ∃ m : Nat, m < K ∧ i = .int .i64 m ∧ goodN h m xs = true ∧ Free.Bel w8 wr) (fun i _ => K - (intOf i).toNat)
  case atStart => exact ⟨0, by
    rcases Nat.eq_zero_or_pos K with h0 | h0
    · have h1 := HE0.out
      rw [h0] at h1
      cases h1
    · exact h0, rfl, rfl, Free.Bel.refl _⟩
  case round =>
    obtain ⟨m, hmK, rfl, hgm, hBr⟩ := hrel
    have HT9 := Lib.hid (HT8.out.bel hBr)
    have H7r := Lib.hid ((bt HB8.out hBr).block _ (lt_of_heap HM7.out) |>.trans HM7.out)
    have hlen : gs.length = NN := HT9.out.len
    obtain ⟨hbm, L9, hL9, hM9⟩ := HT9.out.maps (m + 1) (by have := HNN.out; omega)
    obtain ⟨gm, hgm9⟩ : ∃ y, gs[m + 1]'(by have := HNN.out; omega) = y := ⟨_, rfl⟩
    rw [hgm9] at hM9 hbm
    have hcm : wr.cell? ⟨g, m + 1, none⟩ = some (.map (some gm)) := by
      have h1 := HT9.out.row.cells (g := g) rfl (m + 1) (mapV gm) (by rw [List.getElem?_map, List.getElem?_eq_getElem (by have := HNN.out; omega), hgm9]; rfl)
      rw [addE] at h1
      simpa using h1
    obtain ⟨r, hr⟩ : ∃ r, goodN h (m + 1) xs = r := ⟨_, rfl⟩
    have hF : ∀ W, Free.Bel wr.drew W → (W.cell? ⟨w2.heap.size + 1, 0, none⟩ = some (.slice (some ⟨g, 0, none⟩) NN cap) ∧ W.cell? ⟨g, m + 1, none⟩ = some (.map (some gm)) ∧ (Instr.lookup 139 (.map (some gm)) (.agg #[.int .i64 (waits xs 0), .int .i64 (waits xs 1), .int .i64 (waits xs 2), .int .i64 (waits xs 3)]) false).run Tryd.prog W = .ok (.bool r) W ∧ (W.cell? ⟨w6.heap.size, 0, none⟩ = some (.int .i64 (waits xs 0)) ∧ W.cell? ⟨w6.heap.size, 1, none⟩ = some (.int .i64 (waits xs 1)) ∧ W.cell? ⟨w6.heap.size, 2, none⟩ = some (.int .i64 (waits xs 2)) ∧ W.cell? ⟨w6.heap.size, 3, none⟩ = some (.int .i64 (waits xs 3)))) := fun W hW => by
      have hd : Free.Bel wr W := bt (Bel.drewT (Free.Bel.refl _)) hW
      have h2 := good_lookup (hM9.bel hd) (waits xs)
      rw [hL9.has H4.out HST.out, hr] at h2
      obtain ⟨z0, z1, z2, z3, _⟩ := cells4 ((hd.block _ (lt_of_heap H7r.out)).trans H7r.out)
      exact ⟨keepsB hd (cell_of_heap HT9.out.box rfl), keepsB hd hcm, h2, z0, z1, z2, z3⟩
    have hmn : m + 1 < NN := by have := HNN.out; omega
    have hmw : IntKind.i64.wrap ((m : Int) + 1) = (m : Int) + 1 := IntWalk.i64_in _ (by have := HKK.out.1; omega)
    have hd1 : decide ((m : Int) + 1 < (NN : Int)) = true := decide_eq_true (by omega)
    have hd2 : (0 : Int) ≤ (m : Int) + 1 := by omega
    have hd3 : (m : Int) + 1 < (NN : Int) := by omega
    have hd4 : ((m : Int) + 1).toNat = m + 1 := by omega
    have HMM := Lib.hid (And.intro hmK (And.intro hgm (And.intro hBr hr)))
    clear hbm hL9 hM9 hgm9 hcm hmK hgm hBr hr hlen
    go_wp2_with fail
    refine Free.wp_free (R := Free.Bel) (by kernel_rfl) (by kernel_rfl) Free.Bel.refl Free.Bel.trans ?_
    refine Free.Chain.ex ?_ [] [8] (by kernel_rfl) (by kernel_rfl) rfl Free.Bel.refl ?_ ?_
    rotate_left
    · (intro ev W hb hR hO hD; have hS := hF W hR; obtain ⟨hb1, hb2, hb3⟩ := hb; simp only [Free.AllDeps, Free.AllOuts, Free.At, al1, al2, al3, al4, al5, and_true] at hO hD; go_simp; rfl)
    simp only [an1, an2]
    refine Free.Chain.ex ?_ [(0, 33)] [] (by kernel_rfl) (by kernel_rfl) rfl Free.Bel.refl ?_ ?_
    rotate_left
    · (intro ev W hb hR hO hD; have hS := hF W hR; obtain ⟨hb1, hb2, hb3⟩ := hb; simp only [Free.AllDeps, Free.AllOuts, Free.At, al1, al2, al3, al4, al5, and_true] at hO hD; go_simp; rfl)
    simp only [an1, an2]
    refine Free.Chain.ex ?_ [] [6] (by kernel_rfl) (by kernel_rfl) rfl Free.Bel.refl ?_ ?_
    rotate_left
    · (intro ev W hb hR hO hD; have hS := hF W hR; obtain ⟨hb1, hb2, hb3⟩ := hb; simp only [Free.AllDeps, Free.AllOuts, Free.At, al1, al2, al3, al4, al5, and_true] at hO hD; go_simp; rfl)
    simp only [an1, an2]
    refine Free.Chain.ex ?_ [(2, 35)] [] (by kernel_rfl) (by kernel_rfl) rfl Free.Bel.refl ?_ ?_
    rotate_left
    · (intro ev W hb hR hO hD; have hS := hF W hR; obtain ⟨hb1, hb2, hb3⟩ := hb; simp only [Free.AllDeps, Free.AllOuts, Free.At, al1, al2, al3, al4, al5, and_true] at hO hD; go_simp; rfl)
    simp only [an1, an2]
    refine Free.Chain.ex ?_ [(1, 34), (3, 36)] [] (by kernel_rfl) (by kernel_rfl) rfl Free.Bel.refl ?_ ?_
    rotate_left
    · (intro ev W hb hR hO hD; have hS := hF W hR; obtain ⟨hb1, hb2, hb3⟩ := hb; simp only [Free.AllDeps, Free.AllOuts, Free.At, al1, al2, al3, al4, al5, and_true] at hO hD; go_simp; rfl)
    simp only [an1, an2]
    refine Free.Chain.ex ?_ [(4, 37)] [] (by kernel_rfl) (by kernel_rfl) rfl Free.Bel.refl ?_ ?_
    rotate_left
    · (intro ev W hb hR hO hD; have hS := hF W hR; obtain ⟨hb1, hb2, hb3⟩ := hb; simp only [Free.AllDeps, Free.AllOuts, Free.At, al1, al2, al3, al4, al5, and_true] at hO hD; go_simp; rfl)
    simp only [an1, an2]
    refine Free.Chain.exG ?_ [(5, 38)] [6] 5 true 38 (by kernel_rfl) (by kernel_rfl) rfl (by kernel_rfl) Free.Bel.refl ?_ ?_
    rotate_left
    · (intro ev W hb hR hO hD; have hS := hF W hR; obtain ⟨hb1, hb2, hb3⟩ := hb; simp only [Free.AllDeps, Free.AllOuts, Free.At, al1, al2, al3, al4, al5, and_true] at hO hD; refine ⟨by simp [hD], ?_⟩; go_simp; rfl)
    simp only [an1, an2]
    refine Free.Chain.exG ?_ [(5, 38)] [8] 5 true 38 (by kernel_rfl) (by kernel_rfl) rfl (by kernel_rfl) Free.Bel.refl ?_ ?_
    rotate_left
    · (intro ev W hb hR hO hD; have hS := hF W hR; obtain ⟨hb1, hb2, hb3⟩ := hb; simp only [Free.AllDeps, Free.AllOuts, Free.At, al1, al2, al3, al4, al5, and_true] at hO hD; refine ⟨by simp [hD], ?_⟩; go_simp; rfl)
    simp only [an1, an2]
    refine Free.Chain.exG ?_ [(7, 40), (5, 38)] [] 5 true 38 (by kernel_rfl) (by kernel_rfl) rfl (by kernel_rfl) Free.Bel.refl ?_ ?_
    rotate_left
    · (intro ev W hb hR hO hD; have hS := hF W hR; obtain ⟨hb1, hb2, hb3⟩ := hb; simp only [Free.AllDeps, Free.AllOuts, Free.At, al1, al2, al3, al4, al5, and_true] at hO hD; refine ⟨by simp [hD], ?_⟩; go_simp; rfl)
    simp only [an1, an2]
    refine Free.Chain.exG ?_ [(6, 39), (8, 41), (5, 38)] [] 5 true 38 (by kernel_rfl) (by kernel_rfl) rfl (by kernel_rfl) Free.Bel.refl ?_ ?_
    rotate_left
    · (intro ev W hb hR hO hD; have hS := hF W hR; obtain ⟨hb1, hb2, hb3⟩ := hb; simp only [Free.AllDeps, Free.AllOuts, Free.At, al1, al2, al3, al4, al5, and_true] at hO hD; refine ⟨by simp [hD], ?_⟩; go_simp; rfl)
    simp only [an1, an2]
    refine Free.Chain.exG ?_ [(9, 42), (5, 38)] [] 5 true 38 (by kernel_rfl) (by kernel_rfl) rfl (by kernel_rfl) Free.Bel.refl ?_ ?_
    rotate_left
    · (intro ev W hb hR hO hD; have hS := hF W hR; obtain ⟨hb1, hb2, hb3⟩ := hb; simp only [Free.AllDeps, Free.AllOuts, Free.At, al1, al2, al3, al4, al5, and_true] at hO hD; refine ⟨by simp [hD], ?_⟩; go_simp; rfl)
    simp only [an1, an2]
    refine Free.Chain.exG ?_ [(5, 38)] [7] 5 true 38 (by kernel_rfl) (by kernel_rfl) rfl (by kernel_rfl) Free.Bel.refl ?_ ?_
    rotate_left
    · (intro ev W hb hR hO hD; have hS := hF W hR; obtain ⟨hb1, hb2, hb3⟩ := hb; simp only [Free.AllDeps, Free.AllOuts, Free.At, al1, al2, al3, al4, al5, and_true] at hO hD; refine ⟨by simp [hD], ?_⟩; go_simp; rfl)
    simp only [an1, an2]
    refine Free.Chain.exG ?_ [(10, 43), (11, 44), (5, 38)] [] 5 true 38 (by kernel_rfl) (by kernel_rfl) rfl (by kernel_rfl) Free.Bel.refl ?_ ?_
    rotate_left
    · (intro ev W hb hR hO hD; have hS := hF W hR; obtain ⟨hb1, hb2, hb3⟩ := hb; simp only [Free.AllDeps, Free.AllOuts, Free.At, al1, al2, al3, al4, al5, and_true] at hO hD; refine ⟨by simp [hD], ?_⟩; go_simp; rfl)
    simp only [an1, an2]
    refine Free.Chain.ex ?_ [(5, 38), (12, 45)] [] (by kernel_rfl) (by kernel_rfl) rfl Free.Bel.refl ?_ ?_
    rotate_left
    · (intro ev W hb hR hO hD; have hS := hF W hR; obtain ⟨hb1, hb2, hb3⟩ := hb; simp only [Free.AllDeps, Free.AllOuts, Free.At, al1, al2, al3, al4, al5, and_true] at hO hD; go_simp; rfl)
    simp only [an1, an2]
    intro ys w9 hR hV
    simp only [Free.AllV, Free.At, List.length_cons, List.length_nil, Nat.reduceAdd, List.getElem?_cons_succ, List.getElem?_cons_zero, true_and, and_true] at hV
    simp only [Free.putsFrom, Act.put, Nat.zero_add, Nat.reduceAdd, hV, List.setIfInBounds_toArray, List.set_cons_succ, List.set_cons_zero]
    have HB9 := Lib.hid (show Free.Bel w8 w9 from bt HMM.out.2.2.1 (bt (Bel.drewT (Free.Bel.refl _)) hR))
    clear hR hV hF
    cases r with
    | true =>
      have hmK1 : m + 1 < K := by
        have h1 := HMM.out.2.2.2
        have h2 := HE0.out
        have h3 := HMM.out.1
        rcases Nat.lt_or_ge (m + 1) K with h9 | h9
        · exact h9
        · obtain rfl : K = m + 1 := by omega
          rw [h1] at h2
          cases h2
      have HMK1 := Lib.hid hmK1
      clear hmK1
      go_wp2_with fail
      go_roundw
      case rel => exact ⟨m + 1, HMK1.out, by go_num, HMM.out.2.2.2, HB9.out⟩
      case measure => have := HMM.out.1; simp [intOf]; omega
    | false =>
      have hsl : ∀ W, (Instr.slice 137 (.slice (some ⟨g, 0, none⟩) NN cap) none (some (.int .i64 m)) none).run Tryd.prog W = .ok (.slice (some ⟨g, 0, none⟩) m cap) W := fun W => slice_low g NN cap m (by
        have h1 := HT9.out.row
        have h2 := HGW.out.2
        have h3 := HMM.out.1
        omega) W
      have KL : Free.Bel w9 (w9.alloc (.cells #[.slice none 0 0] 25)) := belAlloc _ _
      have c6 : (w9.alloc (.cells #[.slice none 0 0] 25)).cell? ⟨w2.heap.size + 1, 0, none⟩ = some (.slice (some ⟨g, 0, none⟩) NN cap) := keepsB (bt HB9.out KL) (cell_of_heap HT8.out.box rfl)
      have mL : (w9.alloc (.cells #[.slice none 0 0] 25)).heap[w9.heap.size]? = some (.cells #[.slice none 0 0] 25 (0, 0)) := World.alloc_heap_new w9 _
      have HML := Lib.hid mL
      clear mL
      go_wp2_with fail
      clear c6 hsl
      refine (backM_any _ _ _ _).mono ?_
      rintro e wb ⟨rfl, hwb⟩
      go_wp2_with fail
      have HWB := Lib.hid hwb
      have hml : (gs.take m).length = m := by rw [List.length_take, HT8.out.len]; have := HNN.out; have := HMM.out.1; omega
      have hBI : BackI (w9.heap.size + 1) g cap (gs.take m) wb := by
        refine ⟨?_, fun j hj => ?_⟩
        · rw [hml, ← hwb]
          have := World.alloc_heap_new (w9.alloc (.cells #[.slice none 0 0] 25)) (.cells #[.slice (some ⟨g, 0, none⟩) m cap] 137)
          simpa using this
        · rw [hml] at hj
          have h0 : j < gs.length := by rw [HT8.out.len]; have := HNN.out; have := HMM.out.1; omega
          have h1 := HT8.out.row.cells (g := g) rfl j (mapV gs[j]) (by rw [List.getElem?_map, List.getElem?_eq_getElem h0]; rfl)
          rw [addE] at h1
          have h2 : (gs.take m).getD j 0 = gs[j] := by rw [List.getD_eq_getElem?_getD, List.getElem?_take_of_lt hj, List.getElem?_eq_getElem h0]; rfl
          rw [h2, ← hwb]
          exact keepsB (bt HB9.out (bt (belAlloc _ _) (belAlloc _ _))) (by simpa using h1)
      have hszb : wb.heap.size = w9.heap.size + 2 := by rw [← hwb]; simp
      have hK69 : Free.Bel w6 w9 := bt (belAlloc _ _) (bt HB8.out HB9.out)
      have h69 : w6.heap.size < w9.heap.size := by have := (bt HB8.out HB9.out).size; simp at this; omega
      have hgw6 : g < w6.heap.size := by have := HGW.out.1; have := HK6.out.size; omega
      have HS := Lib.hid (And.intro hszb (And.intro h69 hgw6))
      have hseq : SeqL Fence.wide (5 - 1) Tryd.prog 109 #[.pointer (some ⟨w9.heap.size + 1, 0, none⟩)] encM Free.Bel (KP w6.heap.size [w6.heap.size, w9.heap.size]) (revM (gs.take m) (gs.take m).length) wb := fun l J Jx W hW hJ hJx hY h0 =>
        backM1_in (5 - 1) l (w9.heap.size + 1) g cap (gs.take m) (by omega) W (by rw [hml]; have := HMM.out.1; have := HKK.out.1; omega) ⟨(hW.block _ (lt_of_heap hBI.1)).trans hBI.1, fun j hj => keepsB hW (hBI.2 j hj)⟩ J Jx (KP w6.heap.size [w6.heap.size, w9.heap.size]) (fun A B hA hk => ⟨hk.keep _ _ hA.1 (.inr ⟨rfl, by simp; omega, fun c f e => by cases e⟩), fun j hj => by
          have h1 := hA.2 j hj
          have h2 := lt_of_cell h1
          have h3 : A.heap[g]? = some A.heap[g] := Array.getElem?_eq_getElem h2
          exact (World.cell?_of_block (w := A) (w' := B) (a := ⟨g, j, none⟩) ((hk.keep g _ h3 (.inl hgw6)).trans h3.symm)).trans h1⟩) hY h0
      have HSEQ := Lib.hid hseq
      have HI := Lib.hid (show LastI w6 w6.heap.size w9.heap.size wb.heap.size h xs m 0 wb from ⟨bt hK69 (by rw [← hwb]; exact bt (belAlloc _ _) (belAlloc _ _)), Nat.le_refl _, Nat.zero_le _, xs, [], .slice none 0 0, HST.out, HMM.out.2.1, rfl, rfl, by
          have h1 := ((bt HB8.out HB9.out).block _ (lt_of_heap HM7.out)).trans HM7.out
          rw [← hwb]
          exact heap_old (heap_old h1), by rw [← hwb]; exact heap_old HML.out, DO.nil _ _⟩)
      have HML2 := Lib.hid hml
      clear hwb hBI hszb hK69 h69 hgw6 hseq hml
      refine (wpIn_wide (n := 5)).1 ?_
      refine wpIn_rangeFunc_R (F := Fence.wide) (n := 5) rfl (by omega) (gf := 109) (lb := #[.pointer (some ⟨w9.heap.size + 1, 0, none⟩)]) rfl trivial (enters_of Tryd.func109 (by kernel_rfl) rfl)
        HSEQ.out (fun A o _ h => bt h (belAlloc A o)) (Free.Bel.refl _) (fun A B k o h _ hA => (h.block k (lt_of_heap hA)).trans hA) KP.trans (fun W l o o' hl h hc _ => KP.put h hc (by have := HS.out; omega)) (fun x => rfl)
        (fun pre W => LastI w6 w6.heap.size w9.heap.size wb.heap.size h xs m pre.length W) (fun _ _ _ => False) ?own ?ownx ?abide ?abidex HI.out
        (fun x => { tmps := #[.agg #[.int .i64 h, .slice p xs.length cp], .pointer (some ⟨w.heap.size, 0, none⟩), .slice none 0 0, .int .i64 0, .int .i64 0, .pointer (some ⟨w2.heap.size, 0, none⟩), .pointer (some ⟨w2.heap.size + 1, 0, none⟩), .pointer (some ⟨w6.heap.size, 0, none⟩), .int .i64 m, .pointer (some ⟨w9.heap.size, 0, none⟩), undef, .map (some x.2), undef, undef, undef, .agg #[.int .i64 h, .slice p xs.length cp], .int .i64 0, .int .i64 0, .bool false, undef, .agg #[.int .i64 h, .slice p xs.length cp], .pointer (some ⟨yb, 0, none⟩), .pointer (some ⟨yb, 0, none⟩), .func (.func 91) #[] #[.pointer (some ⟨w2.heap.size + 1, 0, none⟩)], xv, .pointer (some ⟨yb, 0, none⟩), stV (waits xs), .pointer (some ⟨yb, 0, none⟩), .pointer (some ⟨yb, 0, none⟩), .pointer (some ⟨yb, 2, none⟩), .map (some gb), .agg #[.int .i64 (waits xs 0), .int .i64 (waits xs 1), .int .i64 (waits xs 2), .int .i64 (waits xs 3)], .bool false, .int .i64 m, .int .i64 (m + 1), .slice (some ⟨g, 0, none⟩) NN cap, .int .i64 NN, .bool true, .bool true, .slice (some ⟨g, 0, none⟩) NN cap, .int .i64 m, .int .i64 (m + 1), .pointer (some ⟨g, m + 1, none⟩), .map (some gm), .agg #[.int .i64 (waits xs 0), .int .i64 (waits xs 1), .int .i64 (waits xs 2), .int .i64 (waits xs 3)], .bool false, .bool false, u47, u48, .slice (some ⟨g, 0, none⟩) NN cap, .int .i64 m, .slice (some ⟨g, 0, none⟩) m cap, .func (.func 109) #[] #[.pointer (some ⟨w9.heap.size + 1, 0, none⟩)], .int .i64 x.1, .map (some x.2), undef, undef, undef, undef, undef, undef, undef, undef, undef, undef, undef, undef, undef, undef, undef, undef], defers := [] })
        ?assign ?body ?done ?stop
      case own =>
        rintro pre A B row h1 hgr hrow
        have hs := HS.out
        exact h1.own hgr hrow (by omega) (by omega) (by omega)
      case ownx => rintro c pre A B row h1 _ _; exact h1
      case abide => rintro pre A B h1 hR; exact h1.keep hR
      case abidex => rintro c pre A B h1 _; exact h1
      case assign =>
        rintro l x W K hK
        gi_wp2
        exact hK
      case body =>
        rintro l pre x W hI hpre
        obtain ⟨hpl, hx⟩ := revM_at hpre
        obtain ⟨x1, x2⟩ := x
        obtain ⟨pm, hpm⟩ : ∃ y, pre.length = y := ⟨_, rfl⟩
        rw [HML2.out] at hpl hx
        have hlp : (pre ++ [(x1, x2)]).length = pm + 1 := by simp [hpm]
        rw [hpm] at hI hpl hx
        obtain ⟨j, hj⟩ : ∃ j, m - pm = j + 1 := ⟨m - pm - 1, by omega⟩
        have hj1 : m - (pm + 1) = j := by omega
        have hj2 : j < gs.length := by rw [HT8.out.len]; have := HNN.out; have := HMM.out.1; omega
        rw [hj1] at hx
        have hx2 : x2 = gs[j] := by
          have h1 := (Prod.mk.inj hx).2
          rw [h1, List.getD_eq_getElem?_getD, List.getElem?_take_of_lt (by omega), List.getElem?_eq_getElem hj2]
          rfl
        obtain ⟨hb9, Lj, hLj, hMj⟩ := (HTL.out.1.bel (bt HK6.out hI.bel)).maps j (by exact hj2)
        obtain ⟨zs, ds, vl, hz, hg9, hl9, hdl, hB7, hB9, hdo⟩ := hI.st
        rw [hj] at hg9 hl9
        obtain ⟨d, hst, htn, hzd, hgd, hld⟩ := last_step HWE.out.1 hLj hz hg9
        rw [← hx2] at hMj
        have hye := HYE.out.bel (bt HK6.out hI.bel)
        have HSC := Lib.hid (step_any yb x2 xs (waits zs) (D7 h xs) Lj v dv W hye.yw.c1 hye.yw.c3 hye.yw.rl hye.yw.tl hMj H4.out (waits_st hz fun x hx => (HX.out x hx).2.2.2.1) (tset xs d) (waits (dayR d zs)) true (Lib.hid hst))
        have c5 : W.cell? ⟨w2.heap.size, 0, none⟩ = some (.pointer (some ⟨yb, 0, none⟩)) := keepsB (bt HK6.out hI.bel) (cell_of_heap HB5.out.2.1 rfl)
        have HID := Lib.hid (fun W' (hW : Free.Bel w6 W') => ids_any yb xs (tset xs d) v W' (HYE.out.bel (bt HK6.out hW)).yw.c1 (HYE.out.bel (bt HK6.out hW)).yw.rl H4.out)
        obtain ⟨S, hS⟩ : ∃ y, waits zs = y := ⟨_, rfl⟩
        obtain ⟨RS, hRS⟩ : ∃ y, waits (dayR d zs) = y := ⟨_, rfl⟩
        have HIDS := Lib.hid (ids_tset HWE.out.1 htn)
        obtain ⟨RTn, hRT⟩ : ∃ y, tset xs d = y := ⟨_, rfl⟩
        rw [hS, hRS, hRT] at HSC
        rw [hRT] at HID HIDS
        rw [hS] at hB7
        have HF := Lib.hid (And.intro hI (And.intro hz (And.intro hl9 (And.intro hdl (And.intro hB7 (And.intro hB9 (And.intro hdo (And.intro hzd (And.intro hgd (And.intro hld (And.intro hRS hlp)))))))))))
        obtain ⟨S0, S1, S2, S3, _⟩ := cells4 hB7
        dsimp only
        clear hpl hx hpre hpm hI hj2 hx2 hb9 hLj hMj hz hg9 hl9 hdl hB7 hB9 hdo hst htn hzd hgd hld hye hS hRS hRT hlp
        gi_wp2
        refine ⟨trivial, ?_⟩
        refine (CallsIn.inRound l (callsIn_wide.2 HSC.out)).mono ?_
        rintro e W1 ⟨rfl, hB1⟩
        have hB1 : Free.Bel W W1 := hB1
        clear c5 S0 S1 S2 S3
        obtain ⟨hI, hz, hl9, hdl, hB7, hB9, hdo, hzd, hgd, hld, hRS, hlp⟩ := HF.out
        obtain ⟨vs, hvl, how, hdr⟩ := hdo
        obtain ⟨pl, cl, rfl⟩ := row_slice how
        have hs := HS.out
        have hdl' : ds.length ≤ 1296 := by rw [hdl]; have := hI.le; have := HMM.out.1; have := HKK.out.1; omega
        have HDL := Lib.hid hdl'
        have K1 : Free.Bel W1 ((W1.alloc (.cells (arrB RTn) 149)).alloc (.cells (arrV RS) 109)) := bt (belAlloc _ _) (belAlloc _ _)
        have KW : Free.Bel W ((W1.alloc (.cells (arrB RTn) 149)).alloc (.cells (arrV RS) 109)) := bt hB1 K1
        have m12 : ((W1.alloc (.cells (arrB RTn) 149)).alloc (.cells (arrV RS) 109)).heap[W1.heap.size]? = some (.cells (arrB RTn) 149 (0, 0)) := heap_old (World.alloc_heap_new W1 _)
        have m13 : ((W1.alloc (.cells (arrB RTn) 149)).alloc (.cells (arrV RS) 109)).heap[W1.heap.size + 1]? = some (.cells (arrV RS) 109 (0, 0)) := by
          have := World.alloc_heap_new (W1.alloc (.cells (arrB RTn) 149)) (.cells (arrV RS) 109)
          simpa using this
        have hbs : ∀ k ∈ w9.heap.size :: w6.heap.size :: (Value.slice pl ds.length cl).ownBlock.toList, w6.heap.size ≤ k ∧ k < W.heap.size := by
          intro k hk
          have h1 := lt_of_heap hB7
          have h2 := lt_of_heap hB9
          simp only [List.mem_cons] at hk
          rcases hk with rfl | rfl | hk
          · omega
          · omega
          · rcases how.2 with ⟨h9, _⟩ | ⟨g9, cap9, cur9, h9, hb9, hg9, _⟩
            · rw [h9] at hk; simp [Value.ownBlock] at hk
            · rw [h9] at hk
              simp [Value.ownBlock] at hk
              subst hk
              have := lt_of_heap hg9
              omega
        have hsW : W.heap.size ≤ W1.heap.size := hB1.size
        have HJ0 := Lib.hid (show JL w6.heap.size w9.heap.size S RS (.slice pl ds.length cl) vs ds d (fun _ => none) ((W1.alloc (.cells (arrB RTn) 149)).alloc (.cells (arrV RS) 109)).drew from JL.start ((KW.block _ (lt_of_heap hB9)).trans hB9) ((KW.block _ (lt_of_heap hB7)).trans hB7) ⟨hvl, bel_row how (bt KW (Bel.drewT (Free.Bel.refl _))), fun i hi u hu => (hdr i hi u hu).stay fun k c f hk => (KW.block _ (lt_of_heap hk)).trans hk⟩)
        have HKP := Lib.hid (fun (W' : World) (hR : RX W.heap.size (w9.heap.size :: w6.heap.size :: (Value.slice pl ds.length cl).ownBlock.toList) W W') => rx_kp (n0 := wb.heap.size) how hB7 hB9 hs.2.1 hR)
        have HWD : Hid (∀ W', RX (W1.heap.size + 2) (w9.heap.size :: w6.heap.size :: (Value.slice pl ds.length cl).ownBlock.toList) ((W1.alloc (.cells (arrB RTn) 149)).alloc (.cells (arrV RS) 109)).drew W' → RX W.heap.size (w9.heap.size :: w6.heap.size :: (Value.slice pl ds.length cl).ownBlock.toList) W W') := fun W' hR => RX.trans _ _ _ (RX.of_bel (bt KW (Bel.drewT (Free.Bel.refl _))) (Nat.le_refl _)) (hR.less (by omega))
        have HFF : Hid (∀ W', RX (W1.heap.size + 2) (w9.heap.size :: w6.heap.size :: (Value.slice pl ds.length cl).ownBlock.toList) ((W1.alloc (.cells (arrB RTn) 149)).alloc (.cells (arrV RS) 109)).drew W' → Free.Bel w6 W' ∧ W'.heap[W1.heap.size]? = some (.cells (arrB RTn) 149 (0, 0)) ∧ W'.heap[W1.heap.size + 1]? = some (.cells (arrV RS) 109 (0, 0))) := fun W' hR => by
          have h1 := HWD.out W' hR
          have h2 := hI.bel
          refine ⟨⟨h1.os.trans h2.os, h1.tape.trans h2.tape, h1.output.trans h2.output, Nat.le_trans h2.size h1.size, fun k hk => (h1.block k (Nat.lt_of_lt_of_le hk h2.size) (fun hm => by have := (hbs k hm).1; omega)).trans (h2.block k hk)⟩, ?_, ?_⟩
          · exact (hR.block _ (by omega) (fun hm => by have := (hbs _ hm).2; omega)).trans m12
          · exact (hR.block _ (by omega) (fun hm => by have := (hbs _ hm).2; omega)).trans m13
        have HW5 := Lib.hid (cell_of_heap (o := 0) HB5.out.2.1 rfl)
        have hF : ∀ W', RX (W1.heap.size + 2) (w9.heap.size :: w6.heap.size :: (Value.slice pl ds.length cl).ownBlock.toList) ((W1.alloc (.cells (arrB RTn) 149)).alloc (.cells (arrV RS) 109)).drew W' → (W'.cell? ⟨w2.heap.size, 0, none⟩ = some (.pointer (some ⟨yb, 0, none⟩)) ∧ (W'.cell? ⟨W1.heap.size, 0, none⟩ = some (.bool (RTn 0)) ∧ W'.cell? ⟨W1.heap.size, 1, none⟩ = some (.bool (RTn 1)) ∧ W'.cell? ⟨W1.heap.size, 2, none⟩ = some (.bool (RTn 2)) ∧ W'.cell? ⟨W1.heap.size, 3, none⟩ = some (.bool (RTn 3))) ∧ (W'.cell? ⟨W1.heap.size + 1, 0, none⟩ = some (.int .i64 (RS 0)) ∧ W'.cell? ⟨W1.heap.size + 1, 1, none⟩ = some (.int .i64 (RS 1)) ∧ W'.cell? ⟨W1.heap.size + 1, 2, none⟩ = some (.int .i64 (RS 2)) ∧ W'.cell? ⟨W1.heap.size + 1, 3, none⟩ = some (.int .i64 (RS 3)))) := fun W' hR => by
          obtain ⟨h1, h2, h3⟩ := HFF.out W' hR
          obtain ⟨a0, a1, a2, a3, _⟩ := cells4 h2
          obtain ⟨b0, b1, b2, b3, _⟩ := cells4 h3
          exact ⟨keepsB (bt HK6.out h1) HW5.out, ⟨a0, a1, a2, a3⟩, b0, b1, b2, b3⟩
        have HF2 := Lib.hid (And.intro hI (And.intro hz (And.intro hl9 (And.intro hdl (And.intro hzd (And.intro hgd (And.intro hld (And.intro hRS hlp))))))))
        have HSZ := Lib.hid (And.intro hsW (And.intro (lt_of_heap hB9) hs))
        obtain ⟨i0, hi0, hz0, hz1, hz2⟩ := info_parts Go.Proofs.YtknpglgpkkhhiaaDoor.T.infoDT
        have HZ := Lib.hid (And.intro hi0 (And.intro hz0 (And.intro hz1 hz2)))
        clear hi0 hz0 hz1 hz2 hI hz hl9 hdl hB7 hB9 hzd hgd hld hRS hlp hvl how hdr hs hdl' K1 KW m12 m13 hbs hsW hB1
        gi_wp2
        refine Free2R.wp_free (R := RX (W1.heap.size + 2) (w9.heap.size :: w6.heap.size :: (Value.slice pl ds.length cl).ownBlock.toList)) (J := JL w6.heap.size w9.heap.size S RS (.slice pl ds.length cl) vs ds d) (by kernel_rfl) (by kernel_rfl) (by kernel_rfl) (RX.refl _ _) RX.trans HJ0.out ?_
        refine Free2R.Chain.pr (fun v _ => v = .slice pl ds.length cl) 0 rfl [] [9] (by kernel_rfl) (by kernel_rfl) rfl (fun _ _ _ _ h => h) ?_ ?_
        · (intro ev W X hb hR hO hD hj hx hax; have hS := hF W hR; obtain ⟨hb1, hb2, hb3⟩ := hb; simp only [Free.AllDeps, Free.AllOuts, Free.At, al1, al2, al3, al4, al5, and_true] at hO hD; simp only [Free2.AllX, and_true] at hax; have h5 := JL.no5 hj (.inl hx); have c0 := cell_of_heap (o := 0) (hj.c9 (hj.no7 h5).1) rfl; have hg := JL.skip hj 0 (.slice pl ds.length cl) (by decide); go_simp; first | exact ⟨RX.refl _ _ _, rfl, hg⟩ | exact ⟨RX.refl _ _ _, hg⟩)
        simp only [an1, an2]
        refine Free2R.Chain.ex ?_ 1 rfl [] [5] (by kernel_rfl) (by kernel_rfl) rfl (RX.refl _ _) (fun X W v h => JL.skip h 1 v (by decide)) ?_ ?_
        rotate_left
        · (intro ev W hb hR hO hD; have hS := hF W hR; obtain ⟨hb1, hb2, hb3⟩ := hb; simp only [Free.AllDeps, Free.AllOuts, Free.At, al1, al2, al3, al4, al5, and_true] at hO hD; go_simp; rfl)
        simp only [an1, an2]
        refine Free2R.Chain.ex ?_ 2 rfl [] [12] (by kernel_rfl) (by kernel_rfl) rfl (RX.refl _ _) (fun X W v h => JL.skip h 2 v (by decide)) ?_ ?_
        rotate_left
        · (intro ev W hb hR hO hD; have hS := hF W hR; obtain ⟨hb1, hb2, hb3⟩ := hb; simp only [Free.AllDeps, Free.AllOuts, Free.At, al1, al2, al3, al4, al5, and_true] at hO hD; go_simp; rfl)
        simp only [an1, an2]
        refine Free2R.Chain.pr (fun _ _ => True) 3 rfl [(1, 64), (2, 65)] [] (by kernel_rfl) (by kernel_rfl) rfl (fun _ _ _ _ h => h) ?_ ?_
        · (intro ev W X hb hR hO hD hj hx hax; have hS := hF W hR; obtain ⟨hb1, hb2, hb3⟩ := hb; simp only [Free.AllDeps, Free.AllOuts, Free.At, al1, al2, al3, al4, al5, and_true] at hO hD; simp only [Free2.AllX, and_true] at hax; have hb := (HFF.out W hR).1; have hsz := hR.size; simp at hsz; go_simp; refine yields_enter ?_; (with_reducible refine (HID.out W hb).mono ?_); rintro e W2 ⟨⟨u, rfl, hrow⟩, hB2⟩; rw [HIDS.out] at hrow; exact ⟨_, rfl, RX.of_bel hB2 hsz, JL.ids hj hx hB2 ⟨_, hrow⟩⟩)
        simp only [an1, an2]
        refine Free2R.Chain.pr (fun _ _ => True) 4 rfl [(3, 66)] [] (by kernel_rfl) (by kernel_rfl) rfl (fun _ _ _ _ h => h) ?_ ?_
        · (intro ev W X hb hR hO hD hj hx hax; have hS := hF W hR; obtain ⟨hb1, hb2, hb3⟩ := hb; simp only [Free.AllDeps, Free.AllOuts, Free.At, al1, al2, al3, al4, al5, and_true] at hO hD; simp only [Free2.AllX, and_true] at hax; have h5 := JL.no5 hj (.inr hx); have hsz := hR.size; simp at hsz; have hX3 := hax; obtain ⟨b0, hrw⟩ := hj.id h5 _ hX3; obtain ⟨q9, c9, hev⟩ := row_slice hrw; rw [hev] at hX3; go_simp; exact ⟨RX.of_bel (belAlloc _ _) hsz, JL.made hj h5 (belAlloc _ _) hX3 (by simp [go_sem])⟩)
        simp only [an1, an2]
        refine Free2R.Chain.pr (fun _ _ => True) 5 rfl [(0, 63), (4, 67), (3, 66)] [] (by kernel_rfl) (by kernel_rfl) rfl (fun _ _ _ _ h => h) ?_ ?_
        · (intro ev W X hb hR hO hD hj hx hax; have hS := hF W hR; obtain ⟨hb1, hb2, hb3⟩ := hb; simp only [Free.AllDeps, Free.AllOuts, Free.At, al1, al2, al3, al4, al5, and_true] at hO hD; simp only [Free2.AllX, and_true] at hax; obtain ⟨sb, su, hsb, hsc, hs3⟩ := hj.src hx _ hax.2.1; have hsz := hR.size; simp at hsz; have hrw := hj.row hx; have ho1 : su.oneCell' = true := (hj.id hx _ hs3).one; have hdl := HDL.out; obtain ⟨v2, W2, hr2, ho2, hg2, _⟩ := run_append_own_wide (P := Tryd.prog) W w9.heap.size 25 25 58 i0 (.slice none 0 0) 1 24 Tryd.underlying25 HZ.out.1 HZ.out.2.1 HZ.out.2.2.1 HZ.out.2.2.2 rfl (by decide) (.slice pl ds.length cl) ds.length vs hrw.2.1 ⟨sb, 0, none⟩ 1 1 [su] rfl (cell_one_add hsc) (by simpa using ho1) (by unfold maxLen; omega) (by omega) (by have := HSZ.out; omega); simp only [execOp, resolve, invoke, builtin, Sem.run_bind, Sem.run_pure, Result.andThen_ok, List.map_toArray, List.map_cons, List.map_nil, hD, hsb, hr2]; exact ⟨RX.row hrw.2.1 hg2 hsz, trivial, JL.app hj hx (by rw [hax.1]; simp) (by rw [hax.2.1]; simp) hs3 HSZ.out.2.2.2.1 hg2 ho2⟩)
        simp only [an1, an2]
        refine Free2R.Chain.ex ?_ 6 rfl [] [13] (by kernel_rfl) (by kernel_rfl) rfl (RX.refl _ _) (fun X W v h => JL.skip h 6 v (by decide)) ?_ ?_
        rotate_left
        · (intro ev W hb hR hO hD; have hS := hF W hR; obtain ⟨hb1, hb2, hb3⟩ := hb; simp only [Free.AllDeps, Free.AllOuts, Free.At, al1, al2, al3, al4, al5, and_true] at hO hD; go_simp; rfl)
        simp only [an1, an2]
        refine Free2R.Chain.pr (fun _ _ => True) 7 rfl [(5, 68), (5, 68), (0, 63), (1, 64), (2, 65), (3, 66), (4, 67), (5, 68)] [9] (by kernel_rfl) (by kernel_rfl) rfl (fun _ _ _ _ h => h) ?_ ?_
        · (intro ev W X hb hR hO hD hj hx hax; have hS := hF W hR; obtain ⟨hb1, hb2, hb3⟩ := hb; simp only [Free.AllDeps, Free.AllOuts, Free.At, al1, al2, al3, al4, al5, and_true] at hO hD; simp only [Free2.AllX, and_true] at hax; have hb9 := hj.c9 hx; have c0 := cell_of_heap (o := 0) hb9 rfl; have c1 := frozen_of_heap (o := 0) hb9; have hX5 := hax.1; obtain ⟨vs9, _, hrw, _⟩ := hj.now _ hX5; obtain ⟨q9, c9, hev⟩ := row_slice hrw; rw [hev] at hX5; go_simp; exact ⟨RX.set (by simp), JL.put9 hj hx (by rw [hX5]; simp) HSZ.out.2.2.2.1⟩)
        simp only [an1, an2]
        refine Free2R.Chain.pr (fun _ _ => True) 8 rfl [(6, 69), (0, 63), (1, 64), (2, 65), (3, 66), (4, 67), (5, 68), (6, 69)] [7] (by kernel_rfl) (by kernel_rfl) rfl (fun _ _ _ _ h => h) ?_ ?_
        · (intro ev W X hb hR hO hD hj hx hax; have hS := hF W hR; obtain ⟨hb1, hb2, hb3⟩ := hb; simp only [Free.AllDeps, Free.AllOuts, Free.At, al1, al2, al3, al4, al5, and_true] at hO hD; simp only [Free2.AllX, and_true] at hax; have hb7 := hj.c7 hx; obtain ⟨c0, c1, c2, c3, f0, f1, f2, f3⟩ := cells4 hb7; have hX5 : X 5 ≠ none := (by rw [hax.2.2.2.2.2.2.1]; simp); go_simp; exact ⟨RX.trans _ _ _ (RX.trans _ _ _ (RX.set (by simp)) (RX.set (by simp))) (RX.trans _ _ _ (RX.set (by simp)) (RX.set (by simp))), JL.put7 hj hx hX5 HSZ.out.2.2.2.1⟩)
        simp only [an1, an2]
        intro ys w7 hR hV hX
        obtain ⟨X, hj, hxx⟩ := hX
        simp only [Free.AllV, Free.At, List.length_cons, List.length_nil, Nat.reduceAdd, List.getElem?_cons_succ, List.getElem?_cons_zero, true_and, and_true] at hV
        simp only [Free.putsFrom, Act.put, Nat.zero_add, Nat.reduceAdd, hV, List.setIfInBounds_toArray, List.set_cons_succ, List.set_cons_zero]
        have x5 : X 5 = some (ys 5) := hxx 5 (by decide)
        have x7 : X 7 ≠ none := by rw [hxx 7 (by decide)]; simp
        have x8 : X 8 ≠ none := by rw [hxx 8 (by decide)]; simp
        have HE := Lib.hid (And.intro (hj.d9 x7 _ x5) (And.intro (hj.d7 x8) (And.intro (hj.now _ x5) (And.intro (HWD.out w7 hR) (HFF.out w7 hR).1))))
        clear hR hV hj hxx hF x5 x7 x8
        gi_wp2
        obtain ⟨e1, e2, e3, e4, e5⟩ := HE.out
        obtain ⟨hI, hz, hl9, hdl, hzd, hgd, hld, hRS, hlp⟩ := HF2.out
        have hk := HKP.out w7 e4
        refine ⟨hk.1, hk.2, ?_⟩
        show LastI w6 w6.heap.size w9.heap.size wb.heap.size h xs m (pre ++ [(x1, x2)]).length w7
        rw [hlp]
        refine ⟨e5, Nat.le_trans hI.sz e4.size, by omega, dayR d zs, ds ++ [d], _, hzd, by rw [hj1]; exact hgd, by rw [hl9, hld, hj1]; simp, by simp [hdl], by rw [hRS]; exact e2, e1, e3⟩
      case done =>
        rintro D W hD hI hKD
        obtain ⟨zs, ds, vl, hz, hg9, hl9, hdl, hB7, hB9, hdo⟩ := hI.st
        have z0 := cell_of_heap (o := 0) hB9 rfl
        have hlen9 : (revM (gs.take m) (gs.take m).length).length = m := by rw [revM_length]; exact HML2.out
        rw [hlen9, Nat.sub_self] at hl9
        have HDI := Lib.hid (And.intro hI.bel (And.intro hl9 hdo))
        clear hz hg9 hl9 hdl hB7 hB9 hdo hI
        go_wp2_with fail
        refine ⟨by simp, .inl ⟨_, _, rfl, run_takeDeferred hKD, ?_⟩⟩
        obtain ⟨hbl, hl9, hdo⟩ := HDI.out
        have hs := HS.out
        have hB5 := HB5.out.1
        have hl9' : lastL h m xs = ds := by rw [hl9, lastL]; simp
        have hbw : Below w.heap.size w W := hB5.trans (Below.mono (bt HK6.out hbl) hB5.size)
        refine ⟨.tuple #[vl, .int .i64 0], by simp [results, Tryd.f47, go_sem], ⟨m, vl, by have := HMM.out.1; have := HKK.out.1; omega, HMM.out.2.1, HMM.out.2.2.2, rfl, ?_⟩, hbw.trans (Below.putNew _ (by have := hB5.size; have := HK6.out.size; omega))⟩
        rw [hl9']
        exact (hdo.put hKD rfl).mono (by have := hB5.size; have := HK6.out.size; omega)
      case stop => rintro D c pre W _ _ h _; exact h.elim
theorem lastP_v (h : Int) (xs : List Rk) (u : Value) (w : World) (hT : TabR w) (hu : RL xs u w) (c : Int) (hc : Hid (lastE h xs = c)) :
    Calls Tryd.prog 47 #[.agg #[.int .i64 h, u]] w fun e w' => LastPost h xs c w e w' ∧ Below w.heap.size w w' := by
  have hC := hc.out
  unfold lastE at hC
  cases hw : watchB h xs with
  | false =>
    rw [hw] at hC
    obtain rfl : c = 70 := by simpa using hC.symm
    exact (last_a h xs u w hT hu hw).mono fun e w' ⟨h1, h2⟩ => ⟨.inl ⟨by decide, h1⟩, h2⟩
  | true =>
    cases he : everB h xs with
    | true =>
      rw [hw, he] at hC
      obtain rfl : c = 6 := by simpa using hC.symm
      exact (last_b h xs u w hT hu hw he).mono fun e w' ⟨h1, h2⟩ => ⟨.inl ⟨by decide, h1⟩, h2⟩
    | false =>
      rw [hw, he] at hC
      obtain rfl : c = 0 := by simpa using hC.symm
      exact (last_c h xs u w hT hu hw he).mono fun e w' ⟨h1, h2⟩ => ⟨.inr ⟨rfl, h1⟩, h2⟩
end Go.Proofs.YtknpglgpkkhhiaaDoor

/- slices.Contains at numbers; slices.Clone at ricks. -/
namespace Go.Proofs.YtknpglgpkkhhiaaDoor
set_option linter.unusedSimpArgs false
set_option linter.unusedVariables false
open Go.RowKit Go.Proofs.YtknpglgpkkhhiaaDoor.Free2

set_option maxRecDepth 100000 in
set_option maxHeartbeats 2000000 in
theorem indexI7_any (xs : List Int) (a : Int) (u : Value) (w : World) (hu : IL xs u w) :
    Calls Tryd.prog 97 #[u, .int .i64 a] w fun e w' => (∃ r : Int, e = .returned (.int .i64 r) ∧ decide (0 ≤ r) = xs.contains a) ∧ Below w.heap.size w w' := by
  obtain ⟨p, cp, rfl, hm, hq⟩ := hu
  unfold maxLen at hm
  have HC := Lib.hid hq
  clear hq
  go_enter Tryd.func97, Tryd.ntmps97
  go_wp2_with fail
  go_loopw [8] (fun i wr => ∃ k : Nat, k ≤ xs.length ∧ i = .int .i64 k ∧ Hid (a ∉ xs.take k) ∧ Below w.heap.size w wr) (fun i _ => xs.length - (intOf i).toNat)
  case atStart => exact ⟨0, Nat.zero_le _, rfl, (by show a ∉ _; simp), Below.refl _ _⟩
  case round =>
    obtain ⟨k, hk, rfl, hno, hB⟩ := hrel
    by_cases hlt : k < xs.length
    · obtain ⟨b, off, rfl, hcp⟩ := HC.out (by intro e; simp [e] at hlt)
      have e1 := keepsB hB (hcp k hlt)
      have hklt : (k : Int) < xs.length := by omega
      have htk : Hid (xs.take (k + 1) = xs.take k ++ [xs[k]]) := by show _ = _; rw [List.take_add_one, List.getElem?_eq_getElem hlt]; rfl
      have hmem : Hid (xs[k] ∈ xs) := List.getElem_mem hlt
      clear hcp
      generalize xs[k] = x at *
      by_cases he : a = x
      · have g0 : (a == x) = true := by simp [he]
        have HM : Hid (xs.contains a = true) := by show _ = _; rw [he]; simpa using hmem.out
        clear he
        go_wp2_with fail
        go_ret
        exact ⟨⟨_, rfl, by rw [HM.out]; simp⟩, hB⟩
      · have g0 : (a == x) = false := by simp [he]
        have HE := Lib.hid he
        clear he
        go_wp2_with fail
        go_roundw
        case rel => exact ⟨k + 1, by omega, by go_num, (by show a ∉ _; rw [htk.out]; simp [hno.out, HE.out]), hB⟩
        case measure => simp [intOf]; omega
    · obtain rfl : k = xs.length := by omega
      have hno2 : a ∉ xs := by have := hno.out; rw [List.take_length] at this; exact this
      have HN := Lib.hid hno2
      clear hno2
      go_wp2_with fail
      go_ret
      exact ⟨⟨_, rfl, by have := HN.out; simp [this]⟩, hB⟩

set_option maxRecDepth 100000 in
set_option maxHeartbeats 2000000 in
theorem contI7_any (xs : List Int) (a : Int) (u : Value) (w : World) (hu : IL xs u w) :
    Calls Tryd.prog 72 #[u, .int .i64 a] w fun e w' => e = .returned (.bool (xs.contains a)) ∧ Below w.heap.size w w' := by
  have HI := Lib.hid (indexI7_any xs a u w hu)
  obtain ⟨p, cp, rfl, _, _⟩ := hu
  generalize xs.contains a = q at *
  go_enter Tryd.func72, Tryd.ntmps72
  go_wp2_with fail
  refine HI.out.mono ?_
  rintro e w1 ⟨⟨r, rfl, hr⟩, hB⟩
  have HR := Lib.hid hr
  clear hr
  go_wp2_with fail
  go_ret
  exact ⟨by rw [← HR.out]; rfl, hB⟩

set_option maxRecDepth 100000 in
set_option maxHeartbeats 2000000 in
theorem clone_any (xs : List (Int × Int × Int)) (u : Value) (w : World) (hu : RL xs u w) (hz : NZ u) (hn : xs.length ≤ 1000) :
    Calls Tryd.prog 71 #[u] w fun e w' => ∃ v, e = .returned v ∧ w'.ownsRow w.heap.size 47 3 v xs.length (cellsR xs) ∧ Below w.heap.size w w' := by
  obtain ⟨p, cp, rfl, hm, hp⟩ := hu
  have HNEW := Lib.hid (ricks_news (cp := cp) hp)
  have HNIL : Hid (p = none → xs.length = 0 ∧ cp = 0) := fun e => hz _ _ (by rw [e])
  clear hp hz
  obtain ⟨i0, hi0, hz0, hz1, hz2⟩ := info_parts T.infoRick
  have HZ := Lib.hid (And.intro hi0 (And.intro hz0 (And.intro hz1 hz2)))
  clear hi0 hz0 hz1 hz2
  have q22 : ∀ (w : World) (a : Option Addr) (n c n' c' : Nat), (binOp .eql 22 (.slice a n c) (.slice none n' c')).run Tryd.prog w = .ok (.bool a.isNone) w := fun w a n c n' c' => Lib.run_eql_slice_nil w _ _ a n c n' c' Tryd.underlying22
  have KA : Free.Bel w (w.alloc (.cells #[] 47)) := belAlloc _ _
  cases hpc : p with
  | none =>
    obtain ⟨h1, rfl⟩ := HNIL.out hpc
    obtain rfl : xs = [] := List.eq_nil_of_length_eq_zero h1
    subst hpc
    clear h1
    go_enter Tryd.func71, Tryd.ntmps71
    go_wp2_with fail
    go_ret
    exact ⟨_, rfl, by simpa [cellsR] using World.ownsRow_nil _ _ _ _, Below.refl _ _⟩
  | some ad =>
    subst hpc
    go_enter Tryd.func71, Tryd.ntmps71
    go_wp2_with (first | (at_builtin; go_loud (refine wpList_append_full rfl _ _ 22 rfl w.heap.size 47 i0 (.agg #[.int .i64 0, .int .i64 0, .int .i64 0]) 3 24 Tryd.underlying22 HZ.out.1 HZ.out.2.1 HZ.out.2.2.1 HZ.out.2.2.2 rfl (by decide) w.heap.size 0 #[] rfl (World.alloc_heap_new _ _) rfl (Nat.le_refl _) (some ad) xs.length cp (cellsR xs) rfl (cellsR_length xs) (HNEW.out _ KA) HNIL.out (by unfold maxLen; omega) (by omega) ?_); intro v9 w9 ho9 hb9) | fail)
    go_ret
    exact ⟨_, rfl, by simpa using ho9, bt KA hb9⟩
end Go.Proofs.YtknpglgpkkhhiaaDoor

/- The fewest hands, the moistest cake. -/
namespace Go.Proofs.YtknpglgpkkhhiaaDoor
set_option linter.unusedSimpArgs false
set_option linter.unusedVariables false
open Go.RowKit Go.Proofs.YtknpglgpkkhhiaaDoor.Free2 Go.Proofs.YtknpglgpkkhhiaaDoor.ML RR

theorem watch_hands {h k : Int} {xs : List Rk} (hw : watchB h xs = true) (h0 : 0 ≤ k) (h3 : k ≤ 3) : watchB k xs = true := by
  rw [watchB_iff] at hw ⊢
  exact ⟨⟨h0, h3⟩, hw.2⟩
def FewPost (h : Int) (xs : List Rk) (e : Ending) : Prop := (watchB h xs = false ∧ e = .returned (.tuple #[.int .i64 0, .int .i64 70])) ∨ (watchB h xs = true ∧ ∃ n c, FewIs xs n c ∧ e = .returned (.tuple #[.int .i64 n, .int .i64 c]))
set_option maxRecDepth 100000 in
set_option maxHeartbeats 8000000 in
theorem fewestP_any (h : Int) (xs : List Rk) (u : Value) (w : World) (hT : TabR w) (hu : RL xs u w) :
    Calls Tryd.prog 49 #[.agg #[.int .i64 h, u]] w fun e w' => FewPost h xs e ∧ Below w.heap.size w w' := by
  have HU := Lib.hid hu
  obtain ⟨p, cp, rfl, _, _⟩ := hu
  have KB : Free.Bel w (w.alloc (.cells #[.int .i64 h, .slice p xs.length cp] 24)) := belAlloc _ _
  have m0 : (w.alloc (.cells #[.int .i64 h, .slice p xs.length cp] 24)).heap[w.heap.size]? = some (.cells #[.int .i64 h, .slice p xs.length cp] 24 (0, 0)) := World.alloc_heap_new w _
  have FA : ∀ W, Free.Bel (w.alloc (.cells #[.int .i64 h, .slice p xs.length cp] 24)) W → W.cell? ⟨w.heap.size, 0, none⟩ = some (.int .i64 h) ∧ W.cell? ⟨w.heap.size, 1, none⟩ = some (.slice p xs.length cp) := fun W hW => ⟨keepsB hW (cell_of_heap m0 rfl), keepsB hW (cell_of_heap m0 rfl)⟩
  have KE : Free.Bel (w.alloc (.cells #[.int .i64 h, .slice p xs.length cp] 24)) (w.alloc (.cells #[.int .i64 h, .slice p xs.length cp] 24)) := Free.Bel.refl _
  have HCK := Lib.hid (fun c hc => checkP_v h xs _ (w.alloc (.cells #[.int .i64 h, .slice p xs.length cp] 24)) (hT.bel KB) (HU.out.keeps KB) c hc)
  have HKB := Lib.hid (And.intro KB m0)
  cases hw : watchB h xs with
  | false =>
    have HC := Lib.hid (HCK.out 70 (by show _ = _; simp [hw]))
    have HW := Lib.hid hw
    clear hT m0 hw HCK
    go_enter Tryd.func49, Tryd.ntmps49
    go_wp2_with fail
    refine HC.out.mono ?_
    rintro e w1 ⟨rfl, hB1⟩
    have HB := Lib.hid (bt HKB.out.1 hB1)
    clear hB1
    go_wp2_with fail
    go_ret2
    exact ⟨.inl ⟨HW.out, rfl⟩, HB.out⟩
  | true =>
    have HC := Lib.hid (HCK.out 0 (by show _ = _; simp [hw]))
    have HW := Lib.hid hw
    clear hT m0 hw HCK
    go_enter Tryd.func49, Tryd.ntmps49
    go_wp2_with fail
    refine HC.out.mono ?_
    rintro e w1 ⟨rfl, hB1⟩
    have HB1 := Lib.hid (show Free.Bel (w.alloc (.cells #[.int .i64 h, .slice p xs.length cp] 24)) w1 from hB1)
    clear hB1 FA KE KB
    go_wp2_with fail
    go_loopw [11] (fun i wr => ∃ (k : Nat) (hh : Int), k ≤ 4 ∧ i = .int .i64 k ∧ Below w.heap.size w wr ∧ wr.heap[w.heap.size]? = some (.cells #[.int .i64 hh, .slice p xs.length cp] 24 (0, 0)) ∧ Hid (∀ j : Nat, j < k → everB (j : Int) xs = false)) (fun i _ => 4 - (intOf i).toNat)
    case atStart => exact ⟨0, h, by omega, rfl, bt HKB.out.1 HB1.out, (HB1.out.block _ (lt_of_heap HKB.out.2)).trans HKB.out.2, fun j hj => absurd hj (Nat.not_lt_zero _)⟩
    case round =>
      obtain ⟨k, hh, hk, rfl, hB, hm, HNO⟩ := hrel
      by_cases hlt : k < 4
      · have hki : (k : Int) < 4 := by omega
        have hkw : IntKind.i64.wrap ((k : Int) + 1) = (k : Int) + 1 := IntWalk.i64_in _ (by omega)
        have HBW := Lib.hid (And.intro hB hm)
        have f0 := frozen_of_heap (o := 0) hm
        have y0 := cell_of_heap (o := 0) hm rfl
        have y1 := cell_of_heap (o := 1) hm rfl
        have KS : Below w.heap.size w (wr.setCell ⟨w.heap.size, 0, none⟩ (.int .i64 k)) := hB.setCell (by simp) _
        have mS : (wr.setCell ⟨w.heap.size, 0, none⟩ (.int .i64 (k : Int))).heap[w.heap.size]? = some (.cells #[.int .i64 k, .slice p xs.length cp] 24 (0, 0)) := by
          have := heap_setCell_same (o := 0) (.int .i64 (k : Int)) hm
          simpa using this
        obtain ⟨r, hr⟩ : ∃ r, everB (k : Int) xs = r := ⟨_, rfl⟩
        have HCAN := Lib.hid (can_any (k : Int) xs _ (wr.setCell ⟨w.heap.size, 0, none⟩ (.int .i64 (k : Int))) (HU.out.keeps KS) (watch_hands HW.out (by omega) (by omega)) r (Lib.hid hr))
        have HS := Lib.hid (And.intro KS mS)
        have HR := Lib.hid hr
        have c0 := cell_of_heap (o := 0) mS rfl
        have c1 := cell_of_heap (o := 1) mS rfl
        clear hB hm KS mS hr
        go_wp2_with fail
        refine HCAN.out.mono ?_
        rintro e w5 ⟨rfl, hB5⟩
        have hB5 : Free.Bel (wr.setCell ⟨w.heap.size, 0, none⟩ (.int .i64 (k : Int))) w5 := hB5
        have HB5 := Lib.hid (And.intro (HS.out.1.trans (Below.mono hB5 HS.out.1.size)) ((hB5.block _ (lt_of_heap HS.out.2)).trans HS.out.2))
        clear hB5 y0 y1 f0 c0 c1
        cases r with
        | true =>
          go_wp2_with fail
          go_ret2
          exact ⟨.inr ⟨HW.out, k, 0, .inr ⟨rfl, by omega, by omega, HR.out, fun j h0 hj => by
            have := HNO.out j.toNat (by omega)
            rwa [Int.toNat_of_nonneg h0] at this⟩, rfl⟩, HB5.out.1⟩
        | false =>
          go_wp2_with fail
          go_roundw
          case rel => exact ⟨k + 1, k, by omega, by go_num, HB5.out.1, HB5.out.2, fun j hj => by
            by_cases h9 : j < k
            · exact HNO.out j h9
            · obtain rfl : j = k := by omega
              exact HR.out⟩
          case measure => simp [intOf]; omega
      · obtain rfl : k = 4 := by omega
        have HB := Lib.hid hB
        clear hB hm
        go_wp2_with fail
        go_ret2
        exact ⟨.inr ⟨HW.out, 0, 8, .inl ⟨rfl, rfl, fun j h0 h3 => by
          have := HNO.out j.toNat (by omega)
          rwa [Int.toNat_of_nonneg h0] at this⟩, rfl⟩, HB.out⟩
end Go.Proofs.YtknpglgpkkhhiaaDoor

/- The moistest cake. -/
namespace Go.Proofs.YtknpglgpkkhhiaaDoor
set_option linter.unusedSimpArgs false
set_option linter.unusedVariables false
open Go.RowKit Go.Proofs.YtknpglgpkkhhiaaDoor.Free2 Go.Proofs.YtknpglgpkkhhiaaDoor.ML RR

theorem cellsR_setE (ys : List Rk) (k : Nat) (hk : k < ys.length) (v : Int) : (cellsR ys).set (k * 3 + 1) (.int .i64 v) = cellsR (ys.set k (ys[k].1, v, ys[k].2.2)) := by
  induction ys generalizing k with
  | nil => simp at hk
  | cons y r ih =>
    have e : ∀ (y : Rk) (l : List Rk), cellsR (y :: l) = .int .i64 y.1 :: .int .i64 y.2.1 :: .int .i64 y.2.2 :: cellsR l := fun y l => by simp [cellsR]
    cases k with
    | zero => simp [e]
    | succ k =>
      have := ih k (by simpa using hk)
      rw [e, show (k + 1) * 3 + 1 = (k * 3 + 1) + 1 + 1 + 1 by omega]
      simp only [List.set_cons_succ, List.getElem_cons_succ, e, this]
theorem rick_storeE {base g n cap : Nat} {ys : List Rk} {w : World} (h : w.ownsRow base 47 3 (.slice (some ⟨g, 0, none⟩) n cap) n (cellsR ys)) (k : Nat) (hk : k < ys.length) (v : Int) :
    (w.setCell ⟨g, k * 3 + 1, none⟩ (.int .i64 v)).ownsRow base 47 3 (.slice (some ⟨g, 0, none⟩) n cap) n (cellsR (ys.set k (ys[k].1, v, ys[k].2.2))) := by
  have := (h.stored (k * 3 + 1) (.int .i64 v)).1
  rw [cellsR_setE ys k hk] at this
  exact this
theorem moistR_length (xs : List Rk) (i : Nat) (n : Int) : (moistR xs i n).length = xs.length := by simp [moistR]
theorem moistR_get (xs : List Rk) (i : Nat) (hi : i < xs.length) (n : Int) (h : i < (moistR xs i n).length) : (moistR xs i n)[i] = (xs[i].1, n, xs[i].2.2) := by simp [moistR, hi]
theorem moistR_set (xs : List Rk) (i : Nat) (hi : i < xs.length) (n m : Int) : (moistR xs i n).set i (xs[i].1, m, xs[i].2.2) = moistR xs i m := by simp [moistR, hi]
theorem moistR_self (xs : List Rk) (i : Nat) (hi : i < xs.length) : moistR xs i xs[i].2.1 = xs := by
  unfold moistR
  simp only [List.getD_eq_getElem?_getD, List.getElem?_eq_getElem hi, Option.getD_some]
  exact List.set_getElem_self hi
theorem watch_moist {h : Int} {xs : List Rk} (hw : watchB h xs = true) (i : Nat) (hi : i < xs.length) {n : Int} (h1 : xs[i].2.2 + 1 ≤ n) (h6 : n ≤ 6) : watchB h (moistR xs i n) = true := by
  obtain ⟨a1, a2, a3⟩ := watchB_iff.1 hw
  refine watchB_iff.2 ⟨a1, by rw [moistR_length]; exact a2, ?_⟩
  have key : ∀ (xs : List Rk) (i : Nat) (l : Int), risesB l xs = true → (hi : i < xs.length) → xs[i].2.2 + 1 ≤ n → risesB l (moistR xs i n) = true := by
    intro xs
    induction xs with
    | nil => intro i l _ hi; simp at hi
    | cons x r ih =>
      intro i l hr hi hn
      simp only [risesB, inB, List.all_cons, List.all_nil, Bool.and_true, Bool.and_eq_true, decide_eq_true_eq] at hr
      cases i with
      | zero =>
        simp only [List.getElem_cons_zero] at hn
        simp only [moistR, List.getD_cons_zero, List.set_cons_zero, risesB, inB, List.all_cons, List.all_nil, Bool.and_true, Bool.and_eq_true, decide_eq_true_eq]
        exact ⟨hr.1, ⟨by omega, h6⟩, ⟨hr.2.2.1.1, by omega⟩, hr.2.2.2⟩
      | succ i =>
        have := ih i x.1 hr.2.2.2 (by simpa using hi) (by simpa using hn)
        simp only [moistR, List.getD_cons_succ, List.set_cons_succ, risesB, inB, List.all_cons, List.all_nil, Bool.and_true, Bool.and_eq_true, decide_eq_true_eq] at this ⊢
        exact ⟨hr.1, hr.2.1, hr.2.2.1, this⟩
  exact key xs i 0 a3 hi h1
def MoPost (h : Int) (xs : List Rk) (r : Int) (e : Ending) : Prop := (watchB h xs = false ∧ e = .returned (.tuple #[.int .i64 0, .int .i64 70])) ∨ (watchB h xs = true ∧ r < 0 ∧ e = .returned (.tuple #[.int .i64 0, .int .i64 6])) ∨ (watchB h xs = true ∧ 0 ≤ r ∧ ∃ n c, MoistIs h xs r.toNat n c ∧ e = .returned (.tuple #[.int .i64 n, .int .i64 c]))
set_option maxRecDepth 100000 in
set_option maxHeartbeats 8000000 in
theorem moistP_any (h id : Int) (xs : List Rk) (u : Value) (w : World) (hT : TabR w) (hu : RL xs u w) (hz : NZ u) (r : Int) (hr : Hid (RickIs xs id r)) :
    Calls Tryd.prog 51 #[.agg #[.int .i64 h, u], .int .i64 id] w fun e w' => MoPost h xs r e ∧ Below w.heap.size w w' := by
  have HU := Lib.hid hu
  obtain ⟨p, cp, rfl, _, _⟩ := hu
  have KB : Free.Bel w (w.alloc (.cells #[.int .i64 h, .slice p xs.length cp] 24)) := belAlloc _ _
  have m0 : ((w.alloc (.cells #[.int .i64 h, .slice p xs.length cp] 24))).heap[w.heap.size]? = some (.cells #[.int .i64 h, .slice p xs.length cp] 24 (0, 0)) := World.alloc_heap_new w _
  have FA : ∀ W, Free.Bel (w.alloc (.cells #[.int .i64 h, .slice p xs.length cp] 24)) W → W.cell? ⟨w.heap.size, 0, none⟩ = some (.int .i64 h) ∧ W.cell? ⟨w.heap.size, 1, none⟩ = some (.slice p xs.length cp) := fun W hW => ⟨keepsB hW (cell_of_heap m0 rfl), keepsB hW (cell_of_heap m0 rfl)⟩
  have KE : Free.Bel (w.alloc (.cells #[.int .i64 h, .slice p xs.length cp] 24)) (w.alloc (.cells #[.int .i64 h, .slice p xs.length cp] 24)) := Free.Bel.refl _
  have HCK := Lib.hid (fun c hc => checkP_v h xs _ (w.alloc (.cells #[.int .i64 h, .slice p xs.length cp] 24)) (hT.bel KB) (HU.out.keeps KB) c hc)
  have HKB := Lib.hid (And.intro KB m0)
  have HNZ := Lib.hid hz
  cases hw : watchB h xs with
  | false =>
    have HC := Lib.hid (HCK.out 70 (by show _ = _; simp [hw]))
    have HW := Lib.hid hw
    clear hT m0 hw HCK hz
    go_enter Tryd.func51, Tryd.ntmps51
    go_wp2_with fail
    refine HC.out.mono ?_
    rintro e w1 ⟨rfl, hB1⟩
    have HB := Lib.hid (bt HKB.out.1 hB1)
    clear hB1
    go_wp2_with fail
    go_ret2
    exact ⟨.inl ⟨HW.out, rfl⟩, HB.out⟩
  | true =>
    have HC := Lib.hid (HCK.out 0 (by show _ = _; simp [hw]))
    have HW := Lib.hid hw
    have hl4 := (watchB_iff.1 hw).2.1
    clear hT m0 hw HCK hz
    go_enter Tryd.func51, Tryd.ntmps51
    go_wp2_with fail
    refine HC.out.mono ?_
    rintro e w1 ⟨rfl, hB1⟩
    have K1 : Free.Bel (w.alloc (.cells #[.int .i64 h, .slice p xs.length cp] 24)) w1 := hB1
    clear hB1
    go_wp2_with fail
    refine (indexP_v h id xs _ w1 (HU.out.keeps (bt HKB.out.1 K1)) r hr).mono ?_
    rintro e w2 ⟨rfl, hB2⟩
    have K2 : Free.Bel (w.alloc (.cells #[.int .i64 h, .slice p xs.length cp] 24)) w2 := bt K1 hB2
    clear hB2
    by_cases hneg : r < 0
    · have HB := Lib.hid (bt HKB.out.1 K2)
      have HNG := Lib.hid hneg
      go_wp2_with fail
      go_ret2
      exact ⟨.inr (.inl ⟨HW.out, HNG.out, rfl⟩), HB.out⟩
    · obtain ⟨i, rfl⟩ : ∃ i : Nat, r = (i : Int) := ⟨r.toNat, by omega⟩
      have hil : i < xs.length := by
        rcases hr.out with ⟨h9, _⟩ | ⟨k, hk, h9, _⟩
        · omega
        · omega
      have hg0 : decide ((i : Int) < 0) = false := decide_eq_false (by omega)
      have hii : (i : Int) < (xs.length : Int) := by omega
      go_wp2_with fail
      refine (clone_any xs _ w2 (HU.out.keeps (bt HKB.out.1 K2)) HNZ.out (by omega)).mono ?_
      rintro e w3 ⟨vc, rfl, hrow, hB3⟩
      obtain ⟨g, cap, cur, rfl, hge, hgb, hgc, _, _, _⟩ := hrow.2.resolve_left (fun h9 => by omega)
      have K3 : Free.Bel (w.alloc (.cells #[.int .i64 h, .slice p xs.length cp] 24)) w3 := bt K2 hB3
      have n0 := (K3.block _ (lt_of_heap HKB.out.2)).trans HKB.out.2
      have hsw : w.heap.size < w2.heap.size := by have := K2.size; simp at this; omega
      obtain ⟨c1, c2, c3, _⟩ := rick_row hrow rfl i hil
      have f0 := frozen_of_heap (o := 1) n0
      have z0 := cell_of_heap (o := 1) n0 rfl
      have HB3 := Lib.hid (And.intro (bt HKB.out.1 K3) (And.intro n0 (And.intro hrow (And.intro hge hsw))))
      have hok := watchB_ok HW.out xs[i] (List.getElem_mem hil)
      unfold okR at hok
      obtain ⟨x, hx⟩ : ∃ y, xs[i] = y := ⟨_, rfl⟩
      rw [hx] at c1 c2 c3 hok
      have HX := Lib.hid hx
      have hwr : IntKind.i64.wrap (x.2.2 + 1) = x.2.2 + 1 := IntWalk.i64_in _ (by omega)
      have hgw : g ≠ w.heap.size := by omega
      have d3 : (w3.setCell ⟨w.heap.size, 1, none⟩ (.slice (some ⟨g, 0, none⟩) xs.length cap)).cell? ⟨g, i * 3 + 2, none⟩ = some (.int .i64 x.2.2) := by rw [World.cell?_setCell_other _ _ _ _ (by first | (simp; done) | (simp; omega))]; exact c3
      have HIL := Lib.hid (And.intro hil hgw)
      clear hrow hge hgb hB3 n0 hsw hx FA KE KB K1 K2 K3 c1 c2 c3
      go_wp2_with fail
      clear d3 f0 z0
      have hI0 : Below w.heap.size w (w3.setCell ⟨w.heap.size, 1, none⟩ (.slice (some ⟨g, 0, none⟩) xs.length cap)) ∧ (w3.setCell ⟨w.heap.size, 1, none⟩ (.slice (some ⟨g, 0, none⟩) xs.length cap)).heap[w.heap.size]? = some (.cells #[.int .i64 h, (.slice (some ⟨g, 0, none⟩) xs.length cap)] 24 (0, 0)) ∧ (w3.setCell ⟨w.heap.size, 1, none⟩ (.slice (some ⟨g, 0, none⟩) xs.length cap)).ownsRow w2.heap.size 47 3 (.slice (some ⟨g, 0, none⟩) xs.length cap) xs.length (cellsR (moistR xs i x.2.1)) := by
        obtain ⟨hB, n0, hrow, hge, hsw⟩ := HB3.out
        refine ⟨hB.setCell (by simp) _, ?_, ?_⟩
        · have := heap_setCell_same (o := 1) (.slice (some ⟨g, 0, none⟩) xs.length cap) n0
          simpa using this
        · rw [← HX.out, moistR_self xs i HIL.out.1]
          exact row_block hrow fun k hk _ => heap_setCell_other (by simp [Value.ownBlock] at hk; omega)
      have HI0 := Lib.hid hI0
      clear hI0
      go_loopw [8] (fun n wr => ∃ (m q : Int), x.2.2 + 1 ≤ m ∧ m ≤ 7 ∧ n = .int .i64 m ∧ Below w.heap.size w wr ∧ wr.heap[w.heap.size]? = some (.cells #[.int .i64 h, (.slice (some ⟨g, 0, none⟩) xs.length cap)] 24 (0, 0)) ∧ wr.ownsRow w2.heap.size 47 3 (.slice (some ⟨g, 0, none⟩) xs.length cap) xs.length (cellsR (moistR xs i q)) ∧ Hid (∀ j : Int, x.2.2 + 1 ≤ j → j < m → everB h (moistR xs i j) = false)) (fun n _ => (7 - intOf n).toNat)
      case atStart => exact ⟨x.2.2 + 1, x.2.1, by omega, by omega, rfl, HI0.out.1, HI0.out.2.1, HI0.out.2.2, fun j h1 h2 => by omega⟩
      case round =>
        obtain ⟨m, q, hm1, hm7, rfl, hB, hm, hrow, HNO⟩ := hrel
        by_cases hlt : m ≤ 6
        · have hmw : IntKind.i64.wrap (m + 1) = m + 1 := IntWalk.i64_in _ (by omega)
          have hil9 : i < (moistR xs i q).length := by rw [moistR_length]; exact HIL.out.1
          have hrow2 := rick_storeE hrow i hil9 m
          rw [moistR_get xs i HIL.out.1 q hil9, moistR_set xs i HIL.out.1 q m] at hrow2
          obtain ⟨c1, c2, c3, _⟩ := rick_row hrow (moistR_length xs i q) i hil9
          have f1 := hrow.frozenAt (i * 3 + 1)
          have y0 := cell_of_heap (o := 0) hm rfl
          have y1 := cell_of_heap (o := 1) hm rfl
          have KS : Below w.heap.size w (wr.setCell ⟨g, i * 3 + 1, none⟩ (.int .i64 m)) := hB.setCell (by simp; have := HB3.out.2.2.2.1; have := HB3.out.2.2.2.2; omega) _
          have mS : (wr.setCell ⟨g, i * 3 + 1, none⟩ (.int .i64 m)).heap[w.heap.size]? = some (.cells #[.int .i64 h, (.slice (some ⟨g, 0, none⟩) xs.length cap)] 24 (0, 0)) := heap_other hm (by simp; have := HIL.out.2; omega)
          obtain ⟨b, hb⟩ : ∃ b, everB h (moistR xs i m) = b := ⟨_, rfl⟩
          have HCAN := Lib.hid (can_any h (moistR xs i m) (.slice (some ⟨g, 0, none⟩) xs.length cap) (wr.setCell ⟨g, i * 3 + 1, none⟩ (.int .i64 m)) (RL.of_row (moistR_length xs i m) (by unfold maxLen; omega) hrow2) (watch_moist HW.out i HIL.out.1 (by rw [HX.out]; exact hm1) hlt) b (Lib.hid hb))
          have HS := Lib.hid (And.intro KS (And.intro mS hrow2))
          have HR := Lib.hid hb
          have c0 := cell_of_heap (o := 0) mS rfl
          have c9 := cell_of_heap (o := 1) mS rfl
          rw [moistR_get xs i HIL.out.1 q hil9] at c2
          clear hB hm hrow hrow2 KS mS hb c1 c3 hil9
          go_wp2_with fail
          refine HCAN.out.mono ?_
          rintro e w5 ⟨rfl, hB5⟩
          have hB5 : Free.Bel (wr.setCell ⟨g, i * 3 + 1, none⟩ (.int .i64 m)) w5 := hB5
          have HB5 := Lib.hid (And.intro (HS.out.1.trans (Below.mono hB5 HS.out.1.size)) (And.intro ((hB5.block _ (lt_of_heap HS.out.2.1)).trans HS.out.2.1) (bel_row HS.out.2.2 hB5)))
          clear hB5 y0 y1 f1 c0 c2 c9
          cases b with
          | true =>
            go_wp2_with fail
            go_ret2
            exact ⟨.inr (.inr ⟨HW.out, by omega, m, 0, .inr ⟨rfl, by simp [HIL.out.1, HX.out]; omega, hlt, by simpa using HR.out, fun j h1 h2 => by simpa using HNO.out j (by simpa [HIL.out.1, HX.out] using h1) h2⟩, rfl⟩), HB5.out.1⟩
          | false =>
            go_wp2_with fail
            go_roundw
            case rel => exact ⟨m + 1, m, by omega, by omega, rfl, HB5.out.1, HB5.out.2.1, HB5.out.2.2, fun j h1 h2 => by
              by_cases h9 : j < m
              · exact HNO.out j h1 h9
              · obtain rfl : j = m := by omega
                exact HR.out⟩
            case measure => simp [intOf]; omega
        · obtain rfl : m = 7 := by omega
          have HB := Lib.hid hB
          clear hB hm hrow
          go_wp2_with fail
          go_ret2
          exact ⟨.inr (.inr ⟨HW.out, by omega, 0, 8, .inl ⟨rfl, rfl, fun j h1 h2 => by simpa using HNO.out j (by simpa [HIL.out.1, HX.out] using h1) (by omega)⟩, rfl⟩), HB.out⟩
end Go.Proofs.YtknpglgpkkhhiaaDoor

/- The spare days. -/
namespace Go.Proofs.YtknpglgpkkhhiaaDoor
set_option linter.unusedSimpArgs false
set_option linter.unusedVariables false
open Go.RowKit Go.Proofs.YtknpglgpkkhhiaaDoor.Free2 Go.Proofs.YtknpglgpkkhhiaaDoor.ML RR

def idle (xs : List Rk) (k : Nat) : List Rk := endR xs (List.replicate k [])
theorem idle_succ (xs : List Rk) (k : Nat) : idle xs (k + 1) = dayR [] (idle xs k) := by
  unfold idle
  rw [List.replicate_succ', endR_append]
  rfl
theorem idle_st {h : Int} {xs : List Rk} (hw : watchB h xs = true) : ∀ k, (∀ j, 0 < j → j ≤ k → idleOk h xs j) → StOf xs (idle xs k)
  | 0, _ => st_self hw
  | k + 1, hh => by
    have ih := idle_st hw k fun j h0 hj => hh j h0 (by omega)
    have hc := (hh (k + 1) (by omega) (Nat.le_refl _)).1
    have e : endR xs (List.replicate (k + 1) []) = dayR [] (idle xs k) := idle_succ xs k
    rw [e] at hc
    rw [idle_succ]
    exact ih.day [] hc
theorem idle_small {h : Int} {xs : List Rk} (hw : watchB h xs = true) (hne : xs ≠ []) (k : Nat) (hh : ∀ j, 0 < j → j ≤ k → idleOk h xs j) : k < 6 := by
  have hst := idle_st hw k hh
  match xs, hne with
  | x :: r, _ =>
    have e : idle (x :: r) k = (x :: r).map fun x => (x.1, x.2.1, x.2.2 + (k : Int)) := endR_idle _ k
    rw [e] at hst
    have h1 := hst.2 (x.1, x.2.1, x.2.2 + (k : Int)) (by simp)
    have h2 := watchB_ok hw x (by simp)
    unfold okR at h2
    simp only at h1
    omega
def SpPost (h : Int) (xs : List Rk) (c : Int) (e : Ending) : Prop := (c ≠ 0 ∧ e = .returned (.tuple #[.int .i64 0, .int .i64 c])) ∨ (c = 0 ∧ xs = [] ∧ e = .returned (.tuple #[.int .i64 0, .int .i64 6])) ∨ (c = 0 ∧ xs ≠ [] ∧ ∃ n : Nat, SpareIs h xs n ∧ e = .returned (.tuple #[.int .i64 n, .int .i64 0]))
set_option maxRecDepth 100000 in
set_option maxHeartbeats 8000000 in
theorem spareP_v (h : Int) (xs : List Rk) (u : Value) (w : World) (hT : TabR w) (hu : RL xs u w) (c : Int) (hc : Hid (goE h xs = c)) :
    Calls Tryd.prog 53 #[.agg #[.int .i64 h, u]] w fun e w' => SpPost h xs c e ∧ Below w.heap.size w w' := by
  have HU := Lib.hid hu
  obtain ⟨p, cp, rfl, _, _⟩ := hu
  have KB : Free.Bel w (w.alloc (.cells #[.int .i64 h, .slice p xs.length cp] 24)) := belAlloc _ _
  have m0 : ((w.alloc (.cells #[.int .i64 h, .slice p xs.length cp] 24))).heap[w.heap.size]? = some (.cells #[.int .i64 h, .slice p xs.length cp] 24 (0, 0)) := World.alloc_heap_new w _
  have FA : ∀ W, Free.Bel (w.alloc (.cells #[.int .i64 h, .slice p xs.length cp] 24)) W → W.cell? ⟨w.heap.size, 0, none⟩ = some (.int .i64 h) ∧ W.cell? ⟨w.heap.size, 1, none⟩ = some (.slice p xs.length cp) := fun W hW => ⟨keepsB hW (cell_of_heap m0 rfl), keepsB hW (cell_of_heap m0 rfl)⟩
  have KE : Free.Bel (w.alloc (.cells #[.int .i64 h, .slice p xs.length cp] 24)) (w.alloc (.cells #[.int .i64 h, .slice p xs.length cp] 24)) := Free.Bel.refl _
  have HKB := Lib.hid (And.intro KB m0)
  have HGO := Lib.hid (going_v h xs _ (w.alloc (.cells #[.int .i64 h, .slice p xs.length cp] 24)) (hT.bel KB) (HU.out.keeps KB) c hc)
  by_cases hc0 : c = 0
  · subst hc0
    have hwe : watchB h xs = true ∧ everB h xs = true := by
      have := hc.out
      unfold goE at this
      cases hw : watchB h xs with
      | false => rw [hw] at this; simp at this
      | true =>
        cases he : everB h xs with
        | false => rw [hw, he] at this; simp at this
        | true => exact ⟨rfl, rfl⟩
    have HWE := Lib.hid hwe
    have hl4 := (watchB_iff.1 hwe.1).2.1
    clear hT m0 hc hwe
    go_enter Tryd.func53, Tryd.ntmps53
    go_wp2_with fail
    refine HGO.out.mono ?_
    rintro e w1 ⟨hG, hB1⟩
    obtain ⟨yb, gb, v0, dv, L, rfl, hye, hy1, hy2⟩ : ∃ yb gb u dv L, e = .returned (.tuple #[.pointer (some ⟨yb, 0, none⟩), .int .i64 0]) ∧ YE yb gb h xs u dv L w1 ∧ ((w.alloc (.cells #[.int .i64 h, .slice p xs.length cp] 24))).heap.size ≤ yb ∧ ((w.alloc (.cells #[.int .i64 h, .slice p xs.length cp] 24))).heap.size ≤ gb := by
      rcases hG with ⟨h9, _⟩ | ⟨_, h9⟩
      · exact absurd rfl h9
      · exact h9
    have K1 : Free.Bel (w.alloc (.cells #[.int .i64 h, .slice p xs.length cp] 24)) w1 := hB1
    have HYE := Lib.hid hye
    have HB1 := Lib.hid (bt HKB.out.1 K1)
    clear hG hB1 hye hy1 hy2
    by_cases hne : xs = []
    · have hl0 : ((xs.length : Int) == 0) = true := by rw [hne]; rfl
      have HNE := Lib.hid hne
      clear hne
      go_wp2_with fail
      go_ret2
      exact ⟨.inr (.inl ⟨rfl, HNE.out, rfl⟩), HB1.out⟩
    · have hl0 : ((xs.length : Int) == 0) = false := by
        have : xs.length ≠ 0 := fun e => hne (List.eq_nil_of_length_eq_zero e)
        simp only [beq_eq_false_iff_ne, ne_eq]; omega
      have HNE := Lib.hid hne
      have HST := Lib.hid (st_self HWE.out.1)
      clear hne
      go_wp2_with fail
      refine (now_any yb xs v0 w1 HYE.out.yw.c1 HYE.out.yw.rl hl4).mono ?_
      rintro e w2 ⟨rfl, hB2⟩
      have K2 : Free.Bel w1 w2 := hB2
      have KS : Free.Bel w2 (w2.alloc (.cells (arrV (waits xs)) 109)) := belAlloc _ _
      have mS : (w2.alloc (.cells (arrV (waits xs)) 109)).heap[w2.heap.size]? = some (.cells (arrV (waits xs)) 109 (0, 0)) := World.alloc_heap_new w2 _
      have HI := Lib.hid (And.intro (bt K2 KS) (And.intro mS K2.size))
      clear hB2 K2 KS mS FA KE KB K1 hl0
      go_wp2_with fail
      go_loopw [6, 7] (fun n s wr => ∃ (k g : Nat), n = .int .i64 k ∧ s = .pointer (some ⟨g, 0, none⟩) ∧ Free.Bel w1 wr ∧ wr.heap[g]? = some (.cells (arrV (waits (idle xs k))) 109 (0, 0)) ∧ w1.heap.size ≤ g ∧ Hid (∀ j, 0 < j → j ≤ k → idleOk h xs j)) (fun n _ _ => 7 - (intOf n).toNat)
      case atStart => exact ⟨0, w2.heap.size, rfl, rfl, HI.out.1, HI.out.2.1, HI.out.2.2, fun j h0 hj => by omega⟩
      case round =>
        obtain ⟨k, g, rfl, rfl, hK, hg, hgn, HOK⟩ := hrel
        have hst := idle_st HWE.out.1 k HOK.out
        have hk6 := idle_small HWE.out.1 HNE.out k HOK.out
        have hkw : IntKind.i64.wrap ((k : Int) + 1) = (k : Int) + 1 := IntWalk.i64_in _ (by omega)
        have hS6 : ∀ x ∈ xs, x.2.1 ≤ 6 := fun x hx => (watchB_ok HWE.out.1 x hx).2.2.2.1
        have hSb := waits_st hst hS6
        have hnx : nextS (waits (idle xs k)) (fun _ => false) xs.length = waits (idle xs (k + 1)) := by
          rw [idle_succ, ← waits_next, tset_nil, hst.1.length]
        have hY := HYE.out.bel hK
        have haf := after_any yb xs (waits (idle xs k)) (fun _ => false) v0 wr hY.yw.c1 hY.yw.rl hl4 hSb
        rw [hnx] at haf
        have hhot : (hotL (waits (idle xs (k + 1))) xs xs.length).isEmpty = coolB (idle xs (k + 1)) := hot_cool (by rw [idle_succ]; exact hst.1.day [])
        obtain ⟨al, hal⟩ : ∃ y, hotL (waits (idle xs (k + 1))) xs xs.length = y := ⟨_, rfl⟩
        have hall : al.length ≤ 4 := by rw [← hal]; exact Nat.le_trans (hotL_length _ _ _) hl4
        rw [hal] at haf hhot
        obtain ⟨S, hS⟩ : ∃ y, waits (idle xs k) = y := ⟨_, rfl⟩
        obtain ⟨RS, hRS⟩ : ∃ y, waits (idle xs (k + 1)) = y := ⟨_, rfl⟩
        rw [hS, hRS] at haf
        rw [hS] at hg
        obtain ⟨z0, z1, z2, z3, _⟩ := cells4 hg
        have HAF := Lib.hid haf
        have HSS := Lib.hid (And.intro hS (And.intro hRS (And.intro hhot hst)))
        have HKG := Lib.hid (And.intro hK (And.intro hg hgn))
        clear hst hS6 hSb hnx hY haf hhot hal hS hRS hK hg hgn
        go_wp2_with fail
        refine HAF.out.mono ?_
        rintro e w4 ⟨⟨v, rfl, hrow⟩, hB4⟩
        obtain ⟨pv, cv, rfl⟩ := row_slice hrow
        have K4 : Free.Bel wr w4 := hB4
        have mN : (w4.alloc (.cells (arrV RS) 109)).heap[w4.heap.size]? = some (.cells (arrV RS) 109 (0, 0)) := World.alloc_heap_new w4 _
        have KN : Free.Bel w4 (w4.alloc (.cells (arrV RS) 109)) := belAlloc _ _
        have HK5 := Lib.hid (And.intro (bt HKG.out.1 (bt K4 KN)) (And.intro mN ((bt K4 KN).block _ (lt_of_heap HKG.out.2.1) |>.trans HKG.out.2.1)))
        clear hrow hB4 K4 mN KN z0 z1 z2 z3
        go_wp2_with fail
        generalize hw5 : (w4.alloc (.cells (arrV RS) 109)) = w5 at *
        clear hw5
        have hYb := Lib.hid (fun (W : World) (hW : Free.Bel w5 W) => HYE.out.bel (bt HK5.out.1 hW))
        cases al with
        | cons a0 ar =>
          have g0 : decide ((0 : Int) < (ar.length : Int) + 1) = true := decide_eq_true (by omega)
          have hF : ∀ W, Free.Bel w5.drew W → True := fun _ _ => trivial
          refine Free.wp_free (R := Free.Bel) (by kernel_rfl) (by kernel_rfl) Free.Bel.refl Free.Bel.trans ?_
          refine Free.Chain.ex ?_ [] [9] (by kernel_rfl) (by kernel_rfl) rfl Free.Bel.refl ?_ ?_
          rotate_left
          · (intro ev W hb hR hO hD; have hS := hF W hR; obtain ⟨hb1, hb2, hb3⟩ := hb; simp only [Free.AllDeps, Free.AllOuts, Free.At, al1, al2, al3, al4, al5, and_true] at hO hD; go_simp; rfl)
          simp only [an1, an2]
          refine Free.Chain.ex ?_ [(0, 35)] [] (by kernel_rfl) (by kernel_rfl) rfl Free.Bel.refl ?_ ?_
          rotate_left
          · (intro ev W hb hR hO hD; have hS := hF W hR; obtain ⟨hb1, hb2, hb3⟩ := hb; simp only [Free.AllDeps, Free.AllOuts, Free.At, al1, al2, al3, al4, al5, and_true] at hO hD; go_simp; rfl)
          simp only [an1, an2]
          refine Free.Chain.ex ?_ [(1, 36)] [] (by kernel_rfl) (by kernel_rfl) rfl Free.Bel.refl ?_ ?_
          rotate_left
          · (intro ev W hb hR hO hD; have hS := hF W hR; obtain ⟨hb1, hb2, hb3⟩ := hb; simp only [Free.AllDeps, Free.AllOuts, Free.At, al1, al2, al3, al4, al5, and_true] at hO hD; go_simp; rfl)
          simp only [an1, an2]
          refine Free.Chain.ex ?_ [(2, 37)] [] (by kernel_rfl) (by kernel_rfl) rfl Free.Bel.refl ?_ ?_
          rotate_left
          · (intro ev W hb hR hO hD; have hS := hF W hR; obtain ⟨hb1, hb2, hb3⟩ := hb; simp only [Free.AllDeps, Free.AllOuts, Free.At, al1, al2, al3, al4, al5, and_true] at hO hD; go_simp; rfl)
          simp only [an1, an2]
          refine Free.Chain.no [(3, 38)] [4] 3 false 38 (by kernel_rfl) (by kernel_rfl) rfl (by kernel_rfl) ?_ ?_
          · (intro ev W hR hD; simp only [Free.AllDeps, Free.At, List.getElem?_cons_succ, List.getElem?_cons_zero, and_true] at hD; simp [hD])
          simp only [an1, an2]
          refine Free.Chain.no [(4, 39), (3, 38)] [] 3 false 38 (by kernel_rfl) (by kernel_rfl) rfl (by kernel_rfl) ?_ ?_
          · (intro ev W hR hD; simp only [Free.AllDeps, Free.At, List.getElem?_cons_succ, List.getElem?_cons_zero, and_true] at hD; simp [hD])
          simp only [an1, an2]
          refine Free.Chain.no [(5, 40), (3, 38)] [] 3 false 38 (by kernel_rfl) (by kernel_rfl) rfl (by kernel_rfl) ?_ ?_
          · (intro ev W hR hD; simp only [Free.AllDeps, Free.At, List.getElem?_cons_succ, List.getElem?_cons_zero, and_true] at hD; simp [hD])
          simp only [an1, an2]
          refine Free.Chain.no [(6, 41), (3, 38)] [] 3 false 38 (by kernel_rfl) (by kernel_rfl) rfl (by kernel_rfl) ?_ ?_
          · (intro ev W hR hD; simp only [Free.AllDeps, Free.At, List.getElem?_cons_succ, List.getElem?_cons_zero, and_true] at hD; simp [hD])
          simp only [an1, an2]
          refine Free.Chain.no [(3, 38)] [8] 3 false 38 (by kernel_rfl) (by kernel_rfl) rfl (by kernel_rfl) ?_ ?_
          · (intro ev W hR hD; simp only [Free.AllDeps, Free.At, List.getElem?_cons_succ, List.getElem?_cons_zero, and_true] at hD; simp [hD])
          simp only [an1, an2]
          refine Free.Chain.no [(7, 42), (8, 43), (3, 38)] [] 3 false 38 (by kernel_rfl) (by kernel_rfl) rfl (by kernel_rfl) ?_ ?_
          · (intro ev W hR hD; simp only [Free.AllDeps, Free.At, List.getElem?_cons_succ, List.getElem?_cons_zero, and_true] at hD; simp [hD])
          simp only [an1, an2]
          refine Free.Chain.no [(9, 44), (3, 38)] [] 3 false 38 (by kernel_rfl) (by kernel_rfl) rfl (by kernel_rfl) ?_ ?_
          · (intro ev W hR hD; simp only [Free.AllDeps, Free.At, List.getElem?_cons_succ, List.getElem?_cons_zero, and_true] at hD; simp [hD])
          simp only [an1, an2]
          refine Free.Chain.ex ?_ [(3, 38), (10, 45)] [] (by kernel_rfl) (by kernel_rfl) rfl Free.Bel.refl ?_ ?_
          rotate_left
          · (intro ev W hb hR hO hD; have hS := hF W hR; obtain ⟨hb1, hb2, hb3⟩ := hb; simp only [Free.AllDeps, Free.AllOuts, Free.At, al1, al2, al3, al4, al5, and_true] at hO hD; go_simp; rfl)
          simp only [an1, an2]
          intro ys w6 hR hV
          simp only [Free.AllV, Free.At, List.length_cons, List.length_nil, Nat.reduceAdd, List.getElem?_cons_succ, List.getElem?_cons_zero, true_and, and_true] at hV
          simp only [Free.putsFrom, Act.put, Nat.zero_add, Nat.reduceAdd, hV, List.setIfInBounds_toArray, List.set_cons_succ, List.set_cons_zero]
          have K6 : Free.Bel w5 w6 := bt (Bel.drewT (Free.Bel.refl _)) hR
          have HB6 := Lib.hid (bt HB1.out (bt HK5.out.1 K6))
          clear hR hV hF K6
          go_wp2_with fail
          go_ret2
          refine ⟨.inr (.inr ⟨rfl, HNE.out, k, ⟨HOK.out, fun hok => ?_⟩, rfl⟩), HB6.out⟩
          have h9 : coolB (idle xs (k + 1)) = true := hok.1
          rw [← HSS.out.2.2.1] at h9
          simp at h9
        | nil =>
          have hcool : coolB (idle xs (k + 1)) = true := by rw [← HSS.out.2.2.1]; rfl
          have hst1 : StOf xs (idle xs (k + 1)) := by rw [idle_succ] at hcool ⊢; exact HSS.out.2.2.2.day [] hcool
          obtain ⟨r, hr⟩ : ∃ r, everB h (idle xs (k + 1)) = r := ⟨_, rfl⟩
          have hF : ∀ W, Free.Bel w5.drew W → (W.cell? ⟨yb, 2, none⟩ = some (.map (some gb)) ∧ W.cell? ⟨w4.heap.size, 0, none⟩ = some (.int .i64 (RS 0)) ∧ W.cell? ⟨w4.heap.size, 1, none⟩ = some (.int .i64 (RS 1)) ∧ W.cell? ⟨w4.heap.size, 2, none⟩ = some (.int .i64 (RS 2)) ∧ W.cell? ⟨w4.heap.size, 3, none⟩ = some (.int .i64 (RS 3)) ∧ (Instr.lookup 139 (.map (some gb)) (.agg #[.int .i64 (RS 0), .int .i64 (RS 1), .int .i64 (RS 2), .int .i64 (RS 3)]) false).run Tryd.prog W = .ok (.bool r) W) := fun W hW => by
            have K6 : Free.Bel w5 W := bt (Bel.drewT (Free.Bel.refl _)) hW
            have hY := hYb.out W K6
            have hl := hY.has hl4 hst1
            rw [HSS.out.2.1, hr] at hl
            exact ⟨hY.yw.c2, keepsB K6 (cell_of_heap HK5.out.2.1 rfl), keepsB K6 (cell_of_heap HK5.out.2.1 rfl), keepsB K6 (cell_of_heap HK5.out.2.1 rfl), keepsB K6 (cell_of_heap HK5.out.2.1 rfl), hl⟩
          have HCS := Lib.hid (And.intro hcool (And.intro hst1 hr))
          clear hcool hst1 hr
          refine Free.wp_free (R := Free.Bel) (by kernel_rfl) (by kernel_rfl) Free.Bel.refl Free.Bel.trans ?_
          refine Free.Chain.ex ?_ [] [9] (by kernel_rfl) (by kernel_rfl) rfl Free.Bel.refl ?_ ?_
          rotate_left
          · (intro ev W hb hR hO hD; have hS := hF W hR; obtain ⟨hb1, hb2, hb3⟩ := hb; simp only [Free.AllDeps, Free.AllOuts, Free.At, al1, al2, al3, al4, al5, and_true] at hO hD; go_simp; rfl)
          simp only [an1, an2]
          refine Free.Chain.ex ?_ [(0, 35)] [] (by kernel_rfl) (by kernel_rfl) rfl Free.Bel.refl ?_ ?_
          rotate_left
          · (intro ev W hb hR hO hD; have hS := hF W hR; obtain ⟨hb1, hb2, hb3⟩ := hb; simp only [Free.AllDeps, Free.AllOuts, Free.At, al1, al2, al3, al4, al5, and_true] at hO hD; go_simp; rfl)
          simp only [an1, an2]
          refine Free.Chain.ex ?_ [(1, 36)] [] (by kernel_rfl) (by kernel_rfl) rfl Free.Bel.refl ?_ ?_
          rotate_left
          · (intro ev W hb hR hO hD; have hS := hF W hR; obtain ⟨hb1, hb2, hb3⟩ := hb; simp only [Free.AllDeps, Free.AllOuts, Free.At, al1, al2, al3, al4, al5, and_true] at hO hD; go_simp; rfl)
          simp only [an1, an2]
          refine Free.Chain.ex ?_ [(2, 37)] [] (by kernel_rfl) (by kernel_rfl) rfl Free.Bel.refl ?_ ?_
          rotate_left
          · (intro ev W hb hR hO hD; have hS := hF W hR; obtain ⟨hb1, hb2, hb3⟩ := hb; simp only [Free.AllDeps, Free.AllOuts, Free.At, al1, al2, al3, al4, al5, and_true] at hO hD; go_simp; rfl)
          simp only [an1, an2]
          refine Free.Chain.exG ?_ [(3, 38)] [4] 3 false 38 (by kernel_rfl) (by kernel_rfl) rfl (by kernel_rfl) Free.Bel.refl ?_ ?_
          rotate_left
          · (intro ev W hb hR hO hD; have hS := hF W hR; obtain ⟨hb1, hb2, hb3⟩ := hb; simp only [Free.AllDeps, Free.AllOuts, Free.At, al1, al2, al3, al4, al5, and_true] at hO hD; refine ⟨by simp [hD], ?_⟩; go_simp; rfl)
          simp only [an1, an2]
          refine Free.Chain.exG ?_ [(4, 39), (3, 38)] [] 3 false 38 (by kernel_rfl) (by kernel_rfl) rfl (by kernel_rfl) Free.Bel.refl ?_ ?_
          rotate_left
          · (intro ev W hb hR hO hD; have hS := hF W hR; obtain ⟨hb1, hb2, hb3⟩ := hb; simp only [Free.AllDeps, Free.AllOuts, Free.At, al1, al2, al3, al4, al5, and_true] at hO hD; refine ⟨by simp [hD], ?_⟩; go_simp; rfl)
          simp only [an1, an2]
          refine Free.Chain.exG ?_ [(5, 40), (3, 38)] [] 3 false 38 (by kernel_rfl) (by kernel_rfl) rfl (by kernel_rfl) Free.Bel.refl ?_ ?_
          rotate_left
          · (intro ev W hb hR hO hD; have hS := hF W hR; obtain ⟨hb1, hb2, hb3⟩ := hb; simp only [Free.AllDeps, Free.AllOuts, Free.At, al1, al2, al3, al4, al5, and_true] at hO hD; refine ⟨by simp [hD], ?_⟩; go_simp; rfl)
          simp only [an1, an2]
          refine Free.Chain.exG ?_ [(6, 41), (3, 38)] [] 3 false 38 (by kernel_rfl) (by kernel_rfl) rfl (by kernel_rfl) Free.Bel.refl ?_ ?_
          rotate_left
          · (intro ev W hb hR hO hD; have hS := hF W hR; obtain ⟨hb1, hb2, hb3⟩ := hb; simp only [Free.AllDeps, Free.AllOuts, Free.At, al1, al2, al3, al4, al5, and_true] at hO hD; refine ⟨by simp [hD], ?_⟩; go_simp; rfl)
          simp only [an1, an2]
          refine Free.Chain.exG ?_ [(3, 38)] [8] 3 false 38 (by kernel_rfl) (by kernel_rfl) rfl (by kernel_rfl) Free.Bel.refl ?_ ?_
          rotate_left
          · (intro ev W hb hR hO hD; have hS := hF W hR; obtain ⟨hb1, hb2, hb3⟩ := hb; simp only [Free.AllDeps, Free.AllOuts, Free.At, al1, al2, al3, al4, al5, and_true] at hO hD; refine ⟨by simp [hD], ?_⟩; go_simp; rfl)
          simp only [an1, an2]
          refine Free.Chain.exG ?_ [(7, 42), (8, 43), (3, 38)] [] 3 false 38 (by kernel_rfl) (by kernel_rfl) rfl (by kernel_rfl) Free.Bel.refl ?_ ?_
          rotate_left
          · (intro ev W hb hR hO hD; have hS := hF W hR; obtain ⟨hb1, hb2, hb3⟩ := hb; simp only [Free.AllDeps, Free.AllOuts, Free.At, al1, al2, al3, al4, al5, and_true] at hO hD; refine ⟨by simp [hD], ?_⟩; go_simp; rfl)
          simp only [an1, an2]
          refine Free.Chain.exG ?_ [(9, 44), (3, 38)] [] 3 false 38 (by kernel_rfl) (by kernel_rfl) rfl (by kernel_rfl) Free.Bel.refl ?_ ?_
          rotate_left
          · (intro ev W hb hR hO hD; have hS := hF W hR; obtain ⟨hb1, hb2, hb3⟩ := hb; simp only [Free.AllDeps, Free.AllOuts, Free.At, al1, al2, al3, al4, al5, and_true] at hO hD; refine ⟨by simp [hD], ?_⟩; go_simp; rfl)
          simp only [an1, an2]
          refine Free.Chain.ex ?_ [(3, 38), (10, 45)] [] (by kernel_rfl) (by kernel_rfl) rfl Free.Bel.refl ?_ ?_
          rotate_left
          · (intro ev W hb hR hO hD; have hS := hF W hR; obtain ⟨hb1, hb2, hb3⟩ := hb; simp only [Free.AllDeps, Free.AllOuts, Free.At, al1, al2, al3, al4, al5, and_true] at hO hD; go_simp; rfl)
          simp only [an1, an2]
          intro ys w6 hR hV
          simp only [Free.AllV, Free.At, List.length_cons, List.length_nil, Nat.reduceAdd, List.getElem?_cons_succ, List.getElem?_cons_zero, true_and, and_true] at hV
          simp only [Free.putsFrom, Act.put, Nat.zero_add, Nat.reduceAdd, hV, List.setIfInBounds_toArray, List.set_cons_succ, List.set_cons_zero]
          have K6 : Free.Bel w5 w6 := bt (Bel.drewT (Free.Bel.refl _)) hR
          have q5 := (K6.block _ (lt_of_heap HK5.out.2.1)).trans HK5.out.2.1
          have q6 := (K6.block _ (lt_of_heap HK5.out.2.2)).trans HK5.out.2.2
          have HQ := Lib.hid (And.intro (bt HK5.out.1 K6) (And.intro q5 q6))
          obtain ⟨y0, y1, y2, y3, _⟩ := cells4 q5
          obtain ⟨z0, z1, z2, z3, f0, f1, f2, f3⟩ := cells4 q6
          clear hR hV hF K6 q5 q6
          cases r with
          | false =>
            go_wp2_with fail
            go_ret2
            refine ⟨.inr (.inr ⟨rfl, HNE.out, k, ⟨HOK.out, fun hok => ?_⟩, rfl⟩), bt HB1.out HQ.out.1⟩
            have h9 : everB h (idle xs (k + 1)) = true := hok.2
            rw [HCS.out.2.2] at h9
            cases h9
          | true =>
            have HNX := Lib.hid (show Free.Bel w1 (((((w6.setCell ⟨g, 0, none⟩ (.int .i64 (RS 0))).setCell ⟨g, 1, none⟩ (.int .i64 (RS 1))).setCell ⟨g, 2, none⟩ (.int .i64 (RS 2))).setCell ⟨g, 3, none⟩ (.int .i64 (RS 3))).alloc (.cells (arrV RS) 109)) ∧ (((((w6.setCell ⟨g, 0, none⟩ (.int .i64 (RS 0))).setCell ⟨g, 1, none⟩ (.int .i64 (RS 1))).setCell ⟨g, 2, none⟩ (.int .i64 (RS 2))).setCell ⟨g, 3, none⟩ (.int .i64 (RS 3))).alloc (.cells (arrV RS) 109)).heap[w6.heap.size]? = some (.cells (arrV RS) 109 (0, 0)) from by
              have hg := HKG.out.2.2
              have h1 : Below w1.heap.size w1 ((((w6.setCell ⟨g, 0, none⟩ (.int .i64 (RS 0))).setCell ⟨g, 1, none⟩ (.int .i64 (RS 1))).setCell ⟨g, 2, none⟩ (.int .i64 (RS 2))).setCell ⟨g, 3, none⟩ (.int .i64 (RS 3))) := (((Below.setCell (show Below w1.heap.size w1 w6 from HQ.out.1) (by simpa using hg) _).setCell (by simpa using hg) _).setCell (by simpa using hg) _).setCell (by simpa using hg) _
              refine ⟨Below.trans h1 (Below.mono (belAlloc _ _) h1.size), ?_⟩
              have := World.alloc_heap_new ((((w6.setCell ⟨g, 0, none⟩ (.int .i64 (RS 0))).setCell ⟨g, 1, none⟩ (.int .i64 (RS 1))).setCell ⟨g, 2, none⟩ (.int .i64 (RS 2))).setCell ⟨g, 3, none⟩ (.int .i64 (RS 3))) (.cells (arrV RS) 109)
              simpa using this)
            go_wp2_with fail
            go_roundw
            case rel => exact ⟨k + 1, w6.heap.size, by go_num, rfl, HNX.out.1, by rw [HSS.out.2.1]; exact HNX.out.2, HQ.out.1.size, fun j h0 hj => by
              by_cases h9 : j ≤ k
              · exact HOK.out j h0 h9
              · obtain rfl : j = k + 1 := by omega
                exact ⟨HCS.out.1, HCS.out.2.2⟩⟩
            case measure => simp [intOf]; omega
  · have g0 : (c != 0) = true := by simp [hc0]
    have HC := Lib.hid hc0
    clear hT m0 hc hc0
    go_enter Tryd.func53, Tryd.ntmps53
    go_wp2_with fail
    refine HGO.out.mono ?_
    rintro e w1 ⟨hG, hB1⟩
    obtain rfl : e = .returned (.tuple #[.pointer none, .int .i64 c]) := by
      rcases hG with ⟨_, h9⟩ | ⟨h9, _⟩
      · exact h9
      · exact absurd h9 HC.out
    have HB := Lib.hid (bt HKB.out.1 hB1)
    clear hG hB1
    go_wp2_with fail
    go_ret2
    exact ⟨.inl ⟨HC.out, rfl⟩, HB.out⟩
end Go.Proofs.YtknpglgpkkhhiaaDoor

/- The share. -/
namespace Go.Proofs.YtknpglgpkkhhiaaDoor
set_option linter.unusedSimpArgs false
set_option linter.unusedVariables false
open Go.RowKit Go.Proofs.YtknpglgpkkhhiaaDoor.Free2 Go.Proofs.YtknpglgpkkhhiaaDoor.ML RR

def shareI (xs : List Rk) : Int := sumI (xs.map fun x => 60 / x.2.1)
def ShPost (h : Int) (xs : List Rk) (e : Ending) : Prop := (watchB h xs = false ∧ e = .returned (.tuple #[.agg #[.int .i64 0, .int .i64 0], .int .i64 70])) ∨ (watchB h xs = true ∧ e = .returned (.tuple #[partV (shareI xs).toNat 60, .int .i64 0]))
theorem share_step (n d S c E : Int) (h : n * 60 = S * d) (hE : c * E = 60) : (n * E + d) * 60 = (S + c) * (d * E) := by
  have h1 : (S + c) * (d * E) = S * d * E + c * E * d := by
    rw [Int.add_mul, Int.mul_assoc S d E, Int.mul_comm d E, ← Int.mul_assoc c E d]
  rw [h1, hE, ← h, Int.add_mul, Int.mul_right_comm n E 60, Int.mul_comm 60 d]
theorem share_bound (k : Nat) (n d E : Int) (h0 : 0 ≤ n) (hn : n ≤ k * 6 ^ k) (hd0 : 1 ≤ d) (hd : d ≤ 6 ^ k) (h1 : 1 ≤ E) (h6 : E ≤ 6) : 0 ≤ n * E + d ∧ n * E + d ≤ (k + 1 : Nat) * 6 ^ (k + 1) ∧ 1 ≤ d * E ∧ d * E ≤ 6 ^ (k + 1) ∧ 0 ≤ n * E := by
  have hP : (0 : Int) ≤ 6 ^ k := Int.pow_nonneg (by omega)
  have a1 : n * E ≤ (k * 6 ^ k) * 6 := Int.mul_le_mul hn h6 (by omega) (Int.mul_nonneg (by omega) hP)
  have a2 : d * E ≤ 6 ^ k * 6 := Int.mul_le_mul hd h6 (by omega) hP
  have a3 : 0 ≤ n * E := Int.mul_nonneg h0 (by omega)
  have a4 : 1 * 1 ≤ d * E := Int.mul_le_mul hd0 h1 (by omega) (by omega)
  have e1 : (6 : Int) ^ (k + 1) = 6 ^ k * 6 := Int.pow_succ 6 k
  have e2 : ((k + 1 : Nat) : Int) * 6 ^ (k + 1) = (k * 6 ^ k) * 6 + 6 ^ k * 6 := by
    rw [e1, Int.natCast_add, Int.add_mul, ← Int.mul_assoc]
    simp
  rw [e2, e1]
  generalize (k : Int) * 6 ^ k = M at *
  generalize (6 : Int) ^ k = P at *
  omega
theorem sixty {E : Int} (h1 : 1 ≤ E) (h6 : E ≤ 6) : (60 / E) * E = 60 := by
  rcases (show E = 1 ∨ E = 2 ∨ E = 3 ∨ E = 4 ∨ E = 5 ∨ E = 6 by omega) with rfl | rfl | rfl | rfl | rfl | rfl <;> decide
theorem sumI_append (a b : List Int) : sumI (a ++ b) = sumI a + sumI b := by
  induction a with
  | nil => simp [sumI]
  | cons x r ih => simp only [List.cons_append, sumI, ih]; omega
theorem pow6 {k : Nat} (h : k ≤ 4) : (6 : Int) ^ k ≤ 1296 ∧ (k : Int) * 6 ^ k ≤ 5184 := by
  rcases (show k = 0 ∨ k = 1 ∨ k = 2 ∨ k = 3 ∨ k = 4 by omega) with rfl | rfl | rfl | rfl | rfl <;> decide
theorem share_nonneg {h : Int} {xs : List Rk} (hw : watchB h xs = true) : 0 ≤ shareI xs := by
  have key : ∀ xs : List Rk, (∀ x ∈ xs, okR x) → 0 ≤ shareI xs := by
    intro xs
    induction xs with
    | nil => exact fun _ => Int.le_refl _
    | cons x r ih =>
      intro hx
      have h1 := ih fun y hy => hx y (by simp [hy])
      have h2 := hx x (by simp)
      unfold okR at h2
      have h3 : 0 ≤ 60 / x.2.1 := Int.ediv_nonneg (by omega) (by omega)
      unfold shareI at h1 ⊢
      simp only [List.map_cons, sumI]
      omega
  exact key xs (watchB_ok hw)
set_option maxRecDepth 100000 in
set_option maxHeartbeats 8000000 in
theorem shareP_any (h : Int) (xs : List Rk) (u : Value) (w : World) (hT : TabR w) (hu : RL xs u w) :
    Calls Tryd.prog 30 #[.agg #[.int .i64 h, u]] w fun e w' => ShPost h xs e ∧ Below w.heap.size w w' := by
  have HU := Lib.hid hu
  obtain ⟨p, cp, rfl, hm, hp⟩ := hu
  have HP := Lib.hid hp
  have KB : Free.Bel w ((w.alloc (.cells #[.int .i64 h, .slice p xs.length cp] 24)).alloc (.cells #[.int .i64 0, .int .i64 0] 51)) := bt (belAlloc _ _) (belAlloc _ _)
  have m0 : ((w.alloc (.cells #[.int .i64 h, .slice p xs.length cp] 24)).alloc (.cells #[.int .i64 0, .int .i64 0] 51)).heap[w.heap.size]? = some (.cells #[.int .i64 h, .slice p xs.length cp] 24 (0, 0)) := heap_old (World.alloc_heap_new w _)
  have m1 : ((w.alloc (.cells #[.int .i64 h, .slice p xs.length cp] 24)).alloc (.cells #[.int .i64 0, .int .i64 0] 51)).heap[w.heap.size + 1]? = some (.cells #[.int .i64 0, .int .i64 0] 51 (0, 0)) := by
    have := World.alloc_heap_new (w.alloc (.cells #[.int .i64 h, .slice p xs.length cp] 24)) (.cells #[.int .i64 0, .int .i64 0] 51)
    simpa using this
  have FA : ∀ W, Free.Bel ((w.alloc (.cells #[.int .i64 h, .slice p xs.length cp] 24)).alloc (.cells #[.int .i64 0, .int .i64 0] 51)) W → W.cell? ⟨w.heap.size, 0, none⟩ = some (.int .i64 h) ∧ W.cell? ⟨w.heap.size, 1, none⟩ = some (.slice p xs.length cp) := fun W hW => ⟨keepsB hW (cell_of_heap m0 rfl), keepsB hW (cell_of_heap m0 rfl)⟩
  have KE : Free.Bel ((w.alloc (.cells #[.int .i64 h, .slice p xs.length cp] 24)).alloc (.cells #[.int .i64 0, .int .i64 0] 51)) ((w.alloc (.cells #[.int .i64 h, .slice p xs.length cp] 24)).alloc (.cells #[.int .i64 0, .int .i64 0] 51)) := Free.Bel.refl _
  have HCK := Lib.hid (fun c hc => checkP_v h xs _ ((w.alloc (.cells #[.int .i64 h, .slice p xs.length cp] 24)).alloc (.cells #[.int .i64 0, .int .i64 0] 51)) (hT.bel KB) (HU.out.keeps KB) c hc)
  have HKB := Lib.hid (And.intro KB m1)
  cases hw : watchB h xs with
  | false =>
    have HC := Lib.hid (HCK.out 70 (by show _ = _; simp [hw]))
    have HW0 := Lib.hid hw
    clear hT m0 m1 hw HCK hp
    go_enter Tryd.func30, Tryd.ntmps30
    go_wp2_with fail
    refine HC.out.mono ?_
    rintro e w1 ⟨rfl, hB1⟩
    have K1 : Free.Bel ((w.alloc (.cells #[.int .i64 h, .slice p xs.length cp] 24)).alloc (.cells #[.int .i64 0, .int .i64 0] 51)) w1 := hB1
    have n1 := (K1.block _ (lt_of_heap HKB.out.2)).trans HKB.out.2
    have y0 := cell_of_heap (o := 0) n1 rfl
    have y1 := cell_of_heap (o := 1) n1 rfl
    have f0 := frozen_of_heap (o := 0) n1
    have f1 := frozen_of_heap (o := 1) n1
    have HB := Lib.hid (bt KB K1)
    clear hB1 n1
    go_wp2_with fail
    exact bodyPost_ret (v := .tuple #[.agg #[.int .i64 0, .int .i64 0], .int .i64 70]) (by simp [results, Tryd.results30, go_sem, y0, y1]) rfl ⟨.inl ⟨HW0.out, rfl⟩, (HB.out.setCell (by simp) _).setCell (by simp) _⟩
  | true =>
    have HC := Lib.hid (HCK.out 0 (by show _ = _; simp [hw]))
    have hl4 := (watchB_iff.1 hw).2.1
    have HW := Lib.hid hw
    clear hT m0 m1 hw HCK hp
    go_enter Tryd.func30, Tryd.ntmps30
    go_wp2_with fail
    refine HC.out.mono ?_
    rintro e w1 ⟨rfl, hB1⟩
    have K1 : Free.Bel ((w.alloc (.cells #[.int .i64 h, .slice p xs.length cp] 24)).alloc (.cells #[.int .i64 0, .int .i64 0] 51)) w1 := hB1
    have HK1 := Lib.hid K1
    clear hB1
    go_wp2_with fail
    clear K1 KE FA KB
    go_loopw [18, 5, 6] (fun i n d wr => ∃ (k : Nat) (nv dv : Int), k ≤ xs.length ∧ i = .int .i64 k ∧ n = .int .i64 nv ∧ d = .int .i64 dv ∧ Free.Bel ((w.alloc (.cells #[.int .i64 h, .slice p xs.length cp] 24)).alloc (.cells #[.int .i64 0, .int .i64 0] 51)) wr ∧ 0 ≤ nv ∧ nv ≤ k * 6 ^ k ∧ 1 ≤ dv ∧ dv ≤ 6 ^ k ∧ Hid (nv * 60 = shareI (xs.take k) * dv)) (fun i _ _ _ => xs.length - (intOf i).toNat)
    case atStart => exact ⟨0, 0, 1, Nat.zero_le _, rfl, rfl, rfl, HK1.out, by omega, by decide, by omega, by decide, (show (0 : Int) * 60 = shareI (xs.take 0) * 1 by simp [shareI, sumI])⟩
    case round =>
      obtain ⟨k, nv, dv, hk, rfl, rfl, rfl, hK, h0, h1, h2, h3, HEQ⟩ := hrel
      by_cases hlt : k < xs.length
      · have hx : xs ≠ [] := by intro e; simp [e] at hlt
        obtain ⟨b, off, rfl, hcp⟩ := HP.out hx
        obtain ⟨d1, d2, d3⟩ := hcp k hlt
        have e1 := keepsB (bt HKB.out.1 hK) d1
        have e2 := keepsB (bt HKB.out.1 hK) d2
        have e3 := keepsB (bt HKB.out.1 hK) d3
        have hklt : (k : Int) < xs.length := by omega
        have hok := watchB_ok HW.out xs[k] (List.getElem_mem hlt)
        unfold okR at hok
        have htk : Hid (shareI (xs.take (k + 1)) = shareI (xs.take k) + 60 / xs[k].2.1) := by
          show _ = _
          rw [List.take_succ_eq_append_getElem hlt, shareI, List.map_append, sumI_append]
          simp [shareI, sumI]
        obtain ⟨b1, b2, b3, b4, b5⟩ := share_bound k nv dv xs[k].2.1 h0 h1 h2 h3 hok.2.2.1 hok.2.2.2.1
        obtain ⟨p1, p2⟩ := pow6 (show k + 1 ≤ 4 by omega)
        obtain ⟨p3, p4⟩ := pow6 (show k ≤ 4 by omega)
        have hb3 : 1 ≤ dv * xs[k].2.1 := b3
        have HB := Lib.hid (And.intro b1 (And.intro b2 (And.intro b3 b4)))
        have hd9 : dv ≤ 1296 := by omega
        have hn9 : nv ≤ 5184 := by omega
        have hs9 : nv * xs[k].2.1 + dv ≤ 5184 := Int.le_trans b2 p2
        have hm9 : dv * xs[k].2.1 ≤ 1296 := Int.le_trans b4 p1
        clear hcp hx d1 d2 d3 b2 b4 p1 p2 p3 p4 h1 h3
        have HSX := Lib.hid (sixty hok.2.2.1 hok.2.2.2.1)
        generalize xs[k] = x at *
        obtain ⟨x1, x2, x3⟩ := x
        simp only at *
        have hw1 : IntKind.i64.wrap (nv * x2) = nv * x2 := IntWalk.i64_in _ (by omega)
        have hw2 : IntKind.i64.wrap (nv * x2 + dv) = nv * x2 + dv := IntWalk.i64_in _ (by omega)
        have hw3 : IntKind.i64.wrap (dv * x2) = dv * x2 := IntWalk.i64_in _ (by omega)
        have hkw : IntKind.i64.wrap ((k : Int) + 1) = (k : Int) + 1 := IntWalk.i64_in _ (by omega)
        have KA : Free.Bel wr (wr.alloc (.cells #[.int .i64 x1, .int .i64 x2, .int .i64 x3] 47)) := belAlloc _ _
        have hx1 : (wr.alloc (.cells #[.int .i64 x1, .int .i64 x2, .int .i64 x3] 47)).cell? ⟨wr.heap.size, 1, none⟩ = some (.int .i64 x2) := by simp [go_sem]
        have HKA := Lib.hid (bt hK KA)
        go_wp2_with fail
        clear e1 e2 e3
        go_quiet (fail)
        go_wp2_with fail
        go_roundw
        case rel =>
          refine ⟨k + 1, nv * x2 + dv, dv * x2, by omega, by go_num, rfl, rfl, ?_, HB.out.1, HB.out.2.1, HB.out.2.2.1, HB.out.2.2.2, ?_⟩
          · exact bt HKA.out (belN _ _)
          · show _ = _
            rw [htk.out]
            exact share_step nv dv _ _ x2 HEQ.out HSX.out
        case measure => simp [intOf]; omega
      · obtain rfl : k = xs.length := by omega
        have hd9 := (pow6 (k := xs.length) (by omega))
        have hnn := share_nonneg HW.out
        rw [List.take_length] at HEQ
        have heq : partV nv.toNat dv.toNat = partV (shareI xs).toNat 60 := by
          have h9 : Samp.lowest nv.toNat dv.toNat = Samp.lowest (shareI xs).toNat 60 := by
            refine Samp.lowest_cross (by omega) (by decide) ?_
            have := HEQ.out
            obtain ⟨a, rfl⟩ := Int.eq_ofNat_of_zero_le h0
            obtain ⟨b, rfl⟩ := Int.eq_ofNat_of_zero_le (show 0 ≤ dv by omega)
            obtain ⟨s, hs⟩ := Int.eq_ofNat_of_zero_le hnn
            rw [hs] at this ⊢
            simp only [Int.toNat_natCast]
            exact_mod_cast this
          unfold partV
          rw [h9]
        have HPT := Lib.hid (part_int nv dv h0 (by omega) (by omega) (by omega) _ heq wr)
        have HK := Lib.hid hK
        clear hK hd9 hnn heq h1 h3
        go_wp2_with fail
        refine HPT.out.mono ?_
        rintro e w5 ⟨rfl, hB5⟩
        have K5 : Free.Bel ((w.alloc (.cells #[.int .i64 h, .slice p xs.length cp] 24)).alloc (.cells #[.int .i64 0, .int .i64 0] 51)) w5 := bt HK.out hB5
        have n1 := (K5.block _ (lt_of_heap HKB.out.2)).trans HKB.out.2
        have y0 := cell_of_heap (o := 0) n1 rfl
        have y1 := cell_of_heap (o := 1) n1 rfl
        have f0 := frozen_of_heap (o := 0) n1
        have f1 := frozen_of_heap (o := 1) n1
        have HB := Lib.hid (bt HKB.out.1 K5)
        obtain ⟨q1, hq1⟩ : ∃ y, ((Samp.lowest (shareI xs).toNat 60).1 : Int) = y := ⟨_, rfl⟩
        obtain ⟨q2, hq2⟩ : ∃ y, ((Samp.lowest (shareI xs).toNat 60).2 : Int) = y := ⟨_, rfl⟩
        have hpv : partV (shareI xs).toNat 60 = .agg #[.int .i64 q1, .int .i64 q2] := by unfold partV; rw [hq1, hq2]
        have HPV := Lib.hid hpv
        rw [hpv]
        clear hB5 n1 hpv hq1 hq2
        go_wp2_with fail
        exact bodyPost_ret (v := .tuple #[.agg #[.int .i64 q1, .int .i64 q2], .int .i64 0]) (by simp [results, Tryd.results30, go_sem, y0, y1]) rfl ⟨.inr ⟨HW.out, by rw [HPV.out]⟩, (HB.out.setCell (by simp) _).setCell (by simp) _⟩
end Go.Proofs.YtknpglgpkkhhiaaDoor

