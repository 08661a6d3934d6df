/- A region that draws its order and makes rows, appends to them and takes them up again: what each row holds until it is taken. -/
import Derived.Test.YtknpglgpkkhhiaaDoorE2
import Derived.Shelf.RegionOpen
import Derived.Sort.QuietTacIn
namespace Go.Proofs.YtknpglgpkkhhiaaDoor
set_option linter.unusedSimpArgs false
set_option linter.unusedVariables false
open Go.RowKit Go.Proofs.YtknpglgpkkhhiaaDoor.Free2

/-- Operation i yields a row of n elements with these cells; operation j takes it. -/
structure JE where
  i : Nat
  j : Nat
  n : Nat
  cs : List Value
/-- Blocks below s0, but one, stay. -/
structure RZ (s0 rb : Nat) (a b : World) : Prop where
  os : b.os = a.os
  tape : b.tape = a.tape
  output : b.output = a.output
  size : a.heap.size ≤ b.heap.size
  block : ∀ k, k < s0 → k ≠ rb → b.heap[k]? = a.heap[k]?
structure JR (base : Nat) (e : TypeId) (sz : Nat) (L : List JE) (X : XT) (w : World) : Prop where
  nv : X 1000 = none
  size : base ≤ w.heap.size
  row : ∀ a ∈ L, X a.j = none → ∀ v, X a.i = some v → w.ownsRow base e sz v a.n a.cs
  ne : ∀ a ∈ L, ∀ b ∈ L, a.i ≠ b.i → X a.j = none → X b.j = none → ∀ v u, X a.i = some v → X b.i = some u → ∀ k, u.ownBlock = some k → Off v k
section
variable {base s0 rb : Nat} {e : TypeId} {sz : Nat} {L : List JE} {X : XT} {w w' a b c : World}
theorem RZ.refl (s0 rb : Nat) (a : World) : RZ s0 rb a a := ⟨rfl, rfl, rfl, Nat.le_refl _, fun _ _ _ => rfl⟩
theorem RZ.trans (a b c : World) (h : RZ s0 rb a b) (k : RZ s0 rb b c) : RZ s0 rb a c := ⟨k.os.trans h.os, k.tape.trans h.tape, k.output.trans h.output, Nat.le_trans h.size k.size, fun i hi hn => (k.block i hi hn).trans (h.block i hi hn)⟩
theorem RZ.of_below (h : Below s0 a b) : RZ s0 rb a b := ⟨h.os, h.tape, h.output, h.size, fun k hk _ => h.block k hk⟩
theorem RZ.of_bel (h : Free.Bel a b) (hs : s0 ≤ a.heap.size) : RZ s0 rb a b := .of_below (h.mono hs)
theorem RZ.set {o : Nat} {v : Value} : RZ s0 rb a (a.setCell ⟨rb, o, none⟩ v) := ⟨rfl, rfl, rfl, by simp, fun k _ hn => Below.heap_setCell _ _ _ _ (by simpa using hn)⟩
theorem RZ.cell (h : RZ s0 rb a b) {p : Addr} {v : Value} (hv : a.cell? p = some v) (hs : p.block < s0) (hn : p.block ≠ rb) : b.cell? p = some v := (World.cell?_of_block (h.block _ hs hn)).trans hv
theorem RZ.below {w0 : World} {s : Nat} (h0 : Below s w0 a) (h : RZ s0 rb a b) (hs : s ≤ s0) (hr : s ≤ rb) : Below s w0 b :=
  ⟨h.os.trans h0.os, h.tape.trans h0.tape, h.output.trans h0.output, Nat.le_trans h0.size h.size, fun k hk => (h.block k (by omega) (by omega)).trans (h0.block k hk)⟩
theorem row_block {base : Nat} {e : TypeId} {size n : Nat} {v : Value} {xs : List Value} (ho : a.ownsRow base e size v n xs) (h : ∀ k, v.ownBlock = some k → k < a.heap.size → b.heap[k]? = a.heap[k]?) : b.ownsRow base e size v n xs := by
  obtain ⟨h3, h4⟩ := ho
  refine ⟨h3, h4.imp id ?_⟩
  rintro ⟨g, cap, cur, rfl, hb, hg, r⟩
  exact ⟨g, cap, cur, rfl, hb, (h g rfl (lt_of_heap hg)).trans hg, r⟩
theorem JR.start (hs : base ≤ w.heap.size) : JR base e sz L (fun _ => none) w := ⟨rfl, hs, fun _ _ _ _ h => (by cases h), fun _ _ _ _ _ _ _ _ _ h => (by cases h)⟩
theorem JR.skip (h : JR base e sz L X w) (n : Nat) (v : Value) (hn : ∀ x ∈ L, n ≠ x.i ∧ n ≠ x.j) (h9 : n ≠ 1000) : JR base e sz L (upd X n v) w :=
  ⟨(upd_other X v h9.symm).trans h.nv, h.size, fun x hx => by rw [upd_other _ _ (hn x hx).1.symm, upd_other _ _ (hn x hx).2.symm]; exact h.row x hx,
   fun x hx y hy => by rw [upd_other _ _ (hn x hx).1.symm, upd_other _ _ (hn x hx).2.symm, upd_other _ _ (hn y hy).1.symm, upd_other _ _ (hn y hy).2.symm]; exact h.ne x hx y hy⟩
theorem JR.bel (h : JR base e sz L X w) (hB : Free.Bel w w') : JR base e sz L X w' :=
  ⟨h.nv, Nat.le_trans h.size hB.size, fun x hx h1 v h2 => bel_row (h.row x hx h1 v h2) hB, h.ne⟩
/-- A store into a block that no row lies in. -/
theorem JR.blocks (h : JR base e sz L X w) (hs : w.heap.size ≤ w'.heap.size) (hb : ∀ k, base ≤ k → k < w.heap.size → w'.heap[k]? = w.heap[k]?) : JR base e sz L X w' :=
  ⟨h.nv, Nat.le_trans h.size hs, fun x hx h1 v h2 => row_block (h.row x hx h1 v h2) fun k hk hl => hb k (by
    rcases (h.row x hx h1 v h2).2 with ⟨rfl, _⟩ | ⟨g, cap, cur, rfl, hg, _⟩
    · simp [Value.ownBlock] at hk
    · simp [Value.ownBlock] at hk; omega) hl, h.ne⟩
theorem JR.new (h : JR base e sz L X w) (x : JE) (hx : x ∈ L) (hd : ∀ y ∈ L, y.j ≠ x.i ∧ (y.i = x.i → y = x)) {v : Value} (hB : Free.Bel w w') (ho : w'.ownsRow w.heap.size e sz v x.n x.cs) (h9 : x.i ≠ 1000) : JR base e sz L (upd X x.i v) w' := by
  refine ⟨(upd_other X v h9.symm).trans h.nv, Nat.le_trans h.size hB.size, fun y hy h1 u h2 => ?_, fun y hy z hz hyz h1 h2 u t h3 h4 k hk => ?_⟩
  · rw [upd_other _ _ (hd y hy).1] at h1
    by_cases hyx : y.i = x.i
    · have := (hd y hy).2 hyx
      subst this
      rw [upd_same] at h2
      cases h2
      exact row_mono ho h.size
    · rw [upd_other _ _ hyx] at h2
      exact bel_row (h.row y hy h1 u h2) hB
  · rw [upd_other _ _ (hd y hy).1] at h1
    rw [upd_other _ _ (hd z hz).1] at h2
    have hkr : ∀ (z : JE), z ∈ L → X z.j = none → ∀ t, X z.i = some t → ∀ k, t.ownBlock = some k → k < w.heap.size := by
      intro z hz h2 t h4 k hk
      rcases (h.row z hz h2 t h4).2 with ⟨rfl, _⟩ | ⟨g, cap, cur, rfl, hg, hgg, _⟩
      · simp [Value.ownBlock] at hk
      · have := lt_of_heap hgg
        simp [Value.ownBlock] at hk; omega
    by_cases hyx : y.i = x.i
    · have hzx : z.i ≠ x.i := fun e => hyz (hyx.trans e.symm)
      rw [hyx, upd_same] at h3
      cases h3
      rw [upd_other _ _ hzx] at h4
      exact off_base ho (hkr z hz h2 t h4 k hk)
    · rw [upd_other _ _ hyx] at h3
      by_cases hzx : z.i = x.i
      · rw [hzx, upd_same] at h4
        cases h4
        refine off_new (h.row y hy h1 u h3) ?_
        rcases ho.2 with ⟨rfl, _⟩ | ⟨g, cap, cur, rfl, hg, _⟩
        · simp [Value.ownBlock] at hk
        · simp [Value.ownBlock] at hk; omega
      · rw [upd_other _ _ hzx] at h4
        exact h.ne y hy z hz hyz h1 h2 u t h3 h4 k hk
/-- Row x is taken by the operation that yields row y. -/
theorem JR.take (h : JR base e sz L X w) (x y : JE) (hx : x ∈ L) (hy : y ∈ L) (hxy : x.j = y.i) (hd : ∀ z ∈ L, (z.i = y.i → z = y) ∧ (z.i = x.i → z = x) ∧ z.i ≠ z.j) (hyj : y.j ≠ y.i) {v v' : Value} (hv : X x.i = some v) (hn : X y.i = none) (hR : RowK v w v' w') (ho : w'.ownsRow base e sz v' y.n y.cs) (h9 : y.i ≠ 1000) :
    JR base e sz L (upd X y.i v') w' := by
  have hold : ∀ z ∈ L, z.i ≠ y.i → (upd X y.i v') z.j = none → ∀ u, (upd X y.i v') z.i = some u → X z.j = none ∧ X z.i = some u ∧ z.i ≠ x.i := by
    intro z hz hzy h1 u h2
    have hj : z.j ≠ y.i := by intro e; rw [e, upd_same] at h1; cases h1
    rw [upd_other _ _ hj] at h1
    rw [upd_other _ _ hzy] at h2
    refine ⟨h1, h2, fun e => ?_⟩
    have := (hd z hz).2.1 e
    subst this
    exact hj hxy
  have hxj : X x.j = none := by rw [hxy]; exact hn
  have hoff : ∀ z ∈ L, z.i ≠ x.i → X z.j = none → ∀ u, X z.i = some u → ∀ k, u.ownBlock = some k → Off v k ∧ k < w.heap.size := by
    intro z hz hzx h1 u h2 k hk
    refine ⟨h.ne x hx z hz (Ne.symm hzx) hxj h1 v u hv h2 k hk, ?_⟩
    rcases (h.row z hz h1 u h2).2 with ⟨rfl, _⟩ | ⟨g, cap, cur, rfl, hg, hgg, _⟩
    · simp [Value.ownBlock] at hk
    · have := lt_of_heap hgg
      simp [Value.ownBlock] at hk; omega
  refine ⟨(upd_other X v' h9.symm).trans h.nv, Nat.le_trans h.size hR.size, fun z hz h1 u h2 => ?_, fun z hz t ht hzt h1 h2 u s h3 h4 k hk => ?_⟩
  · by_cases hzy : z.i = y.i
    · have := (hd z hz).1 hzy
      subst this
      rw [upd_same] at h2
      cases h2
      exact ho
    · obtain ⟨g1, g2, g3⟩ := hold z hz hzy h1 u h2
      exact row_block (h.row z hz g1 u g2) fun k hk hl => (hR.keep k hl (hoff z hz g3 g1 u g2 k hk).1).2
  · by_cases hzy : z.i = y.i
    · have hty : t.i ≠ y.i := fun e => hzt (hzy.trans e.symm)
      obtain ⟨g1, g2, g3⟩ := hold t ht hty h2 s h4
      rw [hzy, upd_same] at h3
      cases h3
      obtain ⟨o1, o2⟩ := hoff t ht g3 g1 s g2 k hk
      exact hR.off o1 o2
    · obtain ⟨g1, g2, g3⟩ := hold z hz hzy h1 u h3
      by_cases hty : t.i = y.i
      · rw [hty, upd_same] at h4
        cases h4
        intro hu
        obtain ⟨o1, o2⟩ := hoff z hz g3 g1 u g2 k hu
        exact hR.off o1 o2 hk
      · obtain ⟨f1, f2, f3⟩ := hold t ht hty h2 s h4
        exact h.ne z hz t ht hzt g1 f1 u s g2 f2 k hk
end

section
variable {P : Program}
/-- An append, whatever is appended, in a region that draws its order. -/
theorem yields_append_row {K : Value → World → Prop} {ev : Operand → Value} (w : World) (o : Oper) (s x : Operand) (t : TypeId) (ho : o.op = .call { callee := .builtin .append, args := #[s, x], argTypes := #[t, t] })
    (base : Nat) (e : TypeId) (i : TypeInfo) (z : Value) (size bytes : Nat) (ht : P.underlying t = some (.slice e)) (hi : P.info? e = some i) (hz : i.zero = some z)
    (hsize : i.size = size) (hby : i.bytes = bytes) (hzs : z.cells.size = size) (hsz : 0 < size)
    (v : Value) (n : Nat) (xs : List Value) (hs : ev s = v) (hown : w.ownsRow base e size v n xs)
    (p : Option Addr) (m c : Nat) (news : List Value) (hx : ev x = .slice p m c) (hl : news.length = m * size) (hp : ∀ ad, p = some ad → ∀ j u, news[j]? = some u → w.cell? (ad.add j) = some u) (hnil : p = none → m = 0 ∧ c = 0) (h1 : ∀ u ∈ news, u.oneCell' = true)
    (h63 : n + m ≤ maxLen) (hbytes : (n + m) * bytes ≤ 140737488355328) (hbase : base ≤ w.heap.size)
    (h : ∀ v' w', w'.ownsRow base e size v' (n + m) (xs ++ news) → RowK v w v' w' → K v' w') : Free.Yields P K ((execOp ev o).run P w) := by
  by_cases hm : m = 0
  · subst hm
    have hn : news = [] := List.eq_nil_of_length_eq_zero (by simpa using hl)
    subst hn
    have hrun : (Builtin.append_ #[t, t] o.type #[v, .slice p 0 c]).run P w = .ok v w := by
      cases hpc : p with
      | none =>
        obtain ⟨_, rfl⟩ := hnil hpc
        exact run_append_owned_none (P := P) (w := w) base t o.type e i size ht hi _ n _ hown
      | some ad =>
        rcases hown.2 with ⟨rfl, rfl⟩ | ⟨g, cap, cur, rfl, hbg, hg, hnc, hcm, hcs, htake⟩
        · simp [Builtin.append_, run_underlying ht, sizeOf, typeInfo, hi, Builtin.lenOf, Builtin.firstCells, loadCells, loadCellsFrom]
        · subst hsize
          have hle : n * i.size ≤ cur.size := by rw [hcs]; exact Nat.mul_le_mul_right _ hnc
          have hr := run_append_room (P := P) w t o.type e i ht hi g n cap cur hg ad 0 c [] (by simp) (by simp) (by simp) (by omega) (by simpa using hle)
          rw [hr]
          have hq : (cur.toList.take (n * i.size) ++ [] ++ cur.toList.drop (n * i.size + ([] : List Value).length)).toArray = cur := by simp
          rw [hq, setRow_self w g cur e (0, 0) hg]
          rfl
    unfold execOp
    simp only [ho, resolve, invoke, builtin, Sem.run_bind, Sem.run_pure, Result.andThen_ok, List.map_toArray, List.map_cons, List.map_nil, hs, hx, hrun]
    exact h v w (by simpa using hown) (RowK.refl _ _)
  · obtain ⟨ad, rfl⟩ : ∃ ad, p = some ad := by
      cases hpc : p with
      | none => exact absurd (hnil hpc).1 hm
      | some ad => exact ⟨ad, rfl⟩
    obtain ⟨v', w', hr, h2, h3⟩ := run_append_row (P := P) w base t o.type e i z size bytes ht hi hz hsize hby hzs hsz v n xs hown ad m c news (by omega) hl (hp ad rfl) h1 h63 hbytes hbase
    unfold execOp
    simp only [ho, resolve, invoke, builtin, Sem.run_bind, Sem.run_pure, Result.andThen_ok, List.map_toArray, List.map_cons, List.map_nil, hs, hx, hr]
    exact h v' w' h2 h3
end

/-- Rows, a value built of the last of them (operation ib), and a store (operation is) into a block that was there. -/
structure JS (base : Nat) (e : TypeId) (sz : Nat) (L : List JE) (il ib is rb : Nat) (mk : Value → Value) (z : Obj) (cont : Value → Obj) (X : XT) (w : World) : Prop where
  jr : JR base e sz L X w
  bld : ∀ v, X ib = some v → ∃ u, X il = some u ∧ v = mk u
  st0 : X is = none → w.heap[rb]? = some z
  st1 : X is ≠ none → ∃ u, X il = some u ∧ w.heap[rb]? = some (cont u)
  rbs : rb < base
section
variable {base s0 : Nat} {e : TypeId} {sz il ib is rb : Nat} {L : List JE} {mk : Value → Value} {z : Obj} {cont : Value → Obj} {X : XT} {w w' : World}
theorem JS.start (hs : base ≤ w.heap.size) (hr : rb < base) (hz : w.heap[rb]? = some z) : JS base e sz L il ib is rb mk z cont (fun _ => none) w := ⟨.start hs, fun v h => (by cases h), fun _ => hz, fun h => absurd rfl h, hr⟩
theorem JS.skip (h : JS base e sz L il ib is rb mk z cont X w) (n : Nat) (v : Value) (hn : ∀ x ∈ L, n ≠ x.i ∧ n ≠ x.j) (h1 : n ≠ il) (h2 : n ≠ ib) (h3 : n ≠ is) (h9 : n ≠ 1000 := by simp) : JS base e sz L il ib is rb mk z cont (upd X n v) w :=
  ⟨h.jr.skip n v hn h9, by rw [upd_other _ _ h1.symm, upd_other _ _ h2.symm]; exact h.bld, by rw [upd_other _ _ h3.symm]; exact h.st0, by rw [upd_other _ _ h3.symm, upd_other _ _ h1.symm]; exact h.st1, h.rbs⟩
theorem JS.bel (h : JS base e sz L il ib is rb mk z cont X w) (hB : Free.Bel w w') : JS base e sz L il ib is rb mk z cont X w' :=
  ⟨h.jr.bel hB, h.bld, fun hx => (hB.block _ (by have := h.rbs; have := h.jr.size; omega)).trans (h.st0 hx), fun hx => let ⟨u, h1, h2⟩ := h.st1 hx; ⟨u, h1, (hB.block _ (by have := h.rbs; have := h.jr.size; omega)).trans h2⟩, h.rbs⟩
theorem JS.new (h : JS base e sz L il ib is rb mk z cont X w) (x : JE) (hx : x ∈ L) (hd : ∀ y ∈ L, y.j ≠ x.i ∧ (y.i = x.i → y = x)) (h1 : x.i ≠ il) (h2 : x.i ≠ ib) (h3 : x.i ≠ is) {v : Value} (hB : Free.Bel w w') (ho : w'.ownsRow w.heap.size e sz v x.n x.cs) (h9 : x.i ≠ 1000 := by simp) : JS base e sz L il ib is rb mk z cont (upd X x.i v) w' :=
  ⟨h.jr.new x hx hd hB ho h9, by rw [upd_other _ _ h1.symm, upd_other _ _ h2.symm]; exact h.bld, fun hx => by
    rw [upd_other _ _ h3.symm] at hx
    exact (h.bel hB).st0 hx, fun hx => by
    rw [upd_other _ _ h3.symm] at hx
    rw [upd_other _ _ h1.symm]
    exact (h.bel hB).st1 hx, h.rbs⟩
theorem JS.take (h : JS base e sz L il ib is rb mk z cont X w) (x y : JE) (hx : x ∈ L) (hy : y ∈ L) (hxy : x.j = y.i) (hd : ∀ z ∈ L, (z.i = y.i → z = y) ∧ (z.i = x.i → z = x) ∧ z.i ≠ z.j) (hyj : y.j ≠ y.i) (h2 : y.i ≠ ib) (h3 : y.i ≠ is) {v v' : Value} (hv : X x.i = some v) (hn : X y.i = none) (hR : RowK v w v' w') (ho : w'.ownsRow base e sz v' y.n y.cs) (h9 : y.i ≠ 1000 := by simp) :
    JS base e sz L il ib is rb mk z cont (upd X y.i v') w' := by
  have hxj : X x.j = none := by rw [hxy]; exact hn
  have hrb : w'.heap[rb]? = w.heap[rb]? := (hR.keep rb (by have := h.rbs; have := h.jr.size; omega) (off_base (h.jr.row x hx hxj v hv) h.rbs)).2
  have hup : ∀ u, X il = some u → (upd X y.i v') il = some u := by
    intro u hu
    by_cases e : il = y.i
    · rw [e, hn] at hu; cases hu
    · rw [upd_other _ _ e]; exact hu
  refine ⟨h.jr.take x y hx hy hxy hd hyj hv hn hR ho h9, fun u hu => ?_, fun hu => ?_, fun hu => ?_, h.rbs⟩
  · rw [upd_other _ _ h2.symm] at hu
    obtain ⟨t, h4, h5⟩ := h.bld u hu
    exact ⟨t, hup t h4, h5⟩
  · rw [upd_other _ _ h3.symm] at hu
    exact hrb.trans (h.st0 hu)
  · rw [upd_other _ _ h3.symm] at hu
    obtain ⟨t, h4, h5⟩ := h.st1 hu
    exact ⟨t, hup t h4, hrb.trans h5⟩
theorem JS.store (h : JS base e sz L il ib is rb mk z cont X w) (hn : ∀ x ∈ L, is ≠ x.i ∧ is ≠ x.j) (h1 : is ≠ il) (h2 : is ≠ ib) {u y : Value} (h9 : is ≠ 1000 := by simp) (hu : X il = some u) (hs : w.heap.size ≤ w'.heap.size) (hb : w'.heap[rb]? = some (cont u)) (ho : ∀ k, k ≠ rb → w'.heap[k]? = w.heap[k]?) : JS base e sz L il ib is rb mk z cont (upd X is y) w' :=
  ⟨(h.jr.blocks hs fun k hk hl => ho k (by have := h.rbs; omega)).skip is y hn h9, by rw [upd_other _ _ h2.symm, upd_other _ _ h1.symm]; exact h.bld, fun hx => (by rw [upd_same] at hx; cases hx), fun _ => ⟨u, by rw [upd_other _ _ h1.symm]; exact hu, hb⟩, h.rbs⟩
end
end Go.Proofs.YtknpglgpkkhhiaaDoor

/- States as keys of maps, rows of turnings, two results' cells stored in a region that draws its order. -/
namespace Go.Proofs.YtknpglgpkkhhiaaDoor
set_option linter.unusedSimpArgs false
set_option linter.unusedVariables false
open Go.RowKit Go.Proofs.YtknpglgpkkhhiaaDoor.Free2 Go.Proofs.YtknpglgpkkhhiaaDoor.ML

theorem T.uState : Tryd.prog.underlying 109 = some (.array 4 3) := by kernel_rfl
theorem T.uIntS : Tryd.prog.underlying 3 = some (.int .i64) := by kernel_rfl
theorem T.cIntS : Tryd.prog.cellsOf 3 = 1 := by kernel_rfl
theorem T.uGood : Tryd.prog.underlying 139 = some (.map 109 4) := by kernel_rfl
theorem T.zBoolS (w : World) : (zeroValue 4).run Tryd.prog w = .ok (.bool false) w := by kernel_rfl
theorem T.quads : KeyL Tryd.prog 109 quadV := quad_keys T.uState T.uIntS T.cIntS
/-- A state as a key. -/
def q4 (S : Nat → Int) : Q4 := (S 0, S 1, S 2, S 3)
theorem good_lookup {gb : Nat} {L : List Q4} {W : World} (h : MapIs quadV gb (setK L) W) (S : Nat → Int) :
    (Instr.lookup 139 (.map (some gb)) (.agg #[.int .i64 (S 0), .int .i64 (S 1), .int .i64 (S 2), .int .i64 (S 3)]) false).run Tryd.prog W = .ok (.bool (decide (q4 S ∈ L))) W := by
  have h1 := h.lookup T.quads T.uGood (T.zBoolS W) (q4 S)
  rw [setK_has] at h1
  exact h1.trans (by congr 3)
theorem good_update {gb : Nat} {L : List Q4} {W : World} (h : MapIs quadV gb (setK L) W) (S : Nat → Int) :
    ∃ w', (Instr.mapUpdate 139 (.map (some gb)) (.agg #[.int .i64 (S 0), .int .i64 (S 1), .int .i64 (S 2), .int .i64 (S 3)]) (.bool true)).run Tryd.prog W = .ok () w' ∧ W.grownBy w' (some gb) ∧ MapIs quadV gb (setK (addK (q4 S) L)) w' ∧ w'.heap.size = W.heap.size := by
  obtain ⟨w', h1, h2, h3, h4⟩ := h.update T.quads T.uGood (q4 S) (.bool true)
  rw [set_setK] at h3
  exact ⟨w', h1, h2, h3, h4⟩

/-- Turnings as rows of four cells. -/
def cellsT (D : List (Nat → Bool)) : List Value := D.flatMap fun T => [.bool (T 0), .bool (T 1), .bool (T 2), .bool (T 3)]
theorem cellsT_append (a b : List (Nat → Bool)) : cellsT (a ++ b) = cellsT a ++ cellsT b := by simp [cellsT]
theorem cellsT_one (D : List (Nat → Bool)) : ∀ u ∈ cellsT D, u.oneCell' = true := by
  intro u hu
  obtain ⟨T, _, h⟩ := List.mem_flatMap.1 hu
  simp at h
  rcases h with rfl | rfl | rfl | rfl <;> rfl
theorem cellsT_get (D : List (Nat → Bool)) (k : Nat) (h : k < D.length) : (cellsT D)[k * 4]? = some (.bool (D[k] 0)) ∧ (cellsT D)[k * 4 + 1]? = some (.bool (D[k] 1)) ∧ (cellsT D)[k * 4 + 2]? = some (.bool (D[k] 2)) ∧ (cellsT D)[k * 4 + 3]? = some (.bool (D[k] 3)) := by
  induction D generalizing k with
  | nil => simp at h
  | cons x r ih =>
    have e : ∀ (T : Nat → Bool) (l : List (Nat → Bool)), cellsT (T :: l) = .bool (T 0) :: .bool (T 1) :: .bool (T 2) :: .bool (T 3) :: cellsT l := fun T l => by simp [cellsT]
    cases k with
    | zero => simp [e]
    | succ k =>
      have := ih k (by simpa using h)
      rw [e, show (k + 1) * 4 = k * 4 + 1 + 1 + 1 + 1 by omega]
      simpa using this
def TL (D : List (Nat → Bool)) (v : Value) (w : World) : Prop := ∃ p cap, v = .slice p D.length cap ∧ D.length ≤ maxLen ∧ (D ≠ [] → ∃ b off, p = some ⟨b, off, none⟩ ∧ ∀ k, (h : k < D.length) → w.cell? ⟨b, off + k * 4, none⟩ = some (.bool (D[k] 0)) ∧ w.cell? ⟨b, off + k * 4 + 1, none⟩ = some (.bool (D[k] 1)) ∧ w.cell? ⟨b, off + k * 4 + 2, none⟩ = some (.bool (D[k] 2)) ∧ w.cell? ⟨b, off + k * 4 + 3, none⟩ = some (.bool (D[k] 3)))
theorem TL.keeps {D : List (Nat → Bool)} {v : Value} {w w' : World} (h : TL D v w) (hB : Below w.heap.size w w') : TL D v w' :=
  let ⟨p, cap, h1, h2, h3⟩ := h
  ⟨p, cap, h1, h2, fun hx => let ⟨b, off, h4, h5⟩ := h3 hx; ⟨b, off, h4, fun k hk => let ⟨c0, c1, c2, c3⟩ := h5 k hk; ⟨keepsB hB c0, keepsB hB c1, keepsB hB c2, keepsB hB c3⟩⟩⟩
theorem TL.of_row {base : Nat} {e : TypeId} {v : Value} {n : Nat} {D : List (Nat → Bool)} {w : World} (hn : D.length = n) (hm : n ≤ maxLen) (h : w.ownsRow base e 4 v n (cellsT D)) : TL D v w := by
  rcases h.2 with ⟨rfl, h0⟩ | ⟨g, cap, cur, rfl, _, hg, _, _, _, ht⟩
  · have : D = [] := List.eq_nil_of_length_eq_zero (by omega)
    subst this
    exact ⟨none, 0, rfl, by simp, fun h => absurd rfl h⟩
  · refine ⟨_, cap, by rw [hn], by omega, fun _ => ⟨g, 0, rfl, fun k hk => ?_⟩⟩
    obtain ⟨c0, c1, c2, c3⟩ := cellsT_get D k hk
    have hc := fun (j : Nat) (hj : j < n * 4) => h.cellAt j hj
    simp only [Nat.zero_add]
    exact ⟨(hc _ (by omega)).trans c0, (hc _ (by omega)).trans c1, (hc _ (by omega)).trans c2, (hc _ (by omega)).trans c3⟩

/-- Blocks below s0, but two, stay. -/
structure RZ2 (s0 r1 r2 : Nat) (a b : World) : Prop where
  os : b.os = a.os
  tape : b.tape = a.tape
  output : b.output = a.output
  size : a.heap.size ≤ b.heap.size
  block : ∀ k, k < s0 → k ≠ r1 → k ≠ r2 → b.heap[k]? = a.heap[k]?
section
variable {s0 r1 r2 : Nat} {a b c : World}
theorem RZ2.refl (s0 r1 r2 : Nat) (a : World) : RZ2 s0 r1 r2 a a := ⟨rfl, rfl, rfl, Nat.le_refl _, fun _ _ _ _ => rfl⟩
theorem RZ2.trans (a b c : World) (h : RZ2 s0 r1 r2 a b) (k : RZ2 s0 r1 r2 b c) : RZ2 s0 r1 r2 a c := ⟨k.os.trans h.os, k.tape.trans h.tape, k.output.trans h.output, Nat.le_trans h.size k.size, fun i hi h1 h2 => (k.block i hi h1 h2).trans (h.block i hi h1 h2)⟩
theorem RZ2.of_bel (h : Free.Bel a b) (hs : s0 ≤ a.heap.size) : RZ2 s0 r1 r2 a b := ⟨h.os, h.tape, h.output, h.size, fun k hk _ _ => h.block k (by omega)⟩
theorem RZ2.cell (h : RZ2 s0 r1 r2 a b) {p : Addr} {v : Value} (hv : a.cell? p = some v) (hs : p.block < s0) (h1 : p.block ≠ r1) (h2 : p.block ≠ r2) : b.cell? p = some v := (World.cell?_of_block (h.block _ hs h1 h2)).trans hv
theorem RZ2.below {w0 : World} {s : Nat} (h0 : Below s w0 a) (h : RZ2 s0 r1 r2 a b) (hs : s ≤ s0) (h1 : s ≤ r1) (h2 : s ≤ r2) : Below s w0 b :=
  ⟨h.os.trans h0.os, h.tape.trans h0.tape, h.output.trans h0.output, Nat.le_trans h0.size h.size, fun k hk => (h.block k (by omega) (by omega) (by omega)).trans (h0.block k hk)⟩
theorem RZ2.set1 {o : Nat} {v : Value} : RZ2 s0 r1 r2 a (a.setCell ⟨r1, o, none⟩ v) := ⟨rfl, rfl, rfl, by simp, fun k _ h1 _ => Below.heap_setCell _ _ _ _ (by simpa using h1)⟩
theorem RZ2.set2 {o : Nat} {v : Value} : RZ2 s0 r1 r2 a (a.setCell ⟨r2, o, none⟩ v) := ⟨rfl, rfl, rfl, by simp, fun k _ _ h2 => Below.heap_setCell _ _ _ _ (by simpa using h2)⟩
end
/-- Two blocks, each stored once, by operations ia and ib. -/
structure JH2 (b1 b2 : Nat) (o1 o1' o2 o2' : Obj) (ia ib : Nat) (X : XT) (W : World) : Prop where
  a0 : X ia = none → W.heap[b1]? = some o1
  a1 : X ia ≠ none → W.heap[b1]? = some o1'
  c0 : X ib = none → W.heap[b2]? = some o2
  c1 : X ib ≠ none → W.heap[b2]? = some o2'
section
variable {b1 b2 : Nat} {o1 o1' o2 o2' : Obj} {ia ib : Nat} {X : XT} {W W' : World} {v : Value}
theorem JH2.start (h1 : W.heap[b1]? = some o1) (h2 : W.heap[b2]? = some o2) : JH2 b1 b2 o1 o1' o2 o2' ia ib (fun _ => none) W := ⟨fun _ => h1, fun e => absurd rfl e, fun _ => h2, fun e => absurd rfl e⟩
theorem JH2.skip (h : JH2 b1 b2 o1 o1' o2 o2' ia ib X W) (n : Nat) (v : Value) (h1 : n ≠ ia) (h2 : n ≠ ib) : JH2 b1 b2 o1 o1' o2 o2' ia ib (upd X n v) W :=
  ⟨by rw [upd_other _ _ h1.symm]; exact h.a0, by rw [upd_other _ _ h1.symm]; exact h.a1, by rw [upd_other _ _ h2.symm]; exact h.c0, by rw [upd_other _ _ h2.symm]; exact h.c1⟩
theorem JH2.putA (h : JH2 b1 b2 o1 o1' o2 o2' ia ib X W) (hn : ia ≠ ib) (h1 : W'.heap[b1]? = some o1') (h2 : W'.heap[b2]? = W.heap[b2]?) : JH2 b1 b2 o1 o1' o2 o2' ia ib (upd X ia v) W' :=
  ⟨fun e => (by rw [upd_same] at e; cases e), fun _ => h1, by rw [upd_other _ _ hn.symm, h2]; exact h.c0, by rw [upd_other _ _ hn.symm, h2]; exact h.c1⟩
theorem JH2.putB (h : JH2 b1 b2 o1 o1' o2 o2' ia ib X W) (hn : ia ≠ ib) (h1 : W'.heap[b2]? = some o2') (h2 : W'.heap[b1]? = W.heap[b1]?) : JH2 b1 b2 o1 o1' o2 o2' ia ib (upd X ib v) W' :=
  ⟨by rw [upd_other _ _ hn, h2]; exact h.a0, by rw [upd_other _ _ hn, h2]; exact h.a1, fun e => (by rw [upd_same] at e; cases e), fun _ => h1⟩
end
end Go.Proofs.YtknpglgpkkhhiaaDoor

/- The first of a day's turnings that lead to one of some states. -/
namespace Go.Proofs.YtknpglgpkkhhiaaDoor
set_option linter.unusedSimpArgs false
set_option linter.unusedVariables false
open Go.RowKit Go.Proofs.YtknpglgpkkhhiaaDoor.Free2 Go.Proofs.YtknpglgpkkhhiaaDoor.ML

abbrev cB (T : Nat → Bool) : Obj := .cells (arrB T) 149
abbrev cS (S : Nat → Int) : Obj := .cells (arrV S) 109
set_option maxRecDepth 100000 in
set_option maxHeartbeats 8000000 in
theorem step1_any (yb yB sB mB gb : Nat) (xs : List Rk) (S : Nat → Int) (Tn : Nat → Bool) (L : List Q4) (u : Value) (w : World) (h1 : w.cell? ⟨yB, 0, none⟩ = some (.pointer (some ⟨yb, 0, none⟩))) (h2 : w.heap[sB]? = some (.cells (arrV S) 109 (0, 0))) (h3 : w.cell? ⟨mB, 0, none⟩ = some (.map (some gb)))
    (hy : w.cell? ⟨yb, 1, none⟩ = some u) (hu : RL xs u w) (hm : MapIs quadV gb (setK L) w) (h4 : xs.length ≤ 4) (hS : ∀ i, 0 ≤ S i ∧ S i ≤ 1000000) (N : Nat → Int) (hN : Hid (nextS S Tn xs.length = N)) (r : Bool) (hr : Hid (((hotL N xs xs.length).isEmpty && decide (q4 N ∈ L)) = r)) :
    Calls Tryd.prog 111 #[stB Tn, .pointer (some ⟨yB, 0, none⟩), .pointer (some ⟨sB, 0, none⟩), .pointer (some ⟨mB, 0, none⟩)] w fun e w' => e = .returned (.tuple #[stV N, .bool r]) ∧ Below w.heap.size w w' := by
  have KB : Free.Bel w ((w.alloc (.cells (arrB Tn) 149)).alloc (.cells (arrV fun _ => 0) 109)) := Bel.allocT (Bel.allocT (Free.Bel.refl _) _) _
  have m0 : ((w.alloc (.cells (arrB Tn) 149)).alloc (.cells (arrV fun _ => 0) 109)).heap[w.heap.size]? = some (.cells (arrB Tn) 149 (0, 0)) := heap_old (World.alloc_heap_new w _)
  have m1 : ((w.alloc (.cells (arrB Tn) 149)).alloc (.cells (arrV fun _ => 0) 109)).heap[w.heap.size + 1]? = some (.cells (arrV fun _ => 0) 109 (0, 0)) := by
    have := World.alloc_heap_new (w.alloc (.cells (arrB Tn) 149)) (.cells (arrV fun _ => 0) 109)
    simpa using this
  obtain ⟨s0, s1, s2, s3, _⟩ := cells4 h2
  have FA : ∀ W, Free.Bel ((w.alloc (.cells (arrB Tn) 149)).alloc (.cells (arrV fun _ => 0) 109)) W → W.cell? ⟨yB, 0, none⟩ = some (.pointer (some ⟨yb, 0, none⟩)) ∧ W.cell? ⟨sB, 0, none⟩ = some (.int .i64 (S 0)) ∧ W.cell? ⟨sB, 1, none⟩ = some (.int .i64 (S 1)) ∧ W.cell? ⟨sB, 2, none⟩ = some (.int .i64 (S 2)) ∧ W.cell? ⟨sB, 3, none⟩ = some (.int .i64 (S 3)) ∧ W.cell? ⟨w.heap.size, 0, none⟩ = some (.bool (Tn 0)) ∧ W.cell? ⟨w.heap.size, 1, none⟩ = some (.bool (Tn 1)) ∧ W.cell? ⟨w.heap.size, 2, none⟩ = some (.bool (Tn 2)) ∧ W.cell? ⟨w.heap.size, 3, none⟩ = some (.bool (Tn 3)) ∧ W.cell? ⟨mB, 0, none⟩ = some (.map (some gb)) := fun W hW =>
    ⟨keepsB (bt KB hW) h1, keepsB (bt KB hW) s0, keepsB (bt KB hW) s1, keepsB (bt KB hW) s2, keepsB (bt KB hW) s3, keepsB hW (cell_of_heap m0 rfl), keepsB hW (cell_of_heap m0 rfl), keepsB hW (cell_of_heap m0 rfl), keepsB hW (cell_of_heap m0 rfl), keepsB (bt KB hW) h3⟩
  have HRZ : Hid (∀ W, Free.Bel ((w.alloc (.cells (arrB Tn) 149)).alloc (.cells (arrV fun _ => 0) 109)) W → W.heap[w.heap.size + 1]? = some (.cells (arrV fun _ => 0) 109 (0, 0))) := fun W hW => (hW.block _ (lt_of_heap m1)).trans m1
  have HMP : Hid (∀ W, W.heap[gb]? = w.heap[gb]? → MapIs quadV gb (setK L) W) := fun W hW => hm.of_block hW
  have HGB : Hid (gb < w.heap.size) := hm.lt
  have HMB : Hid (mB < w.heap.size) := lt_of_cell h3
  have HAF := after_any yb xs S Tn u ((w.alloc (.cells (arrB Tn) 149)).alloc (.cells (arrV fun _ => 0) 109)) (keepsB KB hy) (hu.keeps KB) h4 hS
  rw [hN.out] at HAF
  have HAF := Lib.hid HAF
  have KE : Free.Bel ((w.alloc (.cells (arrB Tn) 149)).alloc (.cells (arrV fun _ => 0) 109)) ((w.alloc (.cells (arrB Tn) 149)).alloc (.cells (arrV fun _ => 0) 109)) := Free.Bel.refl _
  have HH4 := Lib.hid h4
  clear m0 m1 s0 s1 s2 s3 hm hy hu h1 h2 h3 h4 hS
  go_enter Tryd.func111, Tryd.ntmps111
  go_wp2_with fail
  refine HAF.out.mono ?_
  rintro e w1 ⟨⟨v, rfl, hrow⟩, hB1⟩
  have hal : (hotL N xs xs.length).length ≤ 4 := Nat.le_trans (hotL_length _ _ _) HH4.out
  obtain ⟨al, hAL⟩ : ∃ al, hotL N xs xs.length = al := ⟨_, rfl⟩
  rw [hAL] at hrow hal
  have HR := hr.out
  rw [hAL] at HR
  obtain ⟨pv, cv, rfl⟩ := row_slice hrow
  have K1 : Free.Bel ((w.alloc (.cells (arrB Tn) 149)).alloc (.cells (arrV fun _ => 0) 109)) w1 := hB1
  clear hB1 KE hrow hAL
  have KA : Free.Bel w1 (w1.alloc (.cells (arrV N) 109)) := belAlloc _ _
  have K2 : Free.Bel ((w.alloc (.cells (arrB Tn) 149)).alloc (.cells (arrV fun _ => 0) 109)) (w1.alloc (.cells (arrV N) 109)) := bt K1 KA
  have mN : (w1.alloc (.cells (arrV N) 109)).heap[w1.heap.size]? = some (.cells (arrV N) 109 (0, 0)) := World.alloc_heap_new w1 _
  have hs1 : w.heap.size + 1 + 1 ≤ w1.heap.size := by have := K1.size; simp at this; omega
  have hsz : w1.heap.size < (w1.alloc (.cells (arrV N) 109)).heap.size := by simp
  cases al with
  | nil =>
    have hq : decide (q4 N ∈ L) = r := by simpa using HR
    have HQ := Lib.hid hq
    clear hq HR
    go_wp2_with fail
    generalize hw2 : w1.alloc (.cells (arrV N) 109) = w2 at *
    have hF : ∀ W, RS (w.heap.size + 1) (HeapIs (w.heap.size + 1) (.cells (arrV N) 109 (0, 0))) w2.drew W → (W.cell? ⟨mB, 0, none⟩ = some (.map (some gb)) ∧ W.cell? ⟨w1.heap.size, 0, none⟩ = some (.int .i64 (N 0)) ∧ W.cell? ⟨w1.heap.size, 1, none⟩ = some (.int .i64 (N 1)) ∧ W.cell? ⟨w1.heap.size, 2, none⟩ = some (.int .i64 (N 2)) ∧ W.cell? ⟨w1.heap.size, 3, none⟩ = some (.int .i64 (N 3)) ∧ (Instr.lookup 139 (.map (some gb)) (.agg #[.int .i64 (N 0), .int .i64 (N 1), .int .i64 (N 2), .int .i64 (N 3)]) false).run Tryd.prog W = .ok (.bool r) W) ∧ (Below w.heap.size w W ∧ ∃ c0 c1 c2 c3, W.heap[w.heap.size + 1]? = some (.cells #[c0, c1, c2, c3] 109 (0, 0))) := fun W hW => by
      have hmb := (FA w2 K2).2.2.2.2.2.2.2.2.2
      have hgb := HGB.out
      have hmlt : mB < w.heap.size := HMB.out
      refine ⟨⟨hW.bx.cell (show w2.drew.cell? _ = _ from hmb) (by simp; omega), hW.bx.cell (show w2.drew.cell? _ = _ from cell_of_heap mN rfl) (by simp; omega), hW.bx.cell (show w2.drew.cell? _ = _ from cell_of_heap mN rfl) (by simp; omega), hW.bx.cell (show w2.drew.cell? _ = _ from cell_of_heap mN rfl) (by simp; omega), hW.bx.cell (show w2.drew.cell? _ = _ from cell_of_heap mN rfl) (by simp; omega), by have h9 := good_lookup (HMP.out W ((hW.bx.block gb (by have := (bt KB K2).size; show gb < w2.heap.size; omega) (by omega)).trans (show w2.heap[gb]? = w.heap[gb]? from (bt KB K2).block gb hgb))) N; rw [HQ.out] at h9; exact h9⟩, BX.below (show Below w.heap.size w w2 from bt KB K2).drew hW.bx (show w.heap.size ≤ w2.heap.size from (bt KB K2).size) (by omega), ?_⟩
      rcases hW.now with e | e
      · exact ⟨_, _, _, _, e.trans (show w2.drew.heap[_]? = _ from HRZ.out w2 K2)⟩
      · exact ⟨_, _, _, _, e⟩
    refine Free.wp_free (R := RS (w.heap.size + 1) (HeapIs (w.heap.size + 1) (.cells (arrV N) 109 (0, 0)))) (by kernel_rfl) (by kernel_rfl) (RS.refl _ _) (RS.trans HeapIs.kept) ?_
    refine Free.Chain.ex ?_ [] [7] (by kernel_rfl) (by kernel_rfl) rfl (RS.refl _ _) ?_ ?_
    rotate_left
    · (intro ev W hb hR hO hD; have hS := hF W hR; obtain ⟨hb1, hb2, hb3⟩ := hb; simp only [Free.AllDeps, Free.AllOuts, Free.At, al1, al2, al3, al4, al5, and_true] at hO hD; obtain ⟨hS, hS2⟩ := hS; go_simp; rfl)
    simp only [an1, an2]
    refine Free.Chain.ex ?_ [] [8] (by kernel_rfl) (by kernel_rfl) rfl (RS.refl _ _) ?_ ?_
    rotate_left
    · (intro ev W hb hR hO hD; have hS := hF W hR; obtain ⟨hb1, hb2, hb3⟩ := hb; simp only [Free.AllDeps, Free.AllOuts, Free.At, al1, al2, al3, al4, al5, and_true] at hO hD; obtain ⟨hS, hS2⟩ := hS; go_simp; rfl)
    simp only [an1, an2]
    refine Free.Chain.ex ?_ [(1, 17)] [] (by kernel_rfl) (by kernel_rfl) rfl (RS.refl _ _) ?_ ?_
    rotate_left
    · (intro ev W hb hR hO hD; have hS := hF W hR; obtain ⟨hb1, hb2, hb3⟩ := hb; simp only [Free.AllDeps, Free.AllOuts, Free.At, al1, al2, al3, al4, al5, and_true] at hO hD; obtain ⟨hS, hS2⟩ := hS; go_simp; rfl)
    simp only [an1, an2]
    refine Free.Chain.ex ?_ [(2, 18)] [] (by kernel_rfl) (by kernel_rfl) rfl (RS.refl _ _) ?_ ?_
    rotate_left
    · (intro ev W hb hR hO hD; have hS := hF W hR; obtain ⟨hb1, hb2, hb3⟩ := hb; simp only [Free.AllDeps, Free.AllOuts, Free.At, al1, al2, al3, al4, al5, and_true] at hO hD; obtain ⟨hS, hS2⟩ := hS; go_simp; rfl)
    simp only [an1, an2]
    refine Free.Chain.ex ?_ [(3, 19)] [] (by kernel_rfl) (by kernel_rfl) rfl (RS.refl _ _) ?_ ?_
    rotate_left
    · (intro ev W hb hR hO hD; have hS := hF W hR; obtain ⟨hb1, hb2, hb3⟩ := hb; simp only [Free.AllDeps, Free.AllOuts, Free.At, al1, al2, al3, al4, al5, and_true] at hO hD; obtain ⟨hS, hS2⟩ := hS; go_simp; rfl)
    simp only [an1, an2]
    refine Free.Chain.exG ?_ [(4, 20)] [3] 4 true 20 (by kernel_rfl) (by kernel_rfl) rfl (by kernel_rfl) (RS.refl _ _) ?_ ?_
    rotate_left
    · (intro ev W hb hR hO hD; have hS := hF W hR; obtain ⟨hb1, hb2, hb3⟩ := hb; simp only [Free.AllDeps, Free.AllOuts, Free.At, al1, al2, al3, al4, al5, and_true] at hO hD; refine ⟨by simp [hD], ?_⟩; obtain ⟨hS, hS2⟩ := hS; go_simp; rfl)
    simp only [an1, an2]
    refine Free.Chain.exG ?_ [(4, 20)] [7] 4 true 20 (by kernel_rfl) (by kernel_rfl) rfl (by kernel_rfl) (RS.refl _ _) ?_ ?_
    rotate_left
    · (intro ev W hb hR hO hD; have hS := hF W hR; obtain ⟨hb1, hb2, hb3⟩ := hb; simp only [Free.AllDeps, Free.AllOuts, Free.At, al1, al2, al3, al4, al5, and_true] at hO hD; refine ⟨by simp [hD], ?_⟩; obtain ⟨hS, hS2⟩ := hS; go_simp; rfl)
    simp only [an1, an2]
    refine Free.Chain.exG ?_ [(5, 21), (6, 22), (4, 20)] [] 4 true 20 (by kernel_rfl) (by kernel_rfl) rfl (by kernel_rfl) (RS.refl _ _) ?_ ?_
    rotate_left
    · (intro ev W hb hR hO hD; have hS := hF W hR; obtain ⟨hb1, hb2, hb3⟩ := hb; simp only [Free.AllDeps, Free.AllOuts, Free.At, al1, al2, al3, al4, al5, and_true] at hO hD; refine ⟨by simp [hD], ?_⟩; obtain ⟨hS, hS2⟩ := hS; go_simp; rfl)
    simp only [an1, an2]
    refine Free.Chain.ex ?_ [(4, 20), (7, 23)] [] (by kernel_rfl) (by kernel_rfl) rfl (RS.refl _ _) ?_ ?_
    rotate_left
    · (intro ev W hb hR hO hD; have hS := hF W hR; obtain ⟨hb1, hb2, hb3⟩ := hb; simp only [Free.AllDeps, Free.AllOuts, Free.At, al1, al2, al3, al4, al5, and_true] at hO hD; obtain ⟨hS, hS2⟩ := hS; go_simp; rfl)
    simp only [an1, an2]
    refine Free.Chain.pr (fun _ w1 => HeapIs (w.heap.size + 1) (.cells (arrV N) 109 (0, 0)) w1) [(0, 16), (4, 20), (0, 16)] [5] (by kernel_rfl) (by kernel_rfl) rfl (RS.stable HeapIs.kept) ?_ ?_
    · (intro ev W hb hR hO hD; have hS := hF W hR; obtain ⟨hb1, hb2, hb3⟩ := hb; simp only [Free.AllDeps, Free.AllOuts, Free.At, al1, al2, al3, al4, al5, and_true] at hO hD; obtain ⟨hS, hS2⟩ := hS; obtain ⟨hbw, c0, c1, c2, c3, hc⟩ := hS2; obtain ⟨_, _, _, _, f0, f1, f2, f3⟩ := cells4 hc; obtain ⟨y0, y1, y2, y3, _, _, _, _⟩ := cells4 hc; go_simp; have hph := four_heap (x0 := .int .i64 (N 0)) (x1 := .int .i64 (N 1)) (x2 := .int .i64 (N 2)) (x3 := .int .i64 (N 3)) hc; exact ⟨⟨BX.set.trans (BX.set.trans (BX.set.trans BX.set)), .inr hph⟩, hph⟩)
    simp only [an1, an2]
    refine Free.Chain.ex ?_ [(8, 24), (0, 16), (1, 17), (2, 18), (3, 19), (4, 20), (5, 21), (6, 22), (7, 23), (8, 24)] [] (by kernel_rfl) (by kernel_rfl) rfl (RS.refl _ _) ?_ ?_
    rotate_left
    · (intro ev W hb hR hO hD; have hS := hF W hR; obtain ⟨hb1, hb2, hb3⟩ := hb; simp only [Free.AllDeps, Free.AllOuts, Free.At, al1, al2, al3, al4, al5, and_true] at hO hD; obtain ⟨hS, hS2⟩ := hS; go_simp; rfl)
    simp only [an1, an2]
    intro ys w' hR hV
    simp only [Free.AllV, Free.At, List.length_cons, List.length_nil, Nat.reduceAdd, List.getElem?_cons_succ, List.getElem?_cons_zero, true_and] at hV
    simp only [Free.putsFrom, Act.put, Nat.zero_add, Nat.reduceAdd, hV, List.setIfInBounds_toArray, List.set_cons_succ, List.set_cons_zero]
    have hfin : HeapIs (w.heap.size + 1) (.cells (arrV N) 109 (0, 0)) w' := hV.1.2
    have HBE := Lib.hid (hF w' hR).2.1
    obtain ⟨y1, y2, y3, y4, _, _, _, _⟩ := cells4 (show w'.heap[w.heap.size + 1]? = some (.cells #[.int .i64 (N 0), .int .i64 (N 1), .int .i64 (N 2), .int .i64 (N 3)] 109 (0, 0)) from hfin)
    clear hR hV hF hfin
    go_wp2_with fail
    exact bodyPost_ret (v := .tuple #[stV N, .bool r]) (by simp [results, Tryd.results111, go_sem, y1, y2, y3, y4]) rfl ⟨rfl, HBE.out⟩
  | cons a0 ar =>
    obtain rfl : r = false := HR.symm.trans (by simp)
    have g0 : ((ar.length : Int) + 1 == 0) = false := by simp; omega
    clear HR
    go_wp2_with fail
    generalize hw2 : w1.alloc (.cells (arrV N) 109) = w2 at *
    have hF : ∀ W, RS (w.heap.size + 1) (HeapIs (w.heap.size + 1) (.cells (arrV N) 109 (0, 0))) w2.drew W → (W.cell? ⟨mB, 0, none⟩ = some (.map (some gb)) ∧ W.cell? ⟨w1.heap.size, 0, none⟩ = some (.int .i64 (N 0)) ∧ W.cell? ⟨w1.heap.size, 1, none⟩ = some (.int .i64 (N 1)) ∧ W.cell? ⟨w1.heap.size, 2, none⟩ = some (.int .i64 (N 2)) ∧ W.cell? ⟨w1.heap.size, 3, none⟩ = some (.int .i64 (N 3))) ∧ (Below w.heap.size w W ∧ ∃ c0 c1 c2 c3, W.heap[w.heap.size + 1]? = some (.cells #[c0, c1, c2, c3] 109 (0, 0))) := fun W hW => by
      have hmb := (FA w2 K2).2.2.2.2.2.2.2.2.2
      have hgb := HGB.out
      have hmlt : mB < w.heap.size := HMB.out
      refine ⟨⟨hW.bx.cell (show w2.drew.cell? _ = _ from hmb) (by simp; omega), hW.bx.cell (show w2.drew.cell? _ = _ from cell_of_heap mN rfl) (by simp; omega), hW.bx.cell (show w2.drew.cell? _ = _ from cell_of_heap mN rfl) (by simp; omega), hW.bx.cell (show w2.drew.cell? _ = _ from cell_of_heap mN rfl) (by simp; omega), hW.bx.cell (show w2.drew.cell? _ = _ from cell_of_heap mN rfl) (by simp; omega)⟩, BX.below (show Below w.heap.size w w2 from bt KB K2).drew hW.bx (show w.heap.size ≤ w2.heap.size from (bt KB K2).size) (by omega), ?_⟩
      rcases hW.now with e | e
      · exact ⟨_, _, _, _, e.trans (show w2.drew.heap[_]? = _ from HRZ.out w2 K2)⟩
      · exact ⟨_, _, _, _, e⟩
    refine Free.wp_free (R := RS (w.heap.size + 1) (HeapIs (w.heap.size + 1) (.cells (arrV N) 109 (0, 0)))) (by kernel_rfl) (by kernel_rfl) (RS.refl _ _) (RS.trans HeapIs.kept) ?_
    refine Free.Chain.ex ?_ [] [7] (by kernel_rfl) (by kernel_rfl) rfl (RS.refl _ _) ?_ ?_
    rotate_left
    · (intro ev W hb hR hO hD; have hS := hF W hR; obtain ⟨hb1, hb2, hb3⟩ := hb; simp only [Free.AllDeps, Free.AllOuts, Free.At, al1, al2, al3, al4, al5, and_true] at hO hD; obtain ⟨hS, hS2⟩ := hS; go_simp; rfl)
    simp only [an1, an2]
    refine Free.Chain.ex ?_ [] [8] (by kernel_rfl) (by kernel_rfl) rfl (RS.refl _ _) ?_ ?_
    rotate_left
    · (intro ev W hb hR hO hD; have hS := hF W hR; obtain ⟨hb1, hb2, hb3⟩ := hb; simp only [Free.AllDeps, Free.AllOuts, Free.At, al1, al2, al3, al4, al5, and_true] at hO hD; obtain ⟨hS, hS2⟩ := hS; go_simp; rfl)
    simp only [an1, an2]
    refine Free.Chain.ex ?_ [(1, 17)] [] (by kernel_rfl) (by kernel_rfl) rfl (RS.refl _ _) ?_ ?_
    rotate_left
    · (intro ev W hb hR hO hD; have hS := hF W hR; obtain ⟨hb1, hb2, hb3⟩ := hb; simp only [Free.AllDeps, Free.AllOuts, Free.At, al1, al2, al3, al4, al5, and_true] at hO hD; obtain ⟨hS, hS2⟩ := hS; go_simp; rfl)
    simp only [an1, an2]
    refine Free.Chain.ex ?_ [(2, 18)] [] (by kernel_rfl) (by kernel_rfl) rfl (RS.refl _ _) ?_ ?_
    rotate_left
    · (intro ev W hb hR hO hD; have hS := hF W hR; obtain ⟨hb1, hb2, hb3⟩ := hb; simp only [Free.AllDeps, Free.AllOuts, Free.At, al1, al2, al3, al4, al5, and_true] at hO hD; obtain ⟨hS, hS2⟩ := hS; go_simp; rfl)
    simp only [an1, an2]
    refine Free.Chain.ex ?_ [(3, 19)] [] (by kernel_rfl) (by kernel_rfl) rfl (RS.refl _ _) ?_ ?_
    rotate_left
    · (intro ev W hb hR hO hD; have hS := hF W hR; obtain ⟨hb1, hb2, hb3⟩ := hb; simp only [Free.AllDeps, Free.AllOuts, Free.At, al1, al2, al3, al4, al5, and_true] at hO hD; obtain ⟨hS, hS2⟩ := hS; go_simp; rfl)
    simp only [an1, an2]
    refine Free.Chain.no [(4, 20)] [3] 4 true 20 (by kernel_rfl) (by kernel_rfl) rfl (by kernel_rfl) ?_ ?_
    · (intro ev W hR hD; simp only [Free.AllDeps, Free.At, List.getElem?_cons_succ, List.getElem?_cons_zero, and_true] at hD; simp [hD])
    simp only [an1, an2]
    refine Free.Chain.no [(4, 20)] [7] 4 true 20 (by kernel_rfl) (by kernel_rfl) rfl (by kernel_rfl) ?_ ?_
    · (intro ev W hR hD; simp only [Free.AllDeps, Free.At, List.getElem?_cons_succ, List.getElem?_cons_zero, and_true] at hD; simp [hD])
    simp only [an1, an2]
    refine Free.Chain.no [(5, 21), (6, 22), (4, 20)] [] 4 true 20 (by kernel_rfl) (by kernel_rfl) rfl (by kernel_rfl) ?_ ?_
    · (intro ev W hR hD; simp only [Free.AllDeps, Free.At, List.getElem?_cons_succ, List.getElem?_cons_zero, and_true] at hD; simp [hD])
    simp only [an1, an2]
    refine Free.Chain.ex ?_ [(4, 20), (7, 23)] [] (by kernel_rfl) (by kernel_rfl) rfl (RS.refl _ _) ?_ ?_
    rotate_left
    · (intro ev W hb hR hO hD; have hS := hF W hR; obtain ⟨hb1, hb2, hb3⟩ := hb; simp only [Free.AllDeps, Free.AllOuts, Free.At, al1, al2, al3, al4, al5, and_true] at hO hD; obtain ⟨hS, hS2⟩ := hS; go_simp; rfl)
    simp only [an1, an2]
    refine Free.Chain.pr (fun _ w1 => HeapIs (w.heap.size + 1) (.cells (arrV N) 109 (0, 0)) w1) [(0, 16), (4, 20), (0, 16)] [5] (by kernel_rfl) (by kernel_rfl) rfl (RS.stable HeapIs.kept) ?_ ?_
    · (intro ev W hb hR hO hD; have hS := hF W hR; obtain ⟨hb1, hb2, hb3⟩ := hb; simp only [Free.AllDeps, Free.AllOuts, Free.At, al1, al2, al3, al4, al5, and_true] at hO hD; obtain ⟨hS, hS2⟩ := hS; obtain ⟨hbw, c0, c1, c2, c3, hc⟩ := hS2; obtain ⟨_, _, _, _, f0, f1, f2, f3⟩ := cells4 hc; obtain ⟨y0, y1, y2, y3, _, _, _, _⟩ := cells4 hc; go_simp; have hph := four_heap (x0 := .int .i64 (N 0)) (x1 := .int .i64 (N 1)) (x2 := .int .i64 (N 2)) (x3 := .int .i64 (N 3)) hc; exact ⟨⟨BX.set.trans (BX.set.trans (BX.set.trans BX.set)), .inr hph⟩, hph⟩)
    simp only [an1, an2]
    refine Free.Chain.ex ?_ [(8, 24), (0, 16), (1, 17), (2, 18), (3, 19), (4, 20), (5, 21), (6, 22), (7, 23), (8, 24)] [] (by kernel_rfl) (by kernel_rfl) rfl (RS.refl _ _) ?_ ?_
    rotate_left
    · (intro ev W hb hR hO hD; have hS := hF W hR; obtain ⟨hb1, hb2, hb3⟩ := hb; simp only [Free.AllDeps, Free.AllOuts, Free.At, al1, al2, al3, al4, al5, and_true] at hO hD; obtain ⟨hS, hS2⟩ := hS; go_simp; rfl)
    simp only [an1, an2]
    intro ys w' hR hV
    simp only [Free.AllV, Free.At, List.length_cons, List.length_nil, Nat.reduceAdd, List.getElem?_cons_succ, List.getElem?_cons_zero, true_and] at hV
    simp only [Free.putsFrom, Act.put, Nat.zero_add, Nat.reduceAdd, hV, List.setIfInBounds_toArray, List.set_cons_succ, List.set_cons_zero]
    have hfin : HeapIs (w.heap.size + 1) (.cells (arrV N) 109 (0, 0)) w' := hV.1.2
    have HBE := Lib.hid (hF w' hR).2.1
    obtain ⟨y1, y2, y3, y4, _, _, _, _⟩ := cells4 (show w'.heap[w.heap.size + 1]? = some (.cells #[.int .i64 (N 0), .int .i64 (N 1), .int .i64 (N 2), .int .i64 (N 3)] 109 (0, 0)) from hfin)
    clear hR hV hF hfin
    go_wp2_with fail
    exact bodyPost_ret (v := .tuple #[stV N, .bool false]) (by simp [results, Tryd.results111, go_sem, y1, y2, y3, y4]) rfl ⟨rfl, HBE.out⟩

/-- A function value that tells a state, and whether something is so, of turnings. -/
def AsksT (g : Nat) (caps : Array Value) (nx : (Nat → Bool) → Nat → Int) (ok : (Nat → Bool) → Bool) (w0 : World) : Prop :=
  (∀ args w, (callFunc g args).run Tryd.prog w = .ok (.enter g args) w) ∧ ∀ W T, Below w0.heap.size w0 W → Calls Tryd.prog g (#[stB T] ++ caps) W fun e W' => e = .returned (.tuple #[stV (nx T), .bool (ok T)]) ∧ Below W.heap.size W W'
def fstT (nx : (Nat → Bool) → Nat → Int) (ok : (Nat → Bool) → Bool) (D : List (Nat → Bool)) : (Nat → Bool) × (Nat → Int) × Bool := match D.find? ok with | some T => (T, nx T, true) | none => (fun _ => false, fun _ => 0, false)

set_option maxRecDepth 100000 in
set_option maxHeartbeats 8000000 in
theorem first_any (g : Nat) (caps : Array Value) (nx : (Nat → Bool) → Nat → Int) (ok : (Nat → Bool) → Bool) (D : List (Nat → Bool)) (u : Value) (w : World) (hu : TL D u w) (hg : AsksT g caps nx ok w) (RT : Nat → Bool) (RS : Nat → Int) (RB : Bool) (hr : Hid (fstT nx ok D = (RT, RS, RB))) :
    Calls Tryd.prog 110 #[u, .func (.func g) #[] caps] w fun e w' => e = .returned (.tuple #[stB RT, stV RS, .bool RB]) ∧ Below w.heap.size w w' := by
  obtain ⟨p0, cp, rfl, hm, hc⟩ := hu
  unfold maxLen at hm
  have HG := Lib.hid hg
  have HC := Lib.hid hc
  clear hg hc
  have KB : Free.Bel w ((w.alloc (.cells (arrB fun _ => false) 149)).alloc (.cells (arrV fun _ => 0) 109)) := Bel.allocT (Bel.allocT (Free.Bel.refl _) _) _
  have m0 : ((w.alloc (.cells (arrB fun _ => false) 149)).alloc (.cells (arrV fun _ => 0) 109)).heap[w.heap.size]? = some (.cells (arrB fun _ => false) 149 (0, 0)) := heap_old (World.alloc_heap_new w _)
  have m1 : ((w.alloc (.cells (arrB fun _ => false) 149)).alloc (.cells (arrV fun _ => 0) 109)).heap[w.heap.size + 1]? = some (.cells (arrV fun _ => 0) 109 (0, 0)) := by
    have := World.alloc_heap_new (w.alloc (.cells (arrB fun _ => false) 149)) (.cells (arrV fun _ => 0) 109)
    simpa using this
  have HI := Lib.hid (And.intro KB (And.intro m0 m1))
  clear KB m0 m1
  go_enter Tryd.func110, Tryd.ntmps110
  go_wp2_with fail
  generalize ((w.alloc (.cells (arrB fun _ => false) 149)).alloc (.cells (arrV fun _ => 0) 109)) = v0 at *
  go_loopw [14] (fun i wr => ∃ k : Nat, k ≤ D.length ∧ i = .int .i64 k ∧ Hid (∀ T ∈ D.take k, ok T = false) ∧ Free.Bel w wr ∧ wr.heap[w.heap.size]? = some (.cells (arrB fun _ => false) 149 (0, 0)) ∧ wr.heap[w.heap.size + 1]? = some (.cells (arrV fun _ => 0) 109 (0, 0))) (fun i _ => D.length - (intOf i).toNat)
  case atStart => exact ⟨0, Nat.zero_le _, rfl, fun T h => by simp at h, HI.out⟩
  case round =>
    obtain ⟨k, hk, rfl, hno, hB, hz0, hz1⟩ := hrel
    by_cases hlt : k < D.length
    · have hx : D ≠ [] := by intro e; simp [e] at hlt
      obtain ⟨b, off, rfl, hcp⟩ := HC.out hx
      obtain ⟨d0, d1, d2, d3⟩ := hcp k hlt
      have e0 := keepsB hB d0
      have e1 := keepsB hB d1
      have e2 := keepsB hB d2
      have e3 := keepsB hB d3
      have hklt : (k : Int) < D.length := by omega
      have hent := HG.out.1
      have hget : Hid (D[k]? = some D[k]) := List.getElem?_eq_getElem hlt
      clear d0 d1 d2 d3 hcp hx
      generalize D[k] = T at *
      have KA : Free.Bel wr (wr.alloc (cB T)) := belAlloc _ _
      have HKA := Lib.hid KA
      have HB := Lib.hid hB
      have HZ := Lib.hid (And.intro hz0 hz1)
      have hcall := Lib.hid (HG.out.2 (wr.alloc (cB T)) T (bt hB KA))
      have mT : (wr.alloc (cB T)).heap[wr.heap.size]? = some (.cells (arrB T) 149 (0, 0)) := World.alloc_heap_new wr _
      have HMT := Lib.hid mT
      obtain ⟨t0, t1, t2, t3, _⟩ := cells4 mT
      obtain ⟨nT, hnT⟩ : ∃ y, nx T = y := ⟨_, rfl⟩
      rw [hnT] at hcall
      have HNT := Lib.hid hnT
      clear KA hB hz0 hz1 mT hnT
      cases hp : ok T
      · have hp' := Lib.hid hp
        rw [hp] at hcall
        clear hp
        go_wp2_with fail
        refine hcall.out.mono ?_
        rintro e w2 ⟨rfl, hB2⟩
        have hwz : Free.Bel wr (w2.alloc (cS nT)) := bt HKA.out (bt hB2 (belAlloc _ _))
        have HW := Lib.hid hwz
        clear hwz
        go_wp2_with fail
        go_roundw
        case rel =>
          refine ⟨k + 1, by omega, by go_num, ?_, bt HB.out HW.out, (HW.out.block _ (lt_of_heap HZ.out.1)).trans HZ.out.1, (HW.out.block _ (lt_of_heap HZ.out.2)).trans HZ.out.2⟩
          show ∀ T ∈ D.take (k + 1), ok T = false
          rw [List.take_add_one, hget.out]
          intro y hy
          simp at hy
          rcases hy with hy | rfl
          · exact hno.out y hy
          · exact hp'.out
        case measure => simp [intOf]; omega
      · have hp' := Lib.hid hp
        rw [hp] at hcall
        have hfd : D.find? ok = some T := by
          rw [List.find?_eq_some_iff_append]
          refine ⟨hp, D.take k, D.drop (k + 1), ?_, fun a ha => by simp [hno.out a ha]⟩
          have h9 : D[k]? = some T := hget.out
          obtain ⟨h8, h7⟩ := List.getElem?_eq_some_iff.1 h9
          rw [← h7, List.getElem_cons_drop, List.take_append_drop]
        have hr2 := hr.out
        rw [fstT, hfd] at hr2
        simp only [Prod.mk.injEq] at hr2
        obtain ⟨rfl, hr3, rfl⟩ := hr2
        obtain rfl : nT = RS := HNT.out.symm.trans hr3
        clear hp hr3 hfd
        go_wp2_with fail
        refine hcall.out.mono ?_
        rintro e w2 ⟨rfl, hB2⟩
        have KC : Free.Bel (wr.alloc (cB T)) (w2.alloc (cS nT)) := bt hB2 (belAlloc _ _)
        have K2 : Free.Bel wr (w2.alloc (cS nT)) := bt HKA.out KC
        have mN : (w2.alloc (cS nT)).heap[w2.heap.size]? = some (.cells (arrV nT) 109 (0, 0)) := World.alloc_heap_new w2 _
        have hs2 : wr.heap.size < w2.heap.size := by have := hB2.size; simp at this; omega
        have hsz : w2.heap.size < (w2.alloc (cS nT)).heap.size := by simp
        clear hB2
        generalize hw3 : w2.alloc (cS nT) = w3 at *
        go_wp2_with fail
        have hF : ∀ W, RZ2 w3.heap.size w.heap.size (w.heap.size + 1) w3.drew W → (W.cell? ⟨wr.heap.size, 0, none⟩ = some (.bool (T 0)) ∧ W.cell? ⟨wr.heap.size, 1, none⟩ = some (.bool (T 1)) ∧ W.cell? ⟨wr.heap.size, 2, none⟩ = some (.bool (T 2)) ∧ W.cell? ⟨wr.heap.size, 3, none⟩ = some (.bool (T 3)) ∧ W.cell? ⟨w2.heap.size, 0, none⟩ = some (.int .i64 (nT 0)) ∧ W.cell? ⟨w2.heap.size, 1, none⟩ = some (.int .i64 (nT 1)) ∧ W.cell? ⟨w2.heap.size, 2, none⟩ = some (.int .i64 (nT 2)) ∧ W.cell? ⟨w2.heap.size, 3, none⟩ = some (.int .i64 (nT 3))) := fun W hW => by
          have hq := HB.out.size
          have hq2 : w.heap.size + 1 < wr.heap.size := lt_of_heap HZ.out.2
          have mT := (KC.block _ (lt_of_heap HMT.out)).trans HMT.out
          exact ⟨hW.cell (show w3.drew.cell? _ = _ from cell_of_heap mT rfl) (by simp; omega) (by simp; omega) (by simp; omega), hW.cell (show w3.drew.cell? _ = _ from cell_of_heap mT rfl) (by simp; omega) (by simp; omega) (by simp; omega), hW.cell (show w3.drew.cell? _ = _ from cell_of_heap mT rfl) (by simp; omega) (by simp; omega) (by simp; omega), hW.cell (show w3.drew.cell? _ = _ from cell_of_heap mT rfl) (by simp; omega) (by simp; omega) (by simp; omega), hW.cell (show w3.drew.cell? _ = _ from cell_of_heap mN rfl) (by simp; omega) (by simp; omega) (by simp; omega), hW.cell (show w3.drew.cell? _ = _ from cell_of_heap mN rfl) (by simp; omega) (by simp; omega) (by simp; omega), hW.cell (show w3.drew.cell? _ = _ from cell_of_heap mN rfl) (by simp; omega) (by simp; omega) (by simp; omega), hW.cell (show w3.drew.cell? _ = _ from cell_of_heap mN rfl) (by simp; omega) (by simp; omega) (by simp; omega)⟩
        have hz2 : w3.drew.heap[w.heap.size]? = some (.cells (arrB fun _ => false) 149 (0, 0)) := (K2.block _ (lt_of_heap HZ.out.1)).trans HZ.out.1
        have hz3 : w3.drew.heap[w.heap.size + 1]? = some (.cells (arrV fun _ => 0) 109 (0, 0)) := (K2.block _ (lt_of_heap HZ.out.2)).trans HZ.out.2
        refine Free2.wp_free (R := RZ2 w3.heap.size w.heap.size (w.heap.size + 1)) (J := JH2 w.heap.size (w.heap.size + 1) (.cells (arrB fun _ => false) 149 (0, 0)) (.cells (arrB T) 149 (0, 0)) (.cells (arrV fun _ => 0) 109 (0, 0)) (.cells (arrV nT) 109 (0, 0)) 2 3) (by kernel_rfl) (by kernel_rfl) (RZ2.refl _ _ _) RZ2.trans (JH2.start hz2 hz3) ?_
        refine Free2.Chain.ex ?_ 0 rfl [] [8] (by kernel_rfl) (by kernel_rfl) rfl (RZ2.refl _ _ _) (fun X W v h => JH2.skip h 0 v (by simp) (by simp)) ?_ ?_
        rotate_left
        · (intro ev W hb hR hO hD; have hS := hF W hR; obtain ⟨hb1, hb2, hb3⟩ := hb; simp only [Free.AllDeps, Free.AllOuts, Free.At, al1, al2, al3, al4, al5, and_true] at hO hD; go_simp; rfl)
        simp only [an1, an2]
        refine Free2.Chain.ex ?_ 1 rfl [] [9] (by kernel_rfl) (by kernel_rfl) rfl (RZ2.refl _ _ _) (fun X W v h => JH2.skip h 1 v (by simp) (by simp)) ?_ ?_
        rotate_left
        · (intro ev W hb hR hO hD; have hS := hF W hR; obtain ⟨hb1, hb2, hb3⟩ := hb; simp only [Free.AllDeps, Free.AllOuts, Free.At, al1, al2, al3, al4, al5, and_true] at hO hD; go_simp; rfl)
        simp only [an1, an2]
        refine Free2.Chain.pr (fun v _ => True) 2 rfl [(0, 25), (0, 25)] [4] (by kernel_rfl) (by kernel_rfl) rfl (fun _ _ _ _ h => h) ?_ ?_
        · (intro ev W X hb hR hO hD hj hx hax; have hS := hF W hR; obtain ⟨hb1, hb2, hb3⟩ := hb; simp only [Free.AllDeps, Free.AllOuts, Free.At, al1, al2, al3, al4, al5, and_true] at hO hD; simp only [Free2.AllX, and_true] at hax; have hzz := hj.a0 hx; obtain ⟨y0, y1, y2, y3, f0, f1, f2, f3⟩ := cells4 hzz; go_simp; have hph := four_heap (x0 := .bool (T 0)) (x1 := .bool (T 1)) (x2 := .bool (T 2)) (x3 := .bool (T 3)) hzz; exact ⟨RZ2.trans _ _ _ RZ2.set1 (RZ2.trans _ _ _ RZ2.set1 (RZ2.trans _ _ _ RZ2.set1 RZ2.set1)), JH2.putA hj (by simp) hph ((heap_setCell_other (by simp)).trans ((heap_setCell_other (by simp)).trans ((heap_setCell_other (by simp)).trans (heap_setCell_other (by simp)))))⟩)
        simp only [an1, an2]
        refine Free2.Chain.pr (fun v _ => True) 3 rfl [(1, 26), (0, 25), (1, 26)] [5] (by kernel_rfl) (by kernel_rfl) rfl (fun _ _ _ _ h => h) ?_ ?_
        · (intro ev W X hb hR hO hD hj hx hax; have hS := hF W hR; obtain ⟨hb1, hb2, hb3⟩ := hb; simp only [Free.AllDeps, Free.AllOuts, Free.At, al1, al2, al3, al4, al5, and_true] at hO hD; simp only [Free2.AllX, and_true] at hax; have hzz := hj.c0 hx; obtain ⟨y0, y1, y2, y3, f0, f1, f2, f3⟩ := cells4 hzz; go_simp; have hph := four_heap (x0 := .int .i64 (nT 0)) (x1 := .int .i64 (nT 1)) (x2 := .int .i64 (nT 2)) (x3 := .int .i64 (nT 3)) hzz; exact ⟨RZ2.trans _ _ _ RZ2.set2 (RZ2.trans _ _ _ RZ2.set2 (RZ2.trans _ _ _ RZ2.set2 RZ2.set2)), JH2.putB hj (by simp) hph ((heap_setCell_other (by simp)).trans ((heap_setCell_other (by simp)).trans ((heap_setCell_other (by simp)).trans (heap_setCell_other (by simp)))))⟩)
        simp only [an1, an2]
        refine Free2.Chain.ex ?_ 4 rfl [(0, 25), (1, 26)] [] (by kernel_rfl) (by kernel_rfl) rfl (RZ2.refl _ _ _) (fun X W v h => JH2.skip h 4 v (by simp) (by simp)) ?_ ?_
        rotate_left
        · (intro ev W hb hR hO hD; have hS := hF W hR; obtain ⟨hb1, hb2, hb3⟩ := hb; simp only [Free.AllDeps, Free.AllOuts, Free.At, al1, al2, al3, al4, al5, and_true] at hO hD; go_simp; rfl)
        simp only [an1, an2]
        intro ys w' hR hV hX
        obtain ⟨X, hj, hxx⟩ := hX
        simp only [Free.AllV, Free.At, List.length_cons, List.length_nil, Nat.reduceAdd, List.getElem?_cons_succ, List.getElem?_cons_zero, true_and, and_true] at hV
        simp only [Free.putsFrom, Act.put, Nat.zero_add, Nat.reduceAdd, hV, List.setIfInBounds_toArray, List.set_cons_succ, List.set_cons_zero]
        have hx2 : X 2 = some (ys 2) := hxx 2 (by decide)
        have hx3 : X 3 = some (ys 3) := hxx 3 (by decide)
        have q0 := hj.a1 (by rw [hx2]; simp)
        have q1 := hj.c1 (by rw [hx3]; simp)
        obtain ⟨y0, y1, y2, y3, _⟩ := cells4 q0
        obtain ⟨y4, y5, y6, y7, _⟩ := cells4 q1
        have HBE := Lib.hid (RZ2.below (s := w.heap.size) ((show Below w.heap.size w w3 from bt HB.out K2).drew) hR (by have := HB.out.size; have := K2.size; omega) (Nat.le_refl _) (by omega))
        clear hR hV hF hj hxx hx2 hx3 q0 q1
        go_wp2_with fail
        exact bodyPost_ret (v := .tuple #[stB T, stV nT, .bool true]) (by simp [results, Tryd.results110, go_sem, y0, y1, y2, y3, y4, y5, y6, y7]) rfl ⟨rfl, HBE.out⟩
    · obtain rfl : k = D.length := by omega
      have hfd : D.find? ok = none := by
        rw [List.find?_eq_none]
        intro T hT
        have := hno.out T (by rw [List.take_length]; exact hT)
        simp [this]
      have hr2 := hr.out
      rw [fstT, hfd] at hr2
      simp only [Prod.mk.injEq] at hr2
      obtain ⟨rfl, rfl, rfl⟩ := hr2
      have KA : Free.Bel wr (wr.alloc (cB fun _ => false)) := belAlloc _ _
      have z0 := (KA.block _ (lt_of_heap hz0)).trans hz0
      have z1 := (KA.block _ (lt_of_heap hz1)).trans hz1
      obtain ⟨a0, a1, a2, a3, b0, b1, b2, b3⟩ := cells4 z0
      obtain ⟨a4, a5, a6, a7, b4, b5, b6, b7⟩ := cells4 z1
      have HBW := Lib.hid (bt hB KA)
      have HZ := Lib.hid (And.intro z0 z1)
      clear hz0 hz1 z0 z1 hB KA hfd
      go_wp2_with fail
      have q0 := four_heap (x0 := .bool false) (x1 := .bool false) (x2 := .bool false) (x3 := .bool false) HZ.out.1
      have q1 := four_heap (x0 := .int .i64 0) (x1 := .int .i64 0) (x2 := .int .i64 0) (x3 := .int .i64 0) (heap_other (p := ⟨w.heap.size, 3, none⟩) (v := .bool false) (heap_other (p := ⟨w.heap.size, 2, none⟩) (v := .bool false) (heap_other (p := ⟨w.heap.size, 1, none⟩) (v := .bool false) (heap_other (p := ⟨w.heap.size, 0, none⟩) (v := .bool false) HZ.out.2 (by simp)) (by simp)) (by simp)) (by simp))
      have q2 := heap_other (p := ⟨w.heap.size + 1, 3, none⟩) (v := .int .i64 0) (heap_other (p := ⟨w.heap.size + 1, 2, none⟩) (v := .int .i64 0) (heap_other (p := ⟨w.heap.size + 1, 1, none⟩) (v := .int .i64 0) (heap_other (p := ⟨w.heap.size + 1, 0, none⟩) (v := .int .i64 0) q0 (by simp)) (by simp)) (by simp)) (by simp)
      obtain ⟨y0, y1, y2, y3, _⟩ := cells4 q2
      obtain ⟨y4, y5, y6, y7, _⟩ := cells4 q1
      refine bodyPost_ret (v := .tuple #[stB fun _ => false, stV fun _ => 0, .bool false]) (by simp [results, Tryd.results110, go_sem, y0, y1, y2, y3, y4, y5, y6, y7]) rfl ⟨rfl, ?_⟩
      exact (((((((HBW.out.setCell (by simp) _).setCell (by simp) _).setCell (by simp) _).setCell (by simp) _).setCell (by simp) _).setCell (by simp) _).setCell (by simp) _).setCell (by simp) _
end Go.Proofs.YtknpglgpkkhhiaaDoor

/- The first of a day's turnings that lead to one of some states: the yard's step. -/
namespace Go.Proofs.YtknpglgpkkhhiaaDoor
set_option linter.unusedSimpArgs false
set_option linter.unusedVariables false
open Go.RowKit Go.Proofs.YtknpglgpkkhhiaaDoor.Free2 Go.Proofs.YtknpglgpkkhhiaaDoor.ML

/-- Whether turnings lead, cool, to a state of the map. -/
def okS (xs : List Rk) (S : Nat → Int) (L : List Q4) (Tn : Nat → Bool) : Bool := (hotL (nextS S Tn xs.length) xs xs.length).isEmpty && decide (q4 (nextS S Tn xs.length) ∈ L)
def stepS (xs : List Rk) (S : Nat → Int) (L : List Q4) (D : List (Nat → Bool)) : (Nat → Bool) × (Nat → Int) × Bool := fstT (fun Tn => nextS S Tn xs.length) (okS xs S L) D
set_option maxRecDepth 100000 in
set_option maxHeartbeats 8000000 in
theorem step_any (yb gb : Nat) (xs : List Rk) (S : Nat → Int) (D : List (Nat → Bool)) (L : List Q4) (u dv : Value) (w : World) (hy1 : w.cell? ⟨yb, 1, none⟩ = some u) (hy3 : w.cell? ⟨yb, 3, none⟩ = some dv) (hu : RL xs u w) (hd : TL D dv w) (hm : MapIs quadV gb (setK L) w) (h4 : xs.length ≤ 4) (hS : ∀ i, 0 ≤ S i ∧ S i ≤ 1000000)
    (RT : Nat → Bool) (RS : Nat → Int) (RB : Bool) (hr : Hid (stepS xs S L D = (RT, RS, RB))) :
    Calls Tryd.prog 94 #[.pointer (some ⟨yb, 0, none⟩), stV S, .map (some gb)] w fun e w' => e = .returned (.tuple #[stB RT, stV RS, .bool RB]) ∧ Below w.heap.size w w' := by
  have KB : Free.Bel w (((((w.alloc (.cells #[.pointer (some ⟨yb, 0, none⟩)] 108)).alloc (.cells (arrV S) 109)).alloc (.cells #[.map (some gb)] 139)).alloc (.cells (arrB fun _ => false) 149)).alloc (.cells (arrV fun _ => 0) 109)) := Bel.allocT (Bel.allocT (Bel.allocT (Bel.allocT (Bel.allocT (Free.Bel.refl _) _) _) _) _) _
  have m0 : (((((w.alloc (.cells #[.pointer (some ⟨yb, 0, none⟩)] 108)).alloc (.cells (arrV S) 109)).alloc (.cells #[.map (some gb)] 139)).alloc (.cells (arrB fun _ => false) 149)).alloc (.cells (arrV fun _ => 0) 109)).heap[w.heap.size]? = some (.cells #[.pointer (some ⟨yb, 0, none⟩)] 108 (0, 0)) := heap_old (heap_old (heap_old (heap_old (World.alloc_heap_new w _))))
  have m1 : (((((w.alloc (.cells #[.pointer (some ⟨yb, 0, none⟩)] 108)).alloc (.cells (arrV S) 109)).alloc (.cells #[.map (some gb)] 139)).alloc (.cells (arrB fun _ => false) 149)).alloc (.cells (arrV fun _ => 0) 109)).heap[w.heap.size + 1]? = some (.cells (arrV S) 109 (0, 0)) := heap_old (heap_old (heap_old (by
    have := World.alloc_heap_new (w.alloc (.cells #[.pointer (some ⟨yb, 0, none⟩)] 108)) (.cells (arrV S) 109)
    simpa using this)))
  have m2 : (((((w.alloc (.cells #[.pointer (some ⟨yb, 0, none⟩)] 108)).alloc (.cells (arrV S) 109)).alloc (.cells #[.map (some gb)] 139)).alloc (.cells (arrB fun _ => false) 149)).alloc (.cells (arrV fun _ => 0) 109)).heap[w.heap.size + 1 + 1]? = some (.cells #[.map (some gb)] 139 (0, 0)) := heap_old (heap_old (by
    have := World.alloc_heap_new ((w.alloc (.cells #[.pointer (some ⟨yb, 0, none⟩)] 108)).alloc (.cells (arrV S) 109)) (.cells #[.map (some gb)] 139)
    simpa using this))
  have m3 : (((((w.alloc (.cells #[.pointer (some ⟨yb, 0, none⟩)] 108)).alloc (.cells (arrV S) 109)).alloc (.cells #[.map (some gb)] 139)).alloc (.cells (arrB fun _ => false) 149)).alloc (.cells (arrV fun _ => 0) 109)).heap[w.heap.size + 1 + 1 + 1]? = some (.cells (arrB fun _ => false) 149 (0, 0)) := heap_old (by
    have := World.alloc_heap_new (((w.alloc (.cells #[.pointer (some ⟨yb, 0, none⟩)] 108)).alloc (.cells (arrV S) 109)).alloc (.cells #[.map (some gb)] 139)) (.cells (arrB fun _ => false) 149)
    simpa using this)
  have m4 : (((((w.alloc (.cells #[.pointer (some ⟨yb, 0, none⟩)] 108)).alloc (.cells (arrV S) 109)).alloc (.cells #[.map (some gb)] 139)).alloc (.cells (arrB fun _ => false) 149)).alloc (.cells (arrV fun _ => 0) 109)).heap[w.heap.size + 1 + 1 + 1 + 1]? = some (.cells (arrV fun _ => 0) 109 (0, 0)) := by
    have := World.alloc_heap_new ((((w.alloc (.cells #[.pointer (some ⟨yb, 0, none⟩)] 108)).alloc (.cells (arrV S) 109)).alloc (.cells #[.map (some gb)] 139)).alloc (.cells (arrB fun _ => false) 149)) (.cells (arrV fun _ => 0) 109)
    simpa using this
  have n3 := keepsB KB hy3
  have n0 : (((((w.alloc (.cells #[.pointer (some ⟨yb, 0, none⟩)] 108)).alloc (.cells (arrV S) 109)).alloc (.cells #[.map (some gb)] 139)).alloc (.cells (arrB fun _ => false) 149)).alloc (.cells (arrV fun _ => 0) 109)).cell? ⟨w.heap.size, 0, none⟩ = some (.pointer (some ⟨yb, 0, none⟩)) := cell_of_heap m0 rfl
  have HZ := Lib.hid (And.intro m3 m4)
  have HKB := Lib.hid KB
  have hF := first_any 111 #[.pointer (some ⟨w.heap.size, 0, none⟩), .pointer (some ⟨w.heap.size + 1, 0, none⟩), .pointer (some ⟨w.heap.size + 1 + 1, 0, none⟩)] (fun Tn => nextS S Tn xs.length) (okS xs S L) D dv (((((w.alloc (.cells #[.pointer (some ⟨yb, 0, none⟩)] 108)).alloc (.cells (arrV S) 109)).alloc (.cells #[.map (some gb)] 139)).alloc (.cells (arrB fun _ => false) 149)).alloc (.cells (arrV fun _ => 0) 109)) (hd.keeps KB)
    ⟨Go.Proofs.enters_of Tryd.func111 (by kernel_rfl) rfl, fun W Tn hW => step1_any yb w.heap.size (w.heap.size + 1) (w.heap.size + 1 + 1) gb xs S Tn L u W (keepsB hW (cell_of_heap m0 rfl)) ((hW.block _ (lt_of_heap m1)).trans m1) (keepsB hW (cell_of_heap m2 rfl)) (keepsB (bt KB hW) hy1) (hu.keeps (bt KB hW)) (hm.of_block ((bt KB hW).block gb hm.lt)) h4 hS _ (Lib.hid rfl) _ (Lib.hid rfl)⟩ RT RS RB hr
  have HF := Lib.hid hF
  obtain ⟨p0, cp, rfl, _, _⟩ := hd
  clear hF m0 m1 m2 m3 m4 hy1 hy3 hu hm hS KB
  go_enter Tryd.func94, Tryd.ntmps94
  go_wp2_with fail
  refine HF.out.mono ?_
  rintro e w1 ⟨rfl, hB1⟩
  have z3 := (hB1.block _ (lt_of_heap HZ.out.1)).trans HZ.out.1
  have z4 := (hB1.block _ (lt_of_heap HZ.out.2)).trans HZ.out.2
  have HBW := Lib.hid (bt HKB.out hB1)
  have HZ3 := Lib.hid (And.intro z3 z4)
  obtain ⟨a0, a1, a2, a3, b0, b1, b2, b3⟩ := cells4 z3
  obtain ⟨a4, a5, a6, a7, b4, b5, b6, b7⟩ := cells4 z4
  clear z3 z4 hB1 n0 n3
  go_wp2_with fail
  have q0 := four_heap (x0 := .bool (RT 0)) (x1 := .bool (RT 1)) (x2 := .bool (RT 2)) (x3 := .bool (RT 3)) HZ3.out.1
  have q1 := four_heap (x0 := .int .i64 (RS 0)) (x1 := .int .i64 (RS 1)) (x2 := .int .i64 (RS 2)) (x3 := .int .i64 (RS 3)) (heap_other (p := ⟨w.heap.size + 1 + 1 + 1, 3, none⟩) (v := .bool (RT 3)) (heap_other (p := ⟨w.heap.size + 1 + 1 + 1, 2, none⟩) (v := .bool (RT 2)) (heap_other (p := ⟨w.heap.size + 1 + 1 + 1, 1, none⟩) (v := .bool (RT 1)) (heap_other (p := ⟨w.heap.size + 1 + 1 + 1, 0, none⟩) (v := .bool (RT 0)) HZ3.out.2 (by simp)) (by simp)) (by simp)) (by simp))
  have q2 := heap_other (p := ⟨w.heap.size + 1 + 1 + 1 + 1, 3, none⟩) (v := .int .i64 (RS 3)) (heap_other (p := ⟨w.heap.size + 1 + 1 + 1 + 1, 2, none⟩) (v := .int .i64 (RS 2)) (heap_other (p := ⟨w.heap.size + 1 + 1 + 1 + 1, 1, none⟩) (v := .int .i64 (RS 1)) (heap_other (p := ⟨w.heap.size + 1 + 1 + 1 + 1, 0, none⟩) (v := .int .i64 (RS 0)) q0 (by simp)) (by simp)) (by simp)) (by simp)
  obtain ⟨y0, y1, y2, y3, _⟩ := cells4 q2
  obtain ⟨y4, y5, y6, y7, _⟩ := cells4 q1
  refine bodyPost_ret (v := .tuple #[stB RT, stV RS, .bool RB]) (by simp [results, Tryd.results94, go_sem, y0, y1, y2, y3, y4, y5, y6, y7]) rfl ⟨rfl, ?_⟩
  exact (((((((HBW.out.setCell (by simp; omega) _).setCell (by simp; omega) _).setCell (by simp; omega) _).setCell (by simp; omega) _).setCell (by simp; omega) _).setCell (by simp; omega) _).setCell (by simp; omega) _).setCell (by simp; omega) _

/-- In the words of ricks. -/
theorem hot_cool {xs ys : List Rk} (h : SameKeys xs ys) : (hotL (waits ys) xs xs.length).isEmpty = coolB ys := by
  have hl := h.length
  have hi : ∀ i : Nat, (xs[i]?).map (fun x => (x.1, x.2.1)) = (ys[i]?).map (fun x => (x.1, x.2.1)) := fun i => by
    have := congrArg (fun l => l[i]?) h
    simpa using this.symm
  have h1 := hotL_map hi 0 xs.length (by omega)
  rw [← hl, List.take_length, hl] at h1
  have h2 : (hotL (waits ys) xs xs.length).isEmpty = (hotR 0 ys).isEmpty := by
    rw [← h1]
    cases hotL (waits ys) xs xs.length <;> rfl
  rw [h2, Bool.eq_iff_iff, List.isEmpty_iff, hotR_nil, coolB, List.all_eq_true]
  simp
theorem okS_day {xs ys : List Rk} (h : SameKeys xs ys) (L : List Q4) (d : List Int) : okS xs (waits ys) L (tset xs d) = (coolB (dayR d ys) && decide (q4 (waits (dayR d ys)) ∈ L)) := by
  have h1 : nextS (waits ys) (tset xs d) xs.length = waits (dayR d ys) := by
    rw [← waits_next ys d, tset_ids h.ids, h.length]
  rw [okS, h1, hot_cool (h.day d)]
/-- What step tells: the first of all turnings, by ricks. -/
theorem stepS_first {h : Int} {xs ys : List Rk} (hk : SameKeys xs ys) (L : List Q4) :
    stepS xs (waits ys) L ((daysL h xs).map (tset xs)) = match firstD h (fun zs => decide (q4 (waits zs) ∈ L)) ys with | some d => (tset xs d, waits (dayR d ys), true) | none => (fun _ => false, fun _ => 0, false) := by
  have hd : daysL h ys = daysL h xs := daysL_ids hk.ids
  have h1 : ∀ l : List (List Int), (l.map (tset xs)).find? (okS xs (waits ys) L) = (l.find? fun d => coolB (dayR d ys) && decide (q4 (waits (dayR d ys)) ∈ L)).map (tset xs) := by
    intro l
    induction l with
    | nil => rfl
    | cons d r ih =>
      simp only [List.map_cons, List.find?_cons, okS_day hk L d, ih]
      split <;> rfl
  rw [stepS, fstT, h1, firstD, hd]
  cases hf : (daysL h xs).find? fun d => coolB (dayR d ys) && decide (q4 (waits (dayR d ys)) ∈ L) with
  | none => rfl
  | some d =>
    simp only [Option.map_some]
    have h2 : nextS (waits ys) (tset xs d) xs.length = waits (dayR d ys) := by rw [← waits_next ys d, tset_ids hk.ids, hk.length]
    rw [h2]
end Go.Proofs.YtknpglgpkkhhiaaDoor

/- The iterator over all states. -/
namespace Go.Proofs.YtknpglgpkkhhiaaDoor
set_option linter.unusedSimpArgs false
set_option linter.unusedVariables false
open Go.RowKit Go.Proofs.YtknpglgpkkhhiaaDoor.Free2 Go.Proofs.YtknpglgpkkhhiaaDoor.ML RR
attribute [local go_sem] Oper.semAt_some

section
variable {a b : World}
theorem RR.KC.cell (h : KC a b) {p : Addr} {v : Value} (hv : a.cell? p = some v) : b.cell? p = some v := by
  have hlt := lt_of_cell hv
  obtain ⟨o, ho⟩ : ∃ o, a.heap[p.block]? = some o := ⟨_, Array.getElem?_eq_getElem hlt⟩
  cases hc : o.isCells with
  | true => exact (World.cell?_of_block ((h.cells _ o ho hc).trans ho.symm)).trans hv
  | false =>
    exfalso
    unfold World.cell? at hv
    rw [ho] at hv
    cases o <;> simp_all [Obj.isCells]
theorem RR.KC.set_new (h : KC a b) {g o : Nat} {v : Value} (hg : a.heap.size ≤ g) : KC a (b.setCell ⟨g, o, none⟩ v) :=
  ⟨h.os, h.tape, h.output, by simpa using h.size, fun k q h1 h2 => (Below.heap_setCell _ _ _ _ (by have := lt_of_heap h1; simp; omega)).trans (h.cells k q h1 h2)⟩
theorem RL.kc {xs : List Rk} {v : Value} (h : RL xs v a) (hk : KC a b) : RL xs v b :=
  let ⟨p, cap, h1, h2, h3⟩ := h
  ⟨p, cap, h1, h2, fun hx => let ⟨bb, off, h4, h5⟩ := h3 hx; ⟨bb, off, h4, fun k hk2 => let ⟨c0, c1, c2⟩ := h5 k hk2; ⟨hk.cell c0, hk.cell c1, hk.cell c2⟩⟩⟩
end
theorem waits_set (zs : List Rk) (i : Nat) (h : i < zs.length) (v : Int) : setN (waits zs) i v = waits (zs.set i (zs[i].1, zs[i].2.1, v)) := by
  funext j
  unfold setN waits
  by_cases hj : j = i
  · subst hj; simp [h]
  · have : i ≠ j := fun e => hj e.symm
    simp [hj, List.getElem?_set, this]
/-- The number of a state's array, from the first place on. -/
def lcC : List Rk → Nat → Array Value → Int
  | [], _, _ => 0
  | x :: r, i, cs => intOf (cs[i]?.getD (.int .i64 0)) + x.2.1 * lcC r (i + 1) cs
def stLeft (xs : List Rk) (T : Nat) (s m : Value) (wr : World) : Nat := match m, s with | .bool true, .pointer (some ad) => (match wr.heap[ad.block]? with | some (.cells cs _ _) => T - (lcC xs 0 cs).toNat | _ => 0) | _, _ => 0
theorem stLeft_no (xs : List Rk) (T : Nat) (s : Value) (wr : World) : stLeft xs T s (.bool false) wr = 0 := by simp [stLeft]
theorem stLeft_yes {xs : List Rk} {T g : Nat} {wr : World} {cs : Array Value} {t : TypeId} {f : Nat × Nat} (h : wr.heap[g]? = some (.cells cs t f)) : stLeft xs T (.pointer (some ⟨g, 0, none⟩)) (.bool true) wr = T - (lcC xs 0 cs).toNat := by simp [stLeft, h]
theorem lcode_yAt : ∀ {xs : List Rk} {m : Int}, (∀ x ∈ xs, 1 ≤ x.2.1) → 0 ≤ m → m < prodE xs → lcode (yAt xs m) = m
  | [], m, _, h0, h1 => by simp only [prodE] at h1; simp [yAt, lcode]; omega
  | x :: r, m, h, h0, h1 => by
    have hx := h x (by simp)
    simp only [prodE] at h1
    have ih := lcode_yAt (xs := r) (m := m / x.2.1) (fun z hz => h z (by simp [hz])) (Int.ediv_nonneg h0 (by omega)) (Int.ediv_lt_of_lt_mul (by omega) (by rw [Int.mul_comm]; exact h1))
    simp only [yAt, lcode, ih]
    have := Int.mul_ediv_add_emod m x.2.1
    omega
theorem lcC_waits : ∀ (xs ys : List Rk) (i : Nat) (cs : Array Value), SameKeys xs ys → (∀ j (h : j < ys.length), cs[i + j]? = some (.int .i64 ys[j].2.2)) → lcC xs i cs = lcode ys
  | [], ys, i, cs, h, _ => by
    have : ys = [] := List.eq_nil_of_length_eq_zero (by simpa using h.length)
    subst this
    rfl
  | x :: r, y :: t, i, cs, h, hc => by
    simp only [SameKeys, List.map_cons, List.cons.injEq, Prod.mk.injEq] at h
    obtain ⟨⟨h1, h2⟩, h3⟩ := h
    have h0 := hc 0 (by simp)
    simp only [Nat.add_zero, List.getElem_cons_zero] at h0
    rw [lcC, lcode, h0, lcC_waits r t (i + 1) cs h3 (fun j hj => by have := hc (j + 1) (by simpa using hj); rw [show i + 1 + j = i + (j + 1) by omega]; simpa using this), h2]
    rfl
  | _ :: _, [], i, cs, h, _ => by
    have := h.length
    simp at this
theorem lcC_st {xs ys : List Rk} (h : SameKeys xs ys) (h4 : xs.length ≤ 4) : lcC xs 0 (arrV (waits ys)) = lcode ys :=
  lcC_waits xs ys 0 _ h fun j hj => by
    have := h.length
    rw [Nat.zero_add, arrV_get _ j (by omega), waits_lt ys j hj]
/-- The array at work: the first i places are done with. -/
def midR (ys : List Rk) (i : Nat) : List Rk := zeroR (ys.take i) ++ ys.drop i
theorem midR_length (ys : List Rk) (i : Nat) : (midR ys i).length = ys.length := by simp [midR, zeroR]; omega
theorem midR_get (ys : List Rk) (i : Nat) (h : i < ys.length) (h' : i < (midR ys i).length) : (midR ys i)[i] = ys[i] := by
  have hm : min i ys.length = i := Nat.min_eq_left (Nat.le_of_lt h)
  simp [midR, zeroR, List.getElem_append, hm]
theorem midR_set (ys : List Rk) (i : Nat) (h : i < ys.length) (v : Int) : (midR ys i).set i (ys[i].1, ys[i].2.1, v) = zeroR (ys.take i) ++ (ys[i].1, ys[i].2.1, v) :: ys.drop (i + 1) := by
  have hl : (zeroR (ys.take i)).length = i := by simp [zeroR]; omega
  rw [midR, List.set_append_right _ _ (by omega), hl, Nat.sub_self, List.drop_eq_getElem_cons h, List.set_cons_zero]
theorem midR_step (ys : List Rk) (i : Nat) (h : i < ys.length) : zeroR (ys.take i) ++ (ys[i].1, ys[i].2.1, 0) :: ys.drop (i + 1) = midR ys (i + 1) := by
  unfold midR zeroR
  rw [List.take_succ_eq_append_getElem h, List.map_append, List.append_assoc]
  rfl
theorem incR_hit (ys : List Rk) (i : Nat) (h : i < ys.length) (hno : ∀ j (h : j < ys.length), j < i → ¬ ys[j].2.2 + 1 < ys[j].2.1) (hc : ys[i].2.2 + 1 < ys[i].2.1) : incR ys = (zeroR (ys.take i) ++ (ys[i].1, ys[i].2.1, ys[i].2.2 + 1) :: ys.drop (i + 1), true) := by
  rw [incR_cut ys i (Nat.le_of_lt h) hno, List.drop_eq_getElem_cons h, incR, if_pos hc]
theorem incR_end (ys : List Rk) (hno : ∀ j (h : j < ys.length), j < ys.length → ¬ ys[j].2.2 + 1 < ys[j].2.1) : incR ys = (midR ys ys.length, false) := by
  rw [incR_cut ys ys.length (Nat.le_refl _) hno, List.drop_length, incR, midR, List.drop_length]

abbrev encY (x : List Rk) : Array Value := #[stV (waits x)]
set_option maxRecDepth 100000 in
set_option maxHeartbeats 8000000 in
theorem states1_in (n l n0 yB yb : Nat) (xs : List Rk) (u : Value) (hn : 1 ≤ n) (w0 W : World) (hx : ∀ x ∈ xs, 1 ≤ x.2.1 ∧ x.2.1 ≤ 6) (h4 : xs.length ≤ 4) (hu : RL xs u w0) (hyB : w0.cell? ⟨yB, 0, none⟩ = some (.pointer (some ⟨yb, 0, none⟩))) (hyb : w0.cell? ⟨yb, 1, none⟩ = some u)
    (h0n : w0.heap.size ≤ n0) (hsz : n0 ≤ W.heap.size) (hKC : KC w0 W) (J Jx : List (List Rk) → World → Prop) (hJ : Abide (RI n0) J)
    (hY : ∀ pre x W1, pre ++ [x] <+: allY xs → J pre W1 → YieldAt Fence.wide (n - 1) Tryd.prog l (encY x) W1 fun e W' =>
      (e = .returned (.bool true) ∧ J (pre ++ [x]) W' ∧ KC W1 W') ∨ (e = .returned (.bool false) ∧ Jx (pre ++ [x]) W'))
    (hJ0 : J [] W) :
    CallsIn Fence.wide n Tryd.prog 115 (#[.func (.yield l) #[] #[]] ++ #[.pointer (some ⟨yB, 0, none⟩)]) W fun e W' => (∃ v, e = .returned v) ∧
      (J (allY xs) W' ∨ (∃ pre, pre <+: allY xs ∧ Jx pre W')) := by
  have hmx : Tryd.prog.follows .mixedOrders = true := by kernel_rfl
  have hx1 : ∀ x ∈ xs, 1 ≤ x.2.1 := fun x h => (hx x h).1
  obtain ⟨hp1, hp2⟩ := prodE_bound hx
  have hT : Hid (1 ≤ (prodE xs).toNat ∧ (prodE xs).toNat ≤ 1296) := by
    have h6 : (6 : Int) ^ xs.length ≤ 1296 := by
      rcases (show xs.length = 0 ∨ xs.length = 1 ∨ xs.length = 2 ∨ xs.length = 3 ∨ xs.length = 4 by omega) with e | e | e | e | e <;> rw [e] <;> decide
    exact ⟨by omega, by omega⟩
  obtain ⟨T, hTe⟩ : ∃ T, (prodE xs).toNat = T := ⟨_, rfl⟩
  rw [hTe] at hT
  have hlenY : (allY xs).length = T := by simp [allY, hTe]
  have HU := Lib.hid hu
  obtain ⟨p, cp, rfl, hm, _⟩ := hu
  have HX := Lib.hid (And.intro hx (And.intro hx1 (And.intro hTe hlenY)))
  have HJ := Lib.hid hJ
  have HY := Lib.hid hY
  have HS := Lib.hid (And.intro h0n hsz)
  have FB : ∀ W', KC w0 W' → W'.cell? ⟨yB, 0, none⟩ = some (.pointer (some ⟨yb, 0, none⟩)) ∧ W'.cell? ⟨yb, 1, none⟩ = some (.slice p xs.length cp) := fun W' h => ⟨h.cell hyB, h.cell hyb⟩
  have KA : Free.Bel W (W.alloc (.cells (arrV fun _ => 0) 109)) := belAlloc _ _
  have HI := Lib.hid (show J ((allY xs).take 0) (W.alloc (.cells (arrV fun _ => 0) 109)) ∧ KC w0 (W.alloc (.cells (arrV fun _ => 0) 109)) ∧ (W.alloc (.cells (arrV fun _ => 0) 109)).heap[W.heap.size]? = some (.cells (arrV (waits (yAt xs 0))) 109 (0, 0)) from
    ⟨by rw [List.take_zero]; exact hJ _ _ _ hJ0 (.of_bel KA hsz), hKC.trans (.of_bel KA), by
      rw [World.alloc_heap_new, yAt_zero]
      congr 2
      have : waits (zeroR xs) = fun _ => 0 := by
        funext i
        unfold waits zeroR
        cases h9 : xs[i]? <;> simp [h9]
      rw [this]⟩)
  clear hx hx1 hp1 hp2 hTe hlenY hJ hY h0n hsz hJ0 hyB hyb hKC KA hm
  refine callsIn_of_wp Tryd.func115 rfl trivial ?_ rfl
  simp only [Tryd.ntmps115, List.size_toArray, List.length_cons, List.length_nil, Nat.reduceAdd, Nat.reduceSub, Array.replicate_succ, Array.replicate_zero, List.push_toArray, List.append_toArray, an1, an2]
  gi_wp2
  gi_loopw [3, 4] (fun s m wr => ∃ k g : Nat, k ≤ T ∧ s = .pointer (some ⟨g, 0, none⟩) ∧ m = .bool (decide (k < T)) ∧ J ((allY xs).take k) wr ∧ KC w0 wr ∧ wr.heap[g]? = some (.cells (arrV (waits (yAt xs (k : Int)))) 109 (0, 0)) ∧ n0 ≤ g) (fun s m wr => stLeft xs T s m wr)
  case atStart => exact ⟨0, W.heap.size, Nat.zero_le _, rfl, by rw [decide_eq_true (by have := hT.out.1; omega)], HI.out.1, HI.out.2.1, HI.out.2.2, HS.out.2⟩
  case round =>
    obtain ⟨k, g, hk, rfl, rfl, hJk, hK, hg, hgn⟩ := hrel
    have HJk := Lib.hid hJk
    have HG := Lib.hid (And.intro hg hgn)
    by_cases hkT : k < T
    · have hst := stLeft_yes (xs := xs) (T := T) hg
      rw [decide_eq_true hkT]
      have hyst := yAt_st (xs := xs) (k : Int) HX.out.2.1
      rw [lcC_st hyst.1 h4, lcode_yAt HX.out.2.1 (by omega) (by have := HX.out.2.2.1; omega)] at hst
      have HST := Lib.hid hst
      have hinc := incR_yAt (xs := xs) (k : Int) HX.out.2.1 (by omega) (by have := HX.out.2.2.1; omega)
      have htk : (allY xs).take (k + 1) = (allY xs).take k ++ [yAt xs (k : Int)] := allY_take (by have := HX.out.2.2.1; omega)
      have hpx : (allY xs).take k ++ [yAt xs (k : Int)] <+: allY xs := by rw [← htk]; exact List.take_prefix _ _
      obtain ⟨ys, hys⟩ : ∃ y, yAt xs (k : Int) = y := ⟨_, rfl⟩
      rw [hys] at hg HG hinc htk hpx hyst
      have HPX := Lib.hid (And.intro hpx (And.intro htk (And.intro hinc (And.intro hyst hys))))
      obtain ⟨g0, g1, g2, g3, f0, f1, f2, f3⟩ := cells4 hg
      obtain ⟨fnn, tmps, assign, body, hy, hR⟩ := HY.out _ ys wr hpx hJk
      dsimp only [encY] at hy
      clear hg hgn hJk hst hinc htk hpx hyst hys
      gi_wp2
      refine hR.mono ?_
      rintro e w3 (⟨rfl, hJ3, hk3⟩ | ⟨rfl, hJx3⟩)
      · have hg3 := hk3.cells _ _ HG.out.1 rfl
        have HG3 := Lib.hid hg3
        have HJ3 := Lib.hid hJ3
        have K3 : KC w0 w3 := hK.trans hk3
        have HW3 := Lib.hid K3
        have HB3 : Hid (n0 ≤ w3.heap.size) := by
          have := lt_of_heap hg3
          have := HG.out.2
          show _ ≤ _
          omega
        clear hJ3 hk3 hK hg3 g0 g1 g2 g3 f0 f1 f2 f3 hy hR
        have hnl : ys.length = xs.length := HPX.out.2.2.2.1.1.length
        have HNL := Lib.hid hnl
        clear hnl
        gi_wp2
        have hI0 : J ((allY xs).take (k + 1)) w3 := by rw [HPX.out.2.1]; exact HJ3.out
        have HI0 := Lib.hid hI0
        clear hI0
        obtain ⟨wo, hwo⟩ : ∃ x, x = wr := ⟨_, rfl⟩
        subst hwo
        gi_loopw [19, 4] (fun i m wr => ∃ j : Nat, j ≤ xs.length ∧ i = .int .i64 j ∧ m = .bool false ∧ Hid (∀ q (h : q < ys.length), q < j → ¬ ys[q].2.2 + 1 < ys[q].2.1) ∧ RI n0 w3 wr ∧ KC w0 wr ∧ wr.heap[g]? = some (.cells (arrV (waits (midR ys j))) 109 (0, 0))) (fun i _ _ => xs.length - (intOf i).toNat)
        case atStart => exact ⟨0, Nat.zero_le _, rfl, rfl, fun q h h9 => absurd h9 (by omega), RI.refl _ _, HW3.out, by rw [HG3.out]; simp [midR, zeroR]⟩
        case round =>
          obtain ⟨j, hj, rfl, rfl, hno, hRI, hK, hg⟩ := hrel
          by_cases hjt : j < xs.length
          · have hjlt : (j : Int) < xs.length := by omega
            have hj4 : (j : Int) < 4 := by omega
            have hj5 : j < 4 := by omega
            have hxs : xs ≠ [] := by intro e; simp [e] at hjt
            obtain ⟨p2, cp2, hsl, _, hq⟩ := HU.out.kc hK
            obtain ⟨b, off, hp2, hcc⟩ := hq hxs
            simp only [Value.slice.injEq, true_and] at hsl
            obtain ⟨hpp, hcpp⟩ := hsl
            rw [hp2] at hpp
            subst hpp
            obtain ⟨d1, d2, d3⟩ := hcc j hjt
            have hyl : j < ys.length := by rw [HNL.out]; exact hjt
            have hkey : ys[j].2.1 = xs[j].2.1 := by
              have := congrArg (fun l => l[j]?) HPX.out.2.2.2.1.1
              simp [hyl, hjt] at this
              exact this.2
            have hml : j < (midR ys j).length := by rw [midR_length]; exact hyl
            have hwv : waits (midR ys j) j = ys[j].2.2 := by rw [waits_lt _ j hml, midR_get ys j hyl hml]
            have hb9 := HPX.out.2.2.2.1.2 ys[j] (List.getElem_mem hyl)
            have hE6 := (HX.out.1 xs[j] (List.getElem_mem hjt)).2
            have hS1 : setN (waits (midR ys j)) j (ys[j].2.2 + 1) = waits (zeroR (ys.take j) ++ (ys[j].1, ys[j].2.1, ys[j].2.2 + 1) :: ys.drop (j + 1)) := by
              rw [waits_set _ j hml, midR_get ys j hyl hml, midR_set ys j hyl]
            have hS2 : setN (waits (midR ys j)) j 0 = waits (midR ys (j + 1)) := by
              rw [waits_set _ j hml, midR_get ys j hyl hml, midR_set ys j hyl, midR_step ys j hyl]
            have hHit := fun hc => incR_hit ys j hyl hno.out hc
            have hMiss : ¬ ys[j].2.2 + 1 < ys[j].2.1 → ∀ q (h : q < ys.length), q < j + 1 → ¬ ys[q].2.2 + 1 < ys[q].2.1 := fun hc q h hq => by
              rcases Nat.lt_or_ge q j with h9 | h9
              · exact hno.out q h h9
              · obtain rfl : q = j := by omega
                exact hc
            have q0 := cell_of_heap (o := j) hg (arrV_get _ j hj5)
            rw [hwv] at q0
            have q1 := frozen_of_heap (o := j) hg
            rw [hkey] at hb9 hS1 hHit hMiss
            obtain ⟨Z1, hZ1⟩ : ∃ y, zeroR (ys.take j) ++ (ys[j].1, xs[j].2.1, ys[j].2.2 + 1) :: ys.drop (j + 1) = y := ⟨_, rfl⟩
            rw [hZ1] at hS1 hHit
            obtain ⟨v, hv⟩ : ∃ y, ys[j].2.2 = y := ⟨_, rfl⟩
            rw [hv] at hb9 hS1 hHit hMiss q0
            have HS1 := Lib.hid (And.intro hS1 hS2)
            have HHIT := Lib.hid hHit
            have HMISS := Lib.hid hMiss
            clear hkey hwv hml hyl hS1 hS2 hHit hMiss hZ1 hv hcc hq hxs hp2 hcpp
            generalize xs[j] = x at *
            obtain ⟨x1, x2, x3⟩ := x
            simp only at d1 d2 d3 hb9 hE6
            have KA : Free.Bel wr (wr.alloc (.cells #[.int .i64 x1, .int .i64 x2, .int .i64 x3] 47)) := belAlloc _ _
            have hgA := heap_old (o := .cells #[.int .i64 x1, .int .i64 x2, .int .i64 x3] 47) hg
            have q2 := keepsB KA q0
            have q3 := frozB KA q0 q1
            have hgs := heap_setN hg j (v + 1)
            have hg2 := heap_old (o := .cells #[.int .i64 x1, .int .i64 x2, .int .i64 x3] 47) hgs
            have hwv : IntKind.i64.wrap (v + 1) = v + 1 := IntWalk.i64_in _ (by omega)
            have hsg : g < wr.heap.size := lt_of_heap hg
            have r0 := cell_of_heap (o := j) hg2 (arrV_get _ j hj5)
            have hsv : setN (waits (midR ys j)) j (v + 1) j = v + 1 := by simp [setN]
            rw [hsv] at r0
            have r1 : ((wr.setCell ⟨g, j, none⟩ (.int .i64 (v + 1))).alloc (.cells #[.int .i64 x1, .int .i64 x2, .int .i64 x3] 47)).cell? ⟨wr.heap.size, 1, none⟩ = some (.int .i64 x2) := by
              have h9 := World.alloc_heap_new (wr.setCell ⟨g, j, none⟩ (.int .i64 (v + 1))) (.cells #[.int .i64 x1, .int .i64 x2, .int .i64 x3] 47)
              simp only [World.size_setCell] at h9
              exact cell_of_heap h9 rfl
            have r2 := frozen_of_heap (o := j) hg2
            have hRI2 : RI n0 w3 ((wr.setCell ⟨g, j, none⟩ (.int .i64 (v + 1))).alloc (.cells #[.int .i64 x1, .int .i64 x2, .int .i64 x3] 47)) := (hRI.trans (.set HG.out.2 hg rfl)).trans (.of_bel (belAlloc _ _) (by simpa using Nat.le_trans HB3.out hRI.below.size))
            have hK2 : KC w0 ((wr.setCell ⟨g, j, none⟩ (.int .i64 (v + 1))).alloc (.cells #[.int .i64 x1, .int .i64 x2, .int .i64 x3] 47)) := (hK.set_new (Nat.le_trans HS.out.1 HG.out.2)).trans (.of_bel (belAlloc _ _))
            have HALL := Lib.hid (And.intro hRI2 (And.intro hK2 hg2))
            have HOLD := Lib.hid (And.intro hRI (And.intro hK hg))
            clear hRI2 hK2 hRI hsv q0 q1 hg hgA hgs KA
            gi_wp2
            obtain ⟨w5, hw5⟩ : ∃ y, (wr.setCell ⟨g, j, none⟩ (.int .i64 (v + 1))).alloc (.cells #[.int .i64 x1, .int .i64 x2, .int .i64 x3] 47) = y := ⟨_, rfl⟩
            rw [hw5] at HALL r0 r1 r2 hg2 ⊢
            by_cases hc : v + 1 < x2
            · have g9 : decide (v + 1 < x2) = true := decide_eq_true hc
              have hin := HHIT.out hc
              rw [HPX.out.2.2.1] at hin
              simp only [Prod.mk.injEq] at hin
              have HIN := Lib.hid hin
              rw [HS1.out.1] at hg2
              obtain ⟨z0, z1, z2, z3, _⟩ := cells4 hg2
              clear hin hw5 hg2
              gi_quiet_th (fail)
              generalize hw6 : w5.drewN _ = w6
              have K56 : Free.Bel w5 w6 := by rw [← hw6]; exact belN w5 _
              replace r2 := frozB K56 r0 r2
              replace r0 := keepsB K56 r0
              replace z0 := keepsB K56 z0
              replace z1 := keepsB K56 z1
              replace z2 := keepsB K56 z2
              replace z3 := keepsB K56 z3
              have HK56 := Lib.hid K56
              clear hw6 K56
              gi_wp2
              have HRX := Lib.hid (And.intro (HALL.out.1.trans (RI.of_bel HK56.out (Nat.le_trans HB3.out HALL.out.1.below.size))) (HALL.out.2.1.trans (KC.of_bel HK56.out)))
              go_roundw
              case rel =>
                refine ⟨k + 1, w6.heap.size, by omega, rfl, ?_, ?_, ?_, ?_, ?_⟩
                · have h9 := HIN.out.2
                  congr 1
                  rw [show true = decide ((k : Int) + 1 < prodE xs) from h9.symm]
                  rw [decide_eq_decide]
                  have h8 := HX.out.2.2.1
                  have h7 := hT.out.1
                  omega
                · exact HJ.out _ _ _ HI0.out (HRX.out.1.trans (.of_bel (belAlloc _ _) (Nat.le_trans HB3.out HRX.out.1.below.size)))
                · exact HRX.out.2.trans (.of_bel (belAlloc _ _))
                · have h9 := HIN.out.1
                  have h8 : ((k : Int) + 1) = ((k + 1 : Nat) : Int) := by omega
                  rw [h8] at h9
                  rw [h9]
                  exact World.alloc_heap_new _ _
                · exact Nat.le_trans HB3.out HRX.out.1.below.size
              case measure => 
                  rw [HST.out]
                  have h9 := HIN.out.1
                  have h8 : ((k : Int) + 1) = ((k + 1 : Nat) : Int) := by omega
                  have h7 := HIN.out.2
                  rw [decide_eq_true_eq] at h7
                  have h6 := World.alloc_heap_new w6 (.cells (arrV (waits Z1)) 109)
                  rw [stLeft_yes h6, ← h9, lcC_st (yAt_st _ HX.out.2.1).1 h4, lcode_yAt HX.out.2.1 (by omega) (by omega)]
                  omega
            · have g9 : decide (v + 1 < x2) = false := decide_eq_false hc
              have HMI := Lib.hid (HMISS.out (by omega))
              have HG2 := Lib.hid hg2
              clear hw5 hg2
              gi_quiet_th (fail)
              generalize hw6 : w5.drewN _ = w6
              have K56 : Free.Bel w5 w6 := by rw [← hw6]; exact belN w5 _
              replace r2 := frozB K56 r0 r2
              replace r0 := keepsB K56 r0
              have HK56 := Lib.hid K56
              clear hw6 K56
              gi_wp2
              go_roundw
              case rel =>
                refine ⟨j + 1, by omega, by go_num, rfl, (by show ∀ q (h : q < ys.length), q < j + 1 → ¬ ys[q].2.2 + 1 < ys[q].2.1; intro q h hq; have := HMI.out q h hq; omega), ?_, ?_, ?_⟩
                · exact (HALL.out.1.trans (.of_bel HK56.out (Nat.le_trans HB3.out HALL.out.1.below.size))).trans (.set HG.out.2 ((HK56.out.block _ (lt_of_heap HG2.out)).trans HG2.out) rfl)
                · exact (HALL.out.2.1.trans (.of_bel HK56.out)).set_new (Nat.le_trans HS.out.1 HG.out.2)
                · have := heap_setN ((HK56.out.block _ (lt_of_heap HG2.out)).trans HG2.out) j 0
                  rw [setN_set, HS1.out.2] at this
                  exact this
              case measure => simp [intOf]; omega
          · obtain rfl : j = xs.length := by omega
            have hin := incR_end ys fun q h _ => hno.out q h (by rw [← HNL.out]; exact h)
            rw [HNL.out, HPX.out.2.2.1] at hin
            simp only [Prod.mk.injEq] at hin
            have HIN := Lib.hid hin
            have HALL := Lib.hid (And.intro hRI (And.intro hK hg))
            obtain ⟨z0, z1, z2, z3, _⟩ := cells4 hg
            clear hin hRI hK hg
            gi_wp2
            have HRX := Lib.hid (And.intro HALL.out.1 HALL.out.2.1)
            go_roundw
            case rel =>
              refine ⟨k + 1, wr.heap.size, by omega, rfl, ?_, ?_, ?_, ?_, ?_⟩
              · have h9 := HIN.out.2
                congr 1
                rw [show false = decide ((k : Int) + 1 < prodE xs) from h9.symm]
                rw [decide_eq_decide]
                have h8 := HX.out.2.2.1
                have h7 := hT.out.1
                omega
              · exact HJ.out _ _ _ HI0.out (HRX.out.1.trans (.of_bel (belAlloc _ _) (Nat.le_trans HB3.out HRX.out.1.below.size)))
              · exact HRX.out.2.trans (.of_bel (belAlloc _ _))
              · have h9 := HIN.out.1
                have h8 : ((k : Int) + 1) = ((k + 1 : Nat) : Int) := by omega
                rw [h8] at h9
                rw [h9]
                exact World.alloc_heap_new _ _
              · exact Nat.le_trans HB3.out HRX.out.1.below.size
            case measure => 
                rw [HST.out, stLeft_no]
                omega
      · clear hK
        gi_wp2
        refine bodyPost_ret (results_none rfl _ _ _) rfl ?_
        exact ⟨⟨_, rfl⟩, .inr ⟨_, HPX.out.1, hJx3⟩⟩
    · obtain rfl : k = T := by omega
      have hd : decide (k < k) = false := by simp
      rw [hd]
      clear hd
      gi_wp2
      go_end0
      exact ⟨⟨_, rfl⟩, .inl (by have := HJk.out; rw [List.take_of_length_le (by rw [HX.out.2.2.2]; exact Nat.le_refl _)] at this; exact this)⟩
end Go.Proofs.YtknpglgpkkhhiaaDoor

/- All turnings of a day, in order: the closure that adds them. -/
namespace Go.Proofs.YtknpglgpkkhhiaaDoor
set_option linter.unusedSimpArgs false
set_option linter.unusedVariables false
open Go.RowKit Go.Proofs.YtknpglgpkkhhiaaDoor.Free2

def addT (T : Nat → Bool) (l : List Nat) : Nat → Bool := fun i => T i || decide (i ∈ l)
theorem addT_nil (T : Nat → Bool) : addT T [] = T := by funext i; simp [addT]
theorem addT_cons (T : Nat → Bool) (i : Nat) (l : List Nat) : addT T (i :: l) = addT (setB T i true) l := by
  funext j
  unfold addT setB
  by_cases h : j = i
  · simp [h]
  · simp [h]
/-- What the rounds from a on, ahead of i, have added. -/
def addF (T : Nat → Bool) (m a i k : Nat) : List (Nat → Bool) := ((List.range' a (i - a)).flatMap fun i => (comb m (i + 1) k).map (i :: ·)).map (addT T)
theorem addF_start (T : Nat → Bool) (m a k : Nat) : addF T m a a k = [] := by simp [addF]
theorem addF_step (T : Nat → Bool) (m a i k : Nat) (h : a ≤ i) : addF T m a (i + 1) k = addF T m a i k ++ (comb m (i + 1) k).map (addT (setB T i true)) := by
  unfold addF
  rw [show i + 1 - a = (i - a) + 1 by omega, List.range'_concat, List.flatMap_append, List.map_append]
  congr 1
  simp only [List.flatMap_cons, List.flatMap_nil, List.append_nil, List.map_map]
  rw [show a + 1 * (i - a) = i by omega]
  refine List.map_congr_left fun l _ => ?_
  simp [addT_cons]
theorem addF_end (T : Nat → Bool) (m a k : Nat) : addF T m a m k = (comb m a (k + 1)).map (addT T) := rfl
theorem comb_len : ∀ (k m a : Nat), a ≤ m → m ≤ 4 → k ≤ 3 → (comb m a k).length ≤ 24 := by
  have : ∀ k, k < 4 → ∀ m, m < 5 → ∀ a, a < 5 → a ≤ m → (comb m a k).length ≤ 24 := by decide +kernel
  exact fun k m a h1 h2 h3 => this k (by omega) m (by omega) a (by omega) h1

/-- All blocks but one, and that in which the row lies, stay. -/
structure RowX (rb : Nat) (v : Value) (a : World) (v' : Value) (b : World) : Prop where
  os : b.os = a.os
  tape : b.tape = a.tape
  output : b.output = a.output
  size : a.heap.size ≤ b.heap.size
  keep : ∀ k, k < a.heap.size → k ≠ rb → Off v k → Off v' k ∧ b.heap[k]? = a.heap[k]?
/-- The same, the row not told. -/
structure RO (s0 rb : Nat) (v : Value) (a b : World) : Prop where
  os : b.os = a.os
  tape : b.tape = a.tape
  output : b.output = a.output
  size : a.heap.size ≤ b.heap.size
  block : ∀ k, k < s0 → k ≠ rb → Off v k → b.heap[k]? = a.heap[k]?
section
variable {rb s0 base n : Nat} {v v' v'' : Value} {a b c : World} {e : TypeId} {size : Nat} {xs : List Value}
theorem RowX.refl (rb : Nat) (v : Value) (a : World) : RowX rb v a v a := ⟨rfl, rfl, rfl, Nat.le_refl _, fun _ _ _ h => ⟨h, rfl⟩⟩
theorem RowX.trans (h : RowX rb v a v' b) (k : RowX rb v' b v'' c) : RowX rb v a v'' c :=
  ⟨k.os.trans h.os, k.tape.trans h.tape, k.output.trans h.output, Nat.le_trans h.size k.size, fun i hi hn ho =>
    let ⟨h1, h2⟩ := h.keep i hi hn ho; let ⟨h3, h4⟩ := k.keep i (Nat.lt_of_lt_of_le hi h.size) hn h1; ⟨h3, h4.trans h2⟩⟩
theorem RowX.of_bel (h : Free.Bel a b) : RowX rb v a v b := ⟨h.os, h.tape, h.output, h.size, fun k hk _ ho => ⟨ho, h.block k hk⟩⟩
theorem RowX.below (h : RowX rb v a v' b) (ho : a.ownsRow base e size v n xs) {s : Nat} (hs : s ≤ base) (hb : s ≤ a.heap.size) (hr : s ≤ rb) : Below s a b :=
  ⟨h.os, h.tape, h.output, h.size, fun k hk => (h.keep k (by omega) (by omega) (off_base ho (by omega))).2⟩
theorem RO.refl (s0 rb : Nat) (v : Value) (a : World) : RO s0 rb v a a := ⟨rfl, rfl, rfl, Nat.le_refl _, fun _ _ _ _ => rfl⟩
theorem RO.trans (a b c : World) (h : RO s0 rb v a b) (k : RO s0 rb v b c) : RO s0 rb v a c := ⟨k.os.trans h.os, k.tape.trans h.tape, k.output.trans h.output, Nat.le_trans h.size k.size, fun i hi hn ho => (k.block i hi hn ho).trans (h.block i hi hn ho)⟩
theorem RO.of_bel (h : Free.Bel a b) (hs : s0 ≤ a.heap.size) : RO s0 rb v a b := ⟨h.os, h.tape, h.output, h.size, fun k hk _ _ => h.block k (by omega)⟩
theorem RO.set {o : Nat} {x : Value} : RO s0 rb v a (a.setCell ⟨rb, o, none⟩ x) := ⟨rfl, rfl, rfl, by simp, fun k _ hn _ => Below.heap_setCell _ _ _ _ (by simpa using hn)⟩
theorem RO.cell (h : RO s0 rb v a b) {p : Addr} {x : Value} (hv : a.cell? p = some x) (hs : p.block < s0) (hn : p.block ≠ rb) (ho : Off v p.block) : b.cell? p = some x := (World.cell?_of_block (h.block _ hs hn ho)).trans hv
end
/-- A row that is known, a literal (operation il), their append (ia), its store (is) into a block. -/
structure JY (s0 base : Nat) (e : TypeId) (sz : Nat) (v : Value) (n : Nat) (cs cl : List Value) (ild il ia is rb : Nat) (z : Obj) (cont : Value → Obj) (X : XT) (w : World) : Prop where
  size : s0 ≤ w.heap.size
  row0 : X ia = none → w.ownsRow base e sz v n cs
  lit : X ia = none → ∀ u, X il = some u → w.ownsRow base e sz u 1 cl
  row1 : ∀ u, X ia = some u → w.ownsRow base e sz u (n + 1) (cs ++ cl) ∧ ∀ k, k < s0 → Off v k → Off u k
  st0 : X is = none → w.heap[rb]? = some z
  st1 : X is ≠ none → ∃ u, X ia = some u ∧ w.heap[rb]? = some (cont u)
  rbs : rb < base ∧ base ≤ s0
  ord : X is ≠ none → X ild ≠ none ∧ X ia ≠ none
section
variable {s0 base n : Nat} {e : TypeId} {sz : Nat} {v : Value} {cs cl : List Value} {ild il ia is rb : Nat} {z : Obj} {cont : Value → Obj} {X : XT} {w w' : World}
theorem JY.start (hs : s0 ≤ w.heap.size) (ho : w.ownsRow base e sz v n cs) (hz : w.heap[rb]? = some z) (hr : rb < base ∧ base ≤ s0) : JY s0 base e sz v n cs cl ild il ia is rb z cont (fun _ => none) w :=
  ⟨hs, fun _ => ho, fun _ _ h => (by cases h), fun _ h => (by cases h), fun _ => hz, fun h => absurd rfl h, hr, fun h => absurd rfl h⟩
theorem JY.ordS (h : JY s0 base e sz v n cs cl ild il ia is rb z cont X w) (m : Nat) (x : Value) (h2 : m ≠ ia) (h3 : m ≠ is) : upd X m x is ≠ none → upd X m x ild ≠ none ∧ upd X m x ia ≠ none := by
  intro hx
  rw [upd_other _ _ h3.symm] at hx
  obtain ⟨o1, o2⟩ := h.ord hx
  refine ⟨?_, by rw [upd_other _ _ h2.symm]; exact o2⟩
  by_cases e : ild = m
  · rw [e, upd_same]; simp
  · rw [upd_other _ _ e]; exact o1
theorem JY.skip (h : JY s0 base e sz v n cs cl ild il ia is rb z cont X w) (m : Nat) (x : Value) (h1 : m ≠ il) (h2 : m ≠ ia) (h3 : m ≠ is) : JY s0 base e sz v n cs cl ild il ia is rb z cont (upd X m x) w :=
  ⟨h.size, by rw [upd_other _ _ h2.symm]; exact h.row0, by rw [upd_other _ _ h2.symm, upd_other _ _ h1.symm]; exact h.lit, by rw [upd_other _ _ h2.symm]; exact h.row1, by rw [upd_other _ _ h3.symm]; exact h.st0, by rw [upd_other _ _ h3.symm, upd_other _ _ h2.symm]; exact h.st1, h.rbs, h.ordS m x h2 h3⟩
theorem JY.new (h : JY s0 base e sz v n cs cl ild il ia is rb z cont X w) (h2 : il ≠ ia) (h3 : il ≠ is) {u : Value} (hB : Free.Bel w w') (ho : w'.ownsRow w.heap.size e sz u 1 cl) : JY s0 base e sz v n cs cl ild il ia is rb z cont (upd X il u) w' :=
  ⟨Nat.le_trans h.size hB.size, by rw [upd_other _ _ h2.symm]; exact fun hx => bel_row (h.row0 hx) hB, by
    rw [upd_other _ _ h2.symm, upd_same]
    intro _ q hq
    cases hq
    exact row_mono ho (Nat.le_trans h.rbs.2 h.size), by
    rw [upd_other _ _ h2.symm]
    exact fun q hq => ⟨bel_row (h.row1 q hq).1 hB, (h.row1 q hq).2⟩, by
    rw [upd_other _ _ h3.symm]
    exact fun hx => (hB.block _ (by have := h.rbs; have := h.size; omega)).trans (h.st0 hx), by
    rw [upd_other _ _ h3.symm, upd_other _ _ h2.symm]
    exact fun hx => let ⟨q, g1, g2⟩ := h.st1 hx; ⟨q, g1, (hB.block _ (by have := h.rbs; have := h.size; omega)).trans g2⟩, h.rbs, h.ordS il u h2 h3⟩
theorem JY.take (h : JY s0 base e sz v n cs cl ild il ia is rb z cont X w) (h2 : il ≠ ia) (h3 : ia ≠ is) {v' : Value} (hx : X ia = none) (hxs : X is = none) (hR : RowK v w v' w') (ho : w'.ownsRow base e sz v' (n + 1) (cs ++ cl)) : JY s0 base e sz v n cs cl ild il ia is rb z cont (upd X ia v') w' :=
  ⟨Nat.le_trans h.size hR.size, by rw [upd_same]; exact fun e => (by cases e), by rw [upd_same]; exact fun e => (by cases e), by
    rw [upd_same]
    intro q hq
    cases hq
    exact ⟨ho, fun k hk hov => (hR.keep k (by have := h.size; omega) hov).1⟩, by
    rw [upd_other _ _ h3.symm]
    exact fun hx2 => (hR.keep rb (by have := h.rbs; have := h.size; omega) (off_base (h.row0 hx) h.rbs.1)).2.trans (h.st0 hx2), by
    rw [upd_other _ _ h3.symm, hxs]
    exact fun e => absurd rfl e, h.rbs, by
    rw [upd_other _ _ h3.symm, hxs]
    exact fun e => absurd rfl e⟩
theorem JY.store (h : JY s0 base e sz v n cs cl ild il ia is rb z cont X w) (h1 : il ≠ is) (h3 : ia ≠ is) (h4 : ild ≠ is) {u y : Value} (hl : X ild ≠ none) (hu : X ia = some u) (hs : w.heap.size ≤ w'.heap.size) (hb : w'.heap[rb]? = some (cont u)) (ho : ∀ k, k ≠ rb → w'.heap[k]? = w.heap[k]?) : JY s0 base e sz v n cs cl ild il ia is rb z cont (upd X is y) w' := by
  have hrow : ∀ {m q : Nat} {x : Value} {ys : List Value}, w.ownsRow base e sz x q ys → w'.ownsRow base e sz x q ys := fun hr => row_block hr fun k hk hl => ho k (by
    rintro rfl
    exact off_base hr h.rbs.1 hk)
  refine ⟨Nat.le_trans h.size hs, by rw [upd_other _ _ h3, hu]; exact fun e => (by cases e), by rw [upd_other _ _ h3, hu]; exact fun e => (by cases e), ?_, by rw [upd_same]; exact fun e => (by cases e), fun _ => ⟨u, by rw [upd_other _ _ h3]; exact hu, hb⟩, h.rbs, fun _ => ⟨by rw [upd_other _ _ h4]; exact hl, by rw [upd_other _ _ h3, hu]; simp⟩⟩
  rw [upd_other _ _ h3]
  exact fun q hq => ⟨hrow (m := 0) (h.row1 q hq).1, (h.row1 q hq).2⟩
end

/-- The yard and the variables, at work. -/
structure CY (base yB wB cB yb : Nat) (h : Int) (p : Option Addr) (m cp gb : Nat) (v : Value) (D : List (Nat → Bool)) (W : World) : Prop where
  y : W.heap[yB]? = some (.cells #[.pointer (some ⟨yb, 0, none⟩)] 108 (0, 0))
  w : W.heap[wB]? = some (.cells #[.int .i64 h, .slice p m cp] 24 (0, 0))
  c : W.heap[cB]? = some (.cells #[.func (.func 107) #[] #[.pointer (some ⟨yB, 0, none⟩), .pointer (some ⟨wB, 0, none⟩), .pointer (some ⟨cB, 0, none⟩)]] 164 (0, 0))
  yard : W.heap[yb]? = some (.cells #[.int .i64 h, .slice p m cp, .map (some gb), v] 144 (0, 0))
  row : W.ownsRow base 149 4 v D.length (cellsT D)
section
variable {base yB wB cB yb : Nat} {h : Int} {p : Option Addr} {m cp gb : Nat} {v v' : Value} {D D' : List (Nat → Bool)} {W W' : World}
theorem CY.bel (H : CY base yB wB cB yb h p m cp gb v D W) (hB : Free.Bel W W') : CY base yB wB cB yb h p m cp gb v D W' :=
  ⟨(hB.block _ (lt_of_heap H.y)).trans H.y, (hB.block _ (lt_of_heap H.w)).trans H.w, (hB.block _ (lt_of_heap H.c)).trans H.c, (hB.block _ (lt_of_heap H.yard)).trans H.yard, bel_row H.row hB⟩
theorem CY.step (H : CY base yB wB cB yb h p m cp gb v D W) (hb : yB < base ∧ wB < base ∧ cB < base ∧ yb < base ∧ yB ≠ yb ∧ wB ≠ yb ∧ cB ≠ yb) (hR : RowX yb v W v' W') (hy : W'.heap[yb]? = some (.cells #[.int .i64 h, .slice p m cp, .map (some gb), v'] 144 (0, 0))) (hr : W'.ownsRow base 149 4 v' D'.length (cellsT D')) : CY base yB wB cB yb h p m cp gb v' D' W' :=
  ⟨(hR.keep _ (lt_of_heap H.y) hb.2.2.2.2.1 (off_base H.row hb.1)).2.trans H.y, (hR.keep _ (lt_of_heap H.w) hb.2.2.2.2.2.1 (off_base H.row hb.2.1)).2.trans H.w, (hR.keep _ (lt_of_heap H.c) hb.2.2.2.2.2.2 (off_base H.row hb.2.2.1)).2.trans H.c, hy, hr⟩
end
theorem T.infoTurned : (Tryd.prog.info? 149).map (fun i => (i.zero, i.size, i.bytes)) = some (some (.agg #[.bool false, .bool false, .bool false, .bool false]), 4, 4) := by kernel_rfl
set_option maxRecDepth 100000 in
set_option maxHeartbeats 8000000 in
theorem choose0_any (base yB wB cB yb : Nat) (h : Int) (p : Option Addr) (m cp gb : Nat) (v : Value) (D : List (Nat → Bool)) (T : Nat → Bool) (a : Nat) (w : World) (H : CY base yB wB cB yb h p m cp gb v D w) (hb : yB < base ∧ wB < base ∧ cB < base ∧ yb < base ∧ yB ≠ yb ∧ wB ≠ yb ∧ cB ≠ yb) (hbs : base ≤ w.heap.size) (hD : D.length ≤ 100000) :
    Calls Tryd.prog 107 #[stB T, .int .i64 a, .int .i64 0, .pointer (some ⟨yB, 0, none⟩), .pointer (some ⟨wB, 0, none⟩), .pointer (some ⟨cB, 0, none⟩)] w fun e w' => (∃ x, e = .returned x) ∧ ∃ v', CY base yB wB cB yb h p m cp gb v' (D ++ [T]) w' ∧ RowX yb v w v' w' := by
  obtain ⟨i0, hi0, hz0, hz1, hz2⟩ := info_parts Go.Proofs.YtknpglgpkkhhiaaDoor.T.infoTurned
  have HZ := Lib.hid (And.intro hi0 (And.intro hz0 (And.intro hz1 hz2)))
  clear hi0 hz0 hz1 hz2
  have HH := Lib.hid H
  have HB := Lib.hid hb
  have KA : Free.Bel w (w.alloc (.cells (arrB T) 149)) := belAlloc _ _
  have mT : (w.alloc (.cells (arrB T) 149)).heap[w.heap.size]? = some (.cells (arrB T) 149 (0, 0)) := World.alloc_heap_new w _
  have H1 := H.bel KA
  have hs1 : w.heap.size < (w.alloc (.cells (arrB T) 149)).heap.size := by simp
  have HD := Lib.hid hD
  go_enter Tryd.func107, Tryd.ntmps107
  go_wp2_with fail
  generalize hw1 : w.alloc (.cells (arrB T) 149) = w1 at *
  obtain ⟨b1, b2, b3, b4, b5, b6, b7⟩ := hb
  have hF : ∀ W, RO w1.heap.size yb v w1.drew W → (W.cell? ⟨yB, 0, none⟩ = some (.pointer (some ⟨yb, 0, none⟩)) ∧ W.cell? ⟨w.heap.size, 0, none⟩ = some (.bool (T 0)) ∧ W.cell? ⟨w.heap.size, 1, none⟩ = some (.bool (T 1)) ∧ W.cell? ⟨w.heap.size, 2, none⟩ = some (.bool (T 2)) ∧ W.cell? ⟨w.heap.size, 3, none⟩ = some (.bool (T 3))) := fun W hW => by
    have ho : Off v w.heap.size := off_new HH.out.row (Nat.le_refl _)
    have hyl := lt_of_heap H1.y
    exact ⟨hW.cell (show w1.drew.cell? _ = _ from cell_of_heap H1.y rfl) hyl b5 (off_base HH.out.row b1), hW.cell (show w1.drew.cell? _ = _ from cell_of_heap mT rfl) hs1 (by simp; omega) ho, hW.cell (show w1.drew.cell? _ = _ from cell_of_heap mT rfl) hs1 (by simp; omega) ho, hW.cell (show w1.drew.cell? _ = _ from cell_of_heap mT rfl) hs1 (by simp; omega) ho, hW.cell (show w1.drew.cell? _ = _ from cell_of_heap mT rfl) hs1 (by simp; omega) ho⟩
  have hyd : w1.drew.heap[yb]? = some (.cells #[.int .i64 h, .slice p m cp, .map (some gb), v] 144 (0, 0)) := (show w1.heap[yb]? = _ from H1.yard)
  have hrw : w1.drew.ownsRow base 149 4 v D.length (cellsT D) := bel_row H1.row (show Free.Bel w1 w1.drew from belN w1 1)
  refine Free2.wp_free (R := RO w1.heap.size yb v) (J := JY w1.heap.size base 149 4 v D.length (cellsT D) (cellsT [T]) 4 6 7 10 yb (.cells #[.int .i64 h, .slice p m cp, .map (some gb), v] 144 (0, 0)) (fun u => .cells #[.int .i64 h, .slice p m cp, .map (some gb), u] 144 (0, 0))) (by kernel_rfl) (by kernel_rfl) (RO.refl _ _ _) RO.trans (JY.start (Nat.le_refl _) hrw hyd ⟨b4, Nat.le_trans hbs (Nat.le_of_lt hs1)⟩) ?_
  refine Free2.Chain.ex ?_ 0 rfl [] [3] (by kernel_rfl) (by kernel_rfl) rfl (RO.refl _ _ _) (fun X W v h => JY.skip h 0 v (by simp) (by simp) (by simp)) ?_ ?_
  rotate_left
  · (intro ev W hb hR hO hD; have hS := hF W hR; obtain ⟨hb1, hb2, hb3⟩ := hb; simp only [Free.AllDeps, Free.AllOuts, Free.At, al1, al2, al3, al4, al5, and_true] at hO hD; go_simp; rfl)
  simp only [an1, an2]
  refine Free2.Chain.ex ?_ 1 rfl [] [3] (by kernel_rfl) (by kernel_rfl) rfl (RO.refl _ _ _) (fun X W v h => JY.skip h 1 v (by simp) (by simp) (by simp)) ?_ ?_
  rotate_left
  · (intro ev W hb hR hO hD; have hS := hF W hR; obtain ⟨hb1, hb2, hb3⟩ := hb; simp only [Free.AllDeps, Free.AllOuts, Free.At, al1, al2, al3, al4, al5, and_true] at hO hD; go_simp; rfl)
  simp only [an1, an2]
  refine Free2.Chain.ex ?_ 2 rfl [(1, 14)] [] (by kernel_rfl) (by kernel_rfl) rfl (RO.refl _ _ _) (fun X W v h => JY.skip h 2 v (by simp) (by simp) (by simp)) ?_ ?_
  rotate_left
  · (intro ev W hb hR hO hD; have hS := hF W hR; obtain ⟨hb1, hb2, hb3⟩ := hb; simp only [Free.AllDeps, Free.AllOuts, Free.At, al1, al2, al3, al4, al5, and_true] at hO hD; go_simp; rfl)
  simp only [an1, an2]
  refine Free2.Chain.ex ?_ 3 rfl [(2, 15)] [] (by kernel_rfl) (by kernel_rfl) rfl (RO.refl _ _ _) (fun X W v h => JY.skip h 3 v (by simp) (by simp) (by simp)) ?_ ?_
  rotate_left
  · (intro ev W hb hR hO hD; have hS := hF W hR; obtain ⟨hb1, hb2, hb3⟩ := hb; simp only [Free.AllDeps, Free.AllOuts, Free.At, al1, al2, al3, al4, al5, and_true] at hO hD; go_simp; rfl)
  simp only [an1, an2]
  refine Free2.Chain.pr (fun u _ => u = v) 4 rfl [(3, 16)] [] (by kernel_rfl) (by kernel_rfl) rfl (fun _ _ _ _ h => h) ?_ ?_
  · (intro ev W X hb hR hO hD hj hx hax; have hS := hF W hR; obtain ⟨hb1, hb2, hb3⟩ := hb; simp only [Free.AllDeps, Free.AllOuts, Free.At, al1, al2, al3, al4, al5, and_true] at hO hD; simp only [Free2.AllX, and_true] at hax; have h10 : X 10 = none := (by cases h9 : X 10; rfl; exact absurd hx (hj.ord (by rw [h9]; simp)).1); have hq := cell_of_heap (o := 3) (hj.st0 h10) rfl; go_simp; exact ⟨RO.refl _ _ _ _, rfl, JY.skip hj 4 _ (by simp) (by simp) (by simp)⟩)
  simp only [an1, an2]
  refine Free2.Chain.ex ?_ 5 rfl [] [6] (by kernel_rfl) (by kernel_rfl) rfl (RO.refl _ _ _) (fun X W v h => JY.skip h 5 v (by simp) (by simp) (by simp)) ?_ ?_
  rotate_left
  · (intro ev W hb hR hO hD; have hS := hF W hR; obtain ⟨hb1, hb2, hb3⟩ := hb; simp only [Free.AllDeps, Free.AllOuts, Free.At, al1, al2, al3, al4, al5, and_true] at hO hD; go_simp; rfl)
  simp only [an1, an2]
  refine Free2.Chain.pr (fun u _ => True) 6 rfl [(5, 18)] [] (by kernel_rfl) (by kernel_rfl) rfl (fun _ _ _ _ h => h) ?_ ?_
  · (intro ev W X hb hR hO hD hj hx hax; have hS := hF W hR; obtain ⟨hb1, hb2, hb3⟩ := hb; simp only [Free.AllDeps, Free.AllOuts, Free.At, al1, al2, al3, al4, al5, and_true] at hO hD; simp only [Free2.AllX, and_true] at hax; go_simp; exact ⟨RO.of_bel (belAlloc _ _) hj.size, JY.new hj (by simp) (by simp) (belAlloc _ _) (World.ownsRow_lit W #[.bool (T 0), .bool (T 1), .bool (T 2), .bool (T 3)] 1 (Nat.le_refl _) (by unfold maxLen; omega) rfl)⟩)
  simp only [an1, an2]
  refine Free2.Chain.pr (fun u _ => True) 7 rfl [(4, 17), (6, 19)] [] (by kernel_rfl) (by kernel_rfl) rfl (fun _ _ _ _ h => h) ?_ ?_
  · (intro ev W X hb hR hO hD hj hx hax; have hS := hF W hR; obtain ⟨hb1, hb2, hb3⟩ := hb; simp only [Free.AllDeps, Free.AllOuts, Free.At, al1, al2, al3, al4, al5, and_true] at hO hD; simp only [Free2.AllX, and_true] at hax; have h10 : X 10 = none := (by cases h9 : X 10; rfl; exact absurd hx (hj.ord (by rw [h9]; simp)).2); have hr0 := hj.row0 hx; have hr2 := hj.lit hx _ hax.2; obtain ⟨p8, c8, e8⟩ := row_slice hr2; have hs8 : ∀ ad, p8 = some ad → ∀ j u, (cellsT [T])[j]? = some u → W.cell? (ad.add j) = some u := (fun ad he j u hju => by obtain ⟨g, cap, cur, h9, hb9, hg9, _⟩ := hr2.2.resolve_left (fun h => absurd h.2 (by decide)); rw [e8] at h9; simp only [Value.slice.injEq] at h9; rw [e8, h9.1] at hr2; rw [h9.1] at he; cases he; exact hr2.cells (g := g) (by simp [Value.ownBlock]) j u hju); refine yields_append_row W _ (.tmp 17) (.tmp 19) 142 rfl base 149 i0 (.agg #[.bool false, .bool false, .bool false, .bool false]) 4 4 Tryd.underlying142 HZ.out.1 HZ.out.2.1 HZ.out.2.2.1 HZ.out.2.2.2 rfl (by decide) v D.length (cellsT D) hD hr0 p8 1 c8 (cellsT [T]) e8 rfl hs8 (fun he => by obtain ⟨g, cap, cur, h9, _⟩ := hr2.2.resolve_left (fun h => absurd h.2 (by decide)); rw [e8, he] at h9; cases h9) (cellsT_one _) (by have := HD.out; unfold maxLen; omega) (by have := HD.out; omega) (Nat.le_trans hj.rbs.2 hj.size) ?_; intro v9 w9 ho9 hk9; exact ⟨⟨hk9.os, hk9.tape, hk9.output, hk9.size, fun q hq _ ho => (hk9.keep q (by have := hj.size; omega) ho).2⟩, trivial, JY.take hj (by simp) (by simp) hx h10 hk9 ho9⟩)
  simp only [an1, an2]
  refine Free2.Chain.ex ?_ 8 rfl [(0, 13), (0, 13), (1, 14), (2, 15), (3, 16), (4, 17), (5, 18), (6, 19), (7, 20)] [] (by kernel_rfl) (by kernel_rfl) rfl (RO.refl _ _ _) (fun X W v h => JY.skip h 8 v (by simp) (by simp) (by simp)) ?_ ?_
  rotate_left
  · (intro ev W hb hR hO hD; have hS := hF W hR; obtain ⟨hb1, hb2, hb3⟩ := hb; simp only [Free.AllDeps, Free.AllOuts, Free.At, al1, al2, al3, al4, al5, and_true] at hO hD; go_simp; rfl)
  simp only [an1, an2]
  refine Free2.Chain.ex ?_ 9 rfl [(8, 21), (0, 13), (1, 14), (2, 15), (3, 16), (4, 17), (5, 18), (6, 19), (7, 20)] [] (by kernel_rfl) (by kernel_rfl) rfl (RO.refl _ _ _) (fun X W v h => JY.skip h 9 v (by simp) (by simp) (by simp)) ?_ ?_
  rotate_left
  · (intro ev W hb hR hO hD; have hS := hF W hR; obtain ⟨hb1, hb2, hb3⟩ := hb; simp only [Free.AllDeps, Free.AllOuts, Free.At, al1, al2, al3, al4, al5, and_true] at hO hD; go_simp; rfl)
  simp only [an1, an2]
  refine Free2.Chain.pr (fun u _ => True) 10 rfl [(9, 22), (7, 20), (7, 20), (0, 13), (1, 14), (2, 15), (3, 16), (4, 17), (5, 18), (6, 19), (7, 20)] [] (by kernel_rfl) (by kernel_rfl) rfl (fun _ _ _ _ h => h) ?_ ?_
  · (intro ev W X hb hR hO hD hj hx hax; have hS := hF W hR; obtain ⟨hb1, hb2, hb3⟩ := hb; simp only [Free.AllDeps, Free.AllOuts, Free.At, al1, al2, al3, al4, al5, and_true] at hO hD; simp only [Free2.AllX, and_true] at hax; have hx7 := hax.2.1; obtain ⟨hr1, _⟩ := hj.row1 _ hx7; obtain ⟨p8, c8, e8⟩ := row_slice hr1; have hzz := hj.st0 hx; have q1 := cell_of_heap (o := 3) hzz rfl; have f1 := frozen_of_heap (o := 3) hzz; rw [e8] at hx7; go_simp; have h9 := heap_setCell_same (o := 3) (.slice p8 (D.length + 1) c8) hzz; exact ⟨RO.set, JY.store hj (by simp) (by simp) (by simp) (by rw [hax.2.2.2.2.2.2.2.1]; simp) hx7 (by simp) (by simpa using h9) (fun q hq => heap_setCell_other hq)⟩)
  simp only [an1, an2]
  intro ys w' hR hV hX
  obtain ⟨X, hj, hxx⟩ := hX
  simp only [Free.AllV, Free.At, List.length_cons, List.length_nil, Nat.reduceAdd, List.getElem?_cons_succ, List.getElem?_cons_zero, true_and, and_true] at hV
  simp only [Free.putsFrom, Act.put, Nat.zero_add, Nat.reduceAdd, hV, List.setIfInBounds_toArray, List.set_cons_succ, List.set_cons_zero]
  have hx10 : X 10 = some (ys 10) := hxx 10 (by decide)
  obtain ⟨v', hv', hyd'⟩ := hj.st1 (by rw [hx10]; simp)
  obtain ⟨hrow', hoff'⟩ := hj.row1 v' hv'
  have hRX : RowX yb v w v' w' := ⟨hR.os.trans (show w1.drew.os = w.os from KA.os), hR.tape.trans (show w1.drew.tape = w.tape from KA.tape), hR.output.trans (show w1.drew.output = w.output from KA.output), Nat.le_trans KA.size hR.size, fun k hk hn ho => ⟨hoff' k (Nat.lt_of_lt_of_le hk KA.size) ho, (hR.block k (Nat.lt_of_lt_of_le hk KA.size) hn ho).trans (show w1.drew.heap[k]? = w.heap[k]? from KA.block k hk)⟩⟩
  have hCY : CY base yB wB cB yb h p m cp gb v' (D ++ [T]) w' := HH.out.step HB.out hRX hyd' (by rw [List.length_append, cellsT_append]; exact hrow')
  have HFIN := Lib.hid (And.intro hCY hRX)
  clear hR hV hF hj hxx hx10 hrow' hoff' hRX hCY hyd hrw hyd' H1 mT KA hv'
  go_wp2_with fail
  refine bodyPost_ret (results_none rfl _ _ _) rfl ?_
  exact ⟨⟨_, rfl⟩, v', HFIN.out⟩

end Go.Proofs.YtknpglgpkkhhiaaDoor

/- All turnings of a day, in order: the closure calls itself. -/
namespace Go.Proofs.YtknpglgpkkhhiaaDoor
set_option linter.unusedSimpArgs false
set_option linter.unusedVariables false
open Go.RowKit Go.Proofs.YtknpglgpkkhhiaaDoor.Free2

/-- What is claimed of so many ricks more. -/
def ChooseOk (base yB wB cB yb : Nat) (h : Int) (p : Option Addr) (m cp gb k : Nat) : Prop :=
  ∀ (v : Value) (D : List (Nat → Bool)) (T : Nat → Bool) (a : Nat) (w : World), CY base yB wB cB yb h p m cp gb v D w → base ≤ w.heap.size → D.length + 24 * 5 ^ k ≤ 100000 → a ≤ m → Calls Tryd.prog 107 #[stB T, .int .i64 a, .int .i64 k, .pointer (some ⟨yB, 0, none⟩), .pointer (some ⟨wB, 0, none⟩), .pointer (some ⟨cB, 0, none⟩)] w fun e w' => (∃ x, e = .returned x) ∧ ∃ v', CY base yB wB cB yb h p m cp gb v' (D ++ (comb m a k).map (addT T)) w' ∧ RowX yb v w v' w'
theorem CY.off {base yB wB cB yb : Nat} {h : Int} {p : Option Addr} {m cp gb : Nat} {v : Value} {D : List (Nat → Bool)} {W : World} (H : CY base yB wB cB yb h p m cp gb v D W) {k : Nat} (hk : W.heap.size ≤ k) : Off v k := off_new H.row hk
theorem addF_len (T : Nat → Bool) (m a j k : Nat) (hj : j ≤ m) (hm : m ≤ 4) (hk : k ≤ 2) : (addF T m a j k).length ≤ 96 := by
  unfold addF
  rw [List.length_map]
  have : ∀ k, k < 3 → ∀ m, m < 5 → ∀ a, a < 5 → ∀ j, j < 5 → j ≤ m → ((List.range' a (j - a)).flatMap fun i => (comb m (i + 1) k).map (i :: ·)).length ≤ 96 := by decide +kernel
  by_cases ha : a < 5
  · exact this k (by omega) m (by omega) a ha j (by omega) hj
  · rw [show j - a = 0 by omega]; simp
set_option maxRecDepth 100000 in
set_option maxHeartbeats 8000000 in
theorem chooseS_any (base yB wB cB yb : Nat) (h : Int) (p : Option Addr) (m cp gb k : Nat) (hm4 : m ≤ 4) (hk3 : k ≤ 2) (hb : yB < base ∧ wB < base ∧ cB < base ∧ yb < base ∧ yB ≠ yb ∧ wB ≠ yb ∧ cB ≠ yb) (IH : ChooseOk base yB wB cB yb h p m cp gb k) : ChooseOk base yB wB cB yb h p m cp gb (k + 1) := by
  intro v D T a w H hbs hD ha
  have HH := Lib.hid H
  have HB := Lib.hid hb
  have HIH := Lib.hid IH
  have HA := Lib.hid (And.intro ha (And.intro hm4 (And.intro hk3 hbs)))
  have HD := Lib.hid hD
  have KA : Free.Bel w (w.alloc (.cells (arrB T) 149)) := belAlloc _ _
  have mT : (w.alloc (.cells (arrB T) 149)).heap[w.heap.size]? = some (.cells (arrB T) 149 (0, 0)) := World.alloc_heap_new w _
  have HI := Lib.hid (show CY base yB wB cB yb h p m cp gb v (D ++ addF T m a a k) (w.alloc (.cells (arrB T) 149)) ∧ RowX yb v w v (w.alloc (.cells (arrB T) 149)) ∧ (w.alloc (.cells (arrB T) 149)).heap[w.heap.size]? = some (.cells (arrB T) 149 (0, 0)) ∧ Off v w.heap.size from ⟨by rw [addF_start, List.append_nil]; exact H.bel KA, RowX.of_bel KA, mT, H.off (Nat.le_refl _)⟩)
  have hkw : IntKind.i64.wrap (((k + 1 : Nat) : Int) - 1) = (k : Int) := by rw [IntWalk.i64_in _ (by omega)]; omega
  have hkk : IntKind.i64.wrap (k : Int) = (k : Int) := IntWalk.i64_in _ (by omega)
  have g0 : (((k + 1 : Nat) : Int) == 0) = false := by simp; omega
  have hkx : ((k + 1 : Nat) : Int) = (k : Int) + 1 := by omega
  rw [hkx] at hkw g0 ⊢
  clear mT KA H hb IH hD ha hm4 hk3 hbs hkx
  go_enter Tryd.func107, Tryd.ntmps107
  go_wp2_with fail
  go_loopw [9] (fun i wr => ∃ (j : Nat) (u : Value), a ≤ j ∧ j ≤ m ∧ i = .int .i64 j ∧ CY base yB wB cB yb h p m cp gb u (D ++ addF T m a j k) wr ∧ RowX yb v w u wr ∧ wr.heap[w.heap.size]? = some (.cells (arrB T) 149 (0, 0)) ∧ Off u w.heap.size) (fun i _ => m - (intOf i).toNat)
  case atStart => exact ⟨a, v, Nat.le_refl _, HA.out.1, rfl, HI.out⟩
  case round =>
    obtain ⟨j, u, haj, hjm, rfl, hC, hX, hT, hO⟩ := hrel
    have HC := Lib.hid (And.intro hC (And.intro hX (And.intro hT hO)))
    have q0 := cell_of_heap (o := 1) hC.w rfl
    by_cases hlt : j < m
    · have hjlt : (j : Int) < m := by omega
      have hj4 : (j : Int) < 4 := by have := HA.out.2.1; omega
      have hj5 : j < 4 := by have := HA.out.2.1; omega
      have hjw : IntKind.i64.wrap ((j : Int) + 1) = (j : Int) + 1 := IntWalk.i64_in _ (by omega)
      obtain ⟨t0, t1, t2, t3, _⟩ := cells4 hT
      have hset : ([.bool (T 0), .bool (T 1), .bool (T 2), .bool (T 3)].set j (.bool true)).toArray = arrB (setB T j true) := by rw [← arrB_set]; simp
      have KN : Free.Bel wr (wr.alloc (.cells ([.bool (T 0), .bool (T 1), .bool (T 2), .bool (T 3)].set j (.bool true)).toArray 149)) := belAlloc _ _
      have mS : (wr.alloc (.cells ([.bool (T 0), .bool (T 1), .bool (T 2), .bool (T 3)].set j (.bool true)).toArray 149)).heap[wr.heap.size]? = some (.cells (arrB (setB T j true)) 149 (0, 0)) := by rw [World.alloc_heap_new, hset]
      have mN : (wr.alloc (.cells (arrB T) 149)).heap[wr.heap.size]? = some (.cells (arrB T) 149 (0, 0)) := World.alloc_heap_new wr _
      have s0 := cell_of_heap (o := j) mN (arrB_get _ j hj5)
      have s1 := frozen_of_heap (o := j) mN
      have hbase : base ≤ wr.heap.size := Nat.le_trans HA.out.2.2.2 hX.size
      have hXS : RowX yb u wr u (wr.alloc (.cells ([.bool (T 0), .bool (T 1), .bool (T 2), .bool (T 3)].set j (.bool true)).toArray 149)) := RowX.of_bel KN
      have hCS : CY base yB wB cB yb h p m cp gb u (D ++ addF T m a j k) (wr.alloc (.cells ([.bool (T 0), .bool (T 1), .bool (T 2), .bool (T 3)].set j (.bool true)).toArray 149)) := hC.bel KN
      have hlen : (D ++ addF T m a j k).length + 24 * 5 ^ k ≤ 100000 := by
        have h1 := addF_len T m a j k (by have := HA.out.2.1; omega) (by have := HA.out.2.1; omega) (by have := HA.out.2.2.1; omega)
        have h2 := HD.out
        rw [List.length_append]
        have h3 : 5 ^ (k + 1) = 5 ^ k * 5 := Nat.pow_succ 5 k
        have h4 : 1 ≤ 5 ^ k := Nat.one_le_pow _ _ (by omega)
        omega
      have HCS := Lib.hid (And.intro hCS (And.intro hXS mS))
      have hcon := HIH.out u (D ++ addF T m a j k) (setB T j true) (j + 1) (wr.alloc (.cells ([.bool (T 0), .bool (T 1), .bool (T 2), .bool (T 3)].set j (.bool true)).toArray 149)) hCS (by simp; omega) hlen hlt
      have hjx : ((j + 1 : Nat) : Int) = (j : Int) + 1 := by omega
      rw [hjx] at hcon
      have HCON := Lib.hid hcon
      have c0 := cell_of_heap (o := 0) hCS.c rfl
      obtain ⟨n0, n1, n2, n3, _⟩ := cells4 mS
      clear mN mS hXS hCS hC hX hT hO KN hcon hjx hset hlen hbase
      generalize hwn : (wr.alloc (.cells ([.bool (T 0), .bool (T 1), .bool (T 2), .bool (T 3)].set j (.bool true)).toArray 149)) = wn at *
      go_wp2_with fail
      refine HCON.out.mono ?_
      rintro e w5 ⟨⟨x, rfl⟩, u5, hC5, hX5⟩
      have HC5 := Lib.hid (And.intro hC5 hX5)
      clear hC5 hX5 q0 t0 t1 t2 t3 s0 s1 c0 n0 n1 n2 n3
      go_wp2_with fail
      go_roundw
      case rel =>
        have hoT := HC.out.2.2.2
        have hTl : w.heap.size < wr.heap.size := lt_of_heap HC.out.2.2.1
        have hx2 := HCS.out.2.1.trans HC5.out.2
        have hTy : w.heap.size ≠ yb := by have := HA.out.2.2.2; have := HB.out.2.2.2.1; omega
        obtain ⟨o5, h5⟩ := hx2.keep w.heap.size hTl hTy hoT
        refine ⟨j + 1, u5, by omega, by omega, by go_num, ?_, HC.out.2.1.trans hx2, h5.trans HC.out.2.2.1, o5⟩
        rw [addF_step T m a j k haj, ← List.append_assoc]
        exact HC5.out.1
      case measure => simp [intOf]; omega
    · obtain rfl : j = m := by omega
      go_wp2_with fail
      go_end0
      exact ⟨⟨_, rfl⟩, u, by rw [← addF_end]; exact HC.out.1, HC.out.2.1⟩
theorem choose_any (base yB wB cB yb : Nat) (h : Int) (p : Option Addr) (m cp gb : Nat) (hm4 : m ≤ 4) (hb : yB < base ∧ wB < base ∧ cB < base ∧ yb < base ∧ yB ≠ yb ∧ wB ≠ yb ∧ cB ≠ yb) : ∀ k, k ≤ 3 → ChooseOk base yB wB cB yb h p m cp gb k
  | 0, _ => fun v D T a w H hbs hD ha => by
    have := choose0_any base yB wB cB yb h p m cp gb v D T a w H hb hbs (by omega)
    simpa [comb, addT_nil] using this
  | k + 1, hk => chooseS_any base yB wB cB yb h p m cp gb k hm4 (by omega) hb (choose_any base yB wB cB yb h p m cp gb hm4 hb k (by omega))
end Go.Proofs.YtknpglgpkkhhiaaDoor

/- Sets of states that are good for so many days; what goes out of them; iterators over maps, counted. -/
namespace Go.Proofs.YtknpglgpkkhhiaaDoor
set_option linter.unusedSimpArgs false
set_option linter.unusedVariables false
open Go.RowKit Go.Proofs.YtknpglgpkkhhiaaDoor.Free2 Go.Proofs.YtknpglgpkkhhiaaDoor.ML

/-! ### Keys -/
def unq (q : Q4) : Nat → Int
  | 0 => q.1
  | 1 => q.2.1
  | 2 => q.2.2.1
  | 3 => q.2.2.2
  | _ => 0
theorem unq_q4 {S : Nat → Int} (h : ∀ i, 4 ≤ i → S i = 0) : unq (q4 S) = S := by
  funext i
  match i with
  | 0 => rfl
  | 1 => rfl
  | 2 => rfl
  | 3 => rfl
  | i + 4 => exact (h _ (by omega)).symm
theorem unq_waits {ys : List Rk} (h : ys.length ≤ 4) : unq (q4 (waits ys)) = waits ys := unq_q4 fun i hi => waits_ge ys i (by omega)
theorem q4_inj {xs ys zs : List Rk} (h1 : SameKeys xs ys) (h2 : SameKeys xs zs) (h4 : xs.length ≤ 4) (h : q4 (waits ys) = q4 (waits zs)) : ys = zs := by
  have l1 := h1.length
  have l2 := h2.length
  have hw : waits ys = waits zs := by
    rw [← unq_waits (ys := ys) (by omega), ← unq_waits (ys := zs) (by omega), h]
  refine List.ext_getElem (by omega) fun i hi hj => ?_
  have e1 := congrArg (fun l => l[i]?) (h1.trans h2.symm)
  have e2 := congrFun hw i
  rw [waits_lt ys i hi, waits_lt zs i hj] at e2
  simp only [List.getElem?_map, List.getElem?_eq_getElem hi, List.getElem?_eq_getElem hj, Option.map_some, Option.some.injEq, Prod.mk.injEq] at e1
  exact Prod.ext e1.1 (Prod.ext e1.2 e2)
theorem waits_st {xs ys : List Rk} (h : StOf xs ys) (hx : ∀ x ∈ xs, x.2.1 ≤ 6) (i : Nat) : 0 ≤ waits ys i ∧ waits ys i ≤ 1000000 := by
  by_cases hi : i < ys.length
  · rw [waits_lt ys i hi]
    have h1 := h.2 _ (List.getElem_mem hi)
    have hl := h.1.length
    have e1 := congrArg (fun l => l[i]?) h.1
    have hj : i < xs.length := by omega
    simp only [List.getElem?_map, List.getElem?_eq_getElem hi, List.getElem?_eq_getElem hj, Option.map_some, Option.some.injEq, Prod.mk.injEq] at e1
    have h2 := hx _ (List.getElem_mem hj)
    have := e1.2
    omega
  · rw [waits_ge ys i (by omega)]
    omega

/-! ### Sets -/
/-- The states that are good for so many days, as keys. -/
def GoodIs (h : Int) (xs : List Rk) (k : Nat) (L : List Q4) : Prop := L.Nodup ∧ ∀ q, q ∈ L ↔ ∃ ys, StOf xs ys ∧ goodN h k ys = true ∧ q = q4 (waits ys)
/-- Those that are good for ever. -/
def EverIs (h : Int) (xs : List Rk) (L : List Q4) : Prop := L.Nodup ∧ ∀ q, q ∈ L ↔ ∃ ys, StOf xs ys ∧ everB h ys = true ∧ q = q4 (waits ys)
theorem GoodIs.has {h : Int} {xs ys : List Rk} {k : Nat} {L : List Q4} (H : GoodIs h xs k L) (h4 : xs.length ≤ 4) (hy : StOf xs ys) : decide (q4 (waits ys) ∈ L) = goodN h k ys := by
  rw [Bool.eq_iff_iff, decide_eq_true_eq, H.2]
  constructor
  · rintro ⟨zs, hz, hg, he⟩
    rw [q4_inj hy.1 hz.1 h4 he]
    exact hg
  · exact fun hg => ⟨ys, hy, hg, rfl⟩
theorem EverIs.has {h : Int} {xs ys : List Rk} {L : List Q4} (H : EverIs h xs L) (h4 : xs.length ≤ 4) (hy : StOf xs ys) : decide (q4 (waits ys) ∈ L) = everB h ys := by
  rw [Bool.eq_iff_iff, decide_eq_true_eq, H.2]
  constructor
  · rintro ⟨zs, hz, hg, he⟩
    rw [q4_inj hy.1 hz.1 h4 he]
    exact hg
  · exact fun hg => ⟨ys, hy, hg, rfl⟩
/-- What step says of a state. -/
def D7 (h : Int) (xs : List Rk) : List (Nat → Bool) := (daysL h xs).map (tset xs)
def badQ (h : Int) (xs : List Rk) (L : List Q4) (q : Q4) : Bool := !(stepS xs (unq q) L (D7 h xs)).2.2
theorem firstD_isSome {h : Int} {p : List Rk → Bool} {ys : List Rk} : (firstD h p ys).isSome = (daysL h ys).any fun d => coolB (dayR d ys) && p (dayR d ys) := by
  unfold firstD
  rw [Bool.eq_iff_iff, List.find?_isSome, List.any_eq_true]
theorem badQ_good {h : Int} {xs ys : List Rk} {k : Nat} {L : List Q4} (H : GoodIs h xs k L) (h4 : xs.length ≤ 4) (hy : StOf xs ys) : badQ h xs L (q4 (waits ys)) = !goodN h (k + 1) ys := by
  have hl := hy.1.length
  have h1 := stepS_first (h := h) hy.1 L
  have h2 : firstD h (fun zs => decide (q4 (waits zs) ∈ L)) ys = firstD h (goodN h k) ys := firstD_congr hy fun zs hz => H.has h4 hz
  have h3 := firstD_isSome (h := h) (p := goodN h k) (ys := ys)
  rw [badQ, D7, unq_waits (by omega), h1, h2, goodN, ← h3]
  cases firstD h (goodN h k) ys <;> rfl
theorem GoodIs.zero {h : Int} {xs : List Rk} {L : List Q4} (hn : L.Nodup) (hL : ∀ q, q ∈ L ↔ ∃ ys, StOf xs ys ∧ q = q4 (waits ys)) : GoodIs h xs 0 L :=
  ⟨hn, fun q => (hL q).trans ⟨fun ⟨ys, h1, h2⟩ => ⟨ys, h1, rfl, h2⟩, fun ⟨ys, h1, _, h2⟩ => ⟨ys, h1, h2⟩⟩⟩
theorem GoodIs.next {h : Int} {xs : List Rk} {k : Nat} {L L' : List Q4} (H : GoodIs h xs k L) (h4 : xs.length ≤ 4) (hn : L'.Nodup) (hL : ∀ q, q ∈ L' ↔ q ∈ L ∧ badQ h xs L q = false) : GoodIs h xs (k + 1) L' := by
  refine ⟨hn, fun q => ?_⟩
  rw [hL, H.2]
  constructor
  · rintro ⟨⟨ys, hy, hg, rfl⟩, hb⟩
    rw [badQ_good H h4 hy] at hb
    exact ⟨ys, hy, by simpa using hb, rfl⟩
  · rintro ⟨ys, hy, hg, rfl⟩
    refine ⟨⟨ys, hy, goodN_pred _ _ hg, rfl⟩, ?_⟩
    rw [badQ_good H h4 hy, hg]
    rfl
theorem GoodIs.last {h : Int} {xs : List Rk} {k : Nat} {L : List Q4} (H : GoodIs h xs k L) (h4 : xs.length ≤ 4) (hL : ∀ q ∈ L, badQ h xs L q = false) : (∀ ys, StOf xs ys → goodN h k ys = true → goodN h (k + 1) ys = true) ∧ EverIs h xs L := by
  have hs : ∀ ys, StOf xs ys → goodN h k ys = true → goodN h (k + 1) ys = true := fun ys hy hg => by
    have := hL _ ((H.2 _).2 ⟨ys, hy, hg, rfl⟩)
    rw [badQ_good H h4 hy] at this
    simpa using this
  refine ⟨hs, H.1, fun q => (H.2 q).trans ⟨?_, ?_⟩⟩
  · rintro ⟨ys, hy, hg, e⟩
    exact ⟨ys, hy, by rw [← good_ever hs ys hy]; exact hg, e⟩
  · rintro ⟨ys, hy, hg, e⟩
    exact ⟨ys, hy, by rw [good_ever hs ys hy]; exact hg, e⟩

/-! ### Deletions from a set -/
def eraK {κ : Type} [DecidableEq κ] (x : κ) (L : List κ) : List κ := L.erase x
section
variable {κ : Type} [DecidableEq κ]
theorem delR_setK (x : κ) : ∀ L : List κ, delR x (setK L) = setK (eraK x L)
  | [] => rfl
  | y :: r => by
    have ih := delR_setK x r
    unfold eraK setK at ih ⊢
    by_cases h : x = y
    · subst h; simp [delR]
    · have h' : ¬ y = x := fun e => h e.symm
      simp [delR, h, ih, List.erase_cons, h']
theorem mem_eraK {x y : κ} {L : List κ} (hn : L.Nodup) : y ∈ eraK x L ↔ y ≠ x ∧ y ∈ L := hn.mem_erase_iff
theorem nodup_eraK {x : κ} {L : List κ} (hn : L.Nodup) : (eraK x L).Nodup := hn.erase x
theorem length_eraK {x : κ} {L : List κ} (h : x ∈ L) : (eraK x L).length = L.length - 1 := List.length_erase_of_mem h
end
theorem ML.MapIs.clear {κ : Type} {P : Program} {kt e t : TypeId} {kv : κ → Value} {b : Nat} {l : List (κ × Value)} {w : World} (ht : P.underlying t = some (.map kt e)) (h : MapIs kv b l w) (ty : TypeId) :
    ∃ w', (Builtin.clear_ #[t] ty #[.map (some b)]).run P w = .ok (.tuple #[]) w' ∧ w.grownBy w' (some b) ∧ MapIs kv b [] w' ∧ w'.heap.size = w.heap.size := by
  obtain ⟨es, c, h1, h2, h3, h4⟩ := h
  have hg := MapKept.run_getObj_map (P := P) h1
  have hlt := (Array.getElem?_eq_some_iff.1 h1).1
  refine ⟨put w b (.map #[] c), ?_, put_grown w b _, ⟨_, _, put_same hlt, rfl, by simp, by simp⟩, by simp [put]⟩
  simp [Builtin.clear_, run_underlying ht, hg, MapKept.run_setObj_map _ h1, put]

/-! ### Iterators, counted -/
def iterLeft (r b : Nat) (w : World) : Nat := match w.heap[r]?, w.heap[b]? with
  | some (.mapIter _ _ seen _), some (.map es _) => (es.toList.filter fun e => !seen.contains e.born).length
  | _, _ => 0
theorem filter_pair {α β : Type} {p : α → Bool} {q : β → Bool} : ∀ (A : List α) (B : List β), A.length = B.length → (∀ (j : Nat) a b, A[j]? = some a → B[j]? = some b → p a = q b) → (A.filter p).length = (B.filter q).length
  | [], [], _, _ => rfl
  | [], _ :: _, h, _ => by simp at h
  | _ :: _, [], h, _ => by simp at h
  | a :: r, b :: s, h, hp => by
    have ih := filter_pair r s (by simpa using h) fun j x y hx hy => hp (j + 1) x y (by simpa using hx) (by simpa using hy)
    have h0 := hp 0 a b rfl rfl
    cases hq : q b <;> simp [List.filter_cons, h0, hq, ih]
theorem ML.IterIs.left {κ : Type} [DecidableEq κ] {kv : κ → Value} {b r : Nat} {l : List (κ × Value)} {done : List κ} {w : World} (h : IterIs kv b l r done w) : iterLeft r b w = (l.filter fun y => !decide (y.1 ∈ done)).length := by
  obtain ⟨es, clock, since, seen, c0, h1, h2, h3, h4, h5, h6, h7, h8⟩ := h
  have hlen : es.toList.length = l.length := by simpa using congrArg List.length h2
  simp only [iterLeft, h7, h1]
  refine filter_pair _ _ hlen fun j e y he hy => ?_
  have := h8 j e y he hy
  rw [Bool.eq_iff_iff]
  simp only [Bool.not_eq_true', decide_eq_false_iff_not]
  rw [← this]
  simp
theorem filter_less {α : Type} {p q : α → Bool} : ∀ {l : List α}, (∀ y ∈ l, q y = true → p y = true) → (∃ y ∈ l, p y = true ∧ q y = false) → (l.filter q).length < (l.filter p).length
  | [], _, h => by obtain ⟨y, hy, _⟩ := h; cases hy
  | a :: r, h, hx => by
    have hle : ∀ l : List α, (∀ y ∈ l, q y = true → p y = true) → (l.filter q).length ≤ (l.filter p).length := by
      intro l
      induction l with
      | nil => exact fun _ => Nat.le_refl _
      | cons b t ih =>
        intro hb
        have i1 := ih fun y hy => hb y (List.mem_cons_of_mem _ hy)
        have i2 := hb b (by simp)
        cases hqb : q b
        · cases hpb : p b <;> simp [List.filter_cons, hqb, hpb] <;> omega
        · simp [List.filter_cons, hqb, i2 hqb]; omega
    have h1 := h a (by simp)
    obtain ⟨y, hy, hpy, hqy⟩ := hx
    rcases List.mem_cons.1 hy with rfl | hy
    · have := hle r fun z hz => h z (List.mem_cons_of_mem _ hz)
      simp [List.filter_cons, hpy, hqy]; omega
    · have ih := filter_less (l := r) (fun z hz => h z (List.mem_cons_of_mem _ hz)) ⟨y, hy, hpy, hqy⟩
      cases hqb : q a
      · cases hpb : p a <;> simp [List.filter_cons, hqb, hpb] <;> omega
      · simp [List.filter_cons, hqb, h1 hqb]; omega
theorem iter_less {κ : Type} [DecidableEq κ] {kv : κ → Value} {b r : Nat} {l : List (κ × Value)} {done : List κ} {x : κ} {v : Value} {w w' : World} (h : IterIs kv b l r done w) (h' : IterIs kv b l r (x :: done) w') (hx : (x, v) ∈ l) (hn : x ∉ done) : iterLeft r b w' < iterLeft r b w := by
  rw [h.left, h'.left]
  refine filter_less (fun y _ hy => ?_) ⟨_, hx, by simpa using hn, by simp⟩
  simp only [List.mem_cons, Bool.not_eq_true', decide_eq_false_iff_not, not_or] at hy ⊢
  exact hy.2
def mapLen (b : Nat) (w : World) : Nat := match w.heap[b]? with
  | some (.map es _) => es.size
  | _ => 0
theorem ML.MapIs.len {κ : Type} {kv : κ → Value} {b : Nat} {l : List (κ × Value)} {w : World} (h : MapIs kv b l w) : mapLen b w = l.length := by
  obtain ⟨es, c, h1, h2, h3, h4⟩ := h
  have := congrArg List.length h2
  simp only [mapLen, h1]
  simpa using this
theorem setK_keys {κ : Type} (L : List κ) : (setK L).map (·.1) = L := by simp [setK, Function.comp_def]
theorem setK_mem {κ : Type} {L : List κ} {x : κ} {v : Value} (h : (x, v) ∈ setK L) : x ∈ L ∧ v = .bool true := by
  simp only [setK, List.mem_map, Prod.mk.injEq] at h
  obtain ⟨y, hy, rfl, rfl⟩ := h
  exact ⟨hy, rfl⟩
end Go.Proofs.YtknpglgpkkhhiaaDoor

/- What goes out of the states that are good: settle, where nothing is told. -/
namespace Go.Proofs.YtknpglgpkkhhiaaDoor
set_option linter.unusedSimpArgs false
set_option linter.unusedVariables false
open Go.RowKit Go.Proofs.YtknpglgpkkhhiaaDoor.Free2 Go.Proofs.YtknpglgpkkhhiaaDoor.ML RR

theorem TL.kc {D : List (Nat → Bool)} {v : Value} {a b : World} (h : TL D v a) (hk : KC a b) : TL D v b :=
  let ⟨p, cap, h1, h2, h3⟩ := h
  ⟨p, cap, h1, h2, fun hx => let ⟨bb, off, h4, h5⟩ := h3 hx; ⟨bb, off, h4, fun k hk2 => let ⟨c0, c1, c2, c3⟩ := h5 k hk2; ⟨hk.cell c0, hk.cell c1, hk.cell c2, hk.cell c3⟩⟩⟩
theorem ML.MapIs.obj {κ : Type} {kv : κ → Value} {b : Nat} {l : List (κ × Value)} {w : World} (h : MapIs kv b l w) : ∃ o, w.heap[b]? = some o ∧ o.isCells = false := by
  obtain ⟨es, c, h1, _⟩ := h
  exact ⟨_, h1, rfl⟩
theorem grown_new {a b c : World} {g n : Nat} (h : a.grownBy b (some g)) (k : b.grownBy c (some n)) (hn : a.heap.size ≤ n) : a.grownBy c (some g) :=
  ⟨k.os.trans h.os, k.tape.trans h.tape, k.output.trans h.output, Nat.le_trans h.size k.size, fun i hi hne => (k.block i (Nat.lt_of_lt_of_le hi h.size) (fun e => by cases e; omega)).trans (h.block i hi hne)⟩
theorem grown_bel {a b c : World} {g : Nat} (h : a.grownBy b (some g)) (k : Free.Bel b c) : a.grownBy c (some g) :=
  ⟨k.os.trans h.os, k.tape.trans h.tape, k.output.trans h.output, Nat.le_trans h.size k.size, fun i hi hne => (k.block i (Nat.lt_of_lt_of_le hi h.size)).trans (h.block i hi hne)⟩
theorem grown_drew {a b : World} {g : Option Nat} (h : World.grownBy a.drew b g) : a.grownBy b g := ⟨h.os, h.tape, h.output, h.size, h.block⟩
theorem ML.MapIs.bel {κ : Type} {kv : κ → Value} {b : Nat} {l : List (κ × Value)} {w w' : World} (h : MapIs kv b l w) (k : Free.Bel w w') : MapIs kv b l w' := h.of_block (k.block b h.lt)
theorem ML.IterIs.bel {κ : Type} {kv : κ → Value} {b r : Nat} {l : List (κ × Value)} {done : List κ} {w w' : World} (h : IterIs kv b l r done w) (k : Free.Bel w w') : IterIs kv b l r done w' := h.of_blocks (k.block b h.lt.1) (k.block r h.lt.2)
/-- The yard, as settle and step need it. -/
structure YW (yb gb : Nat) (h : Int) (xs : List Rk) (u dv : Value) (w : World) : Prop where
  c1 : w.cell? ⟨yb, 1, none⟩ = some u
  c2 : w.cell? ⟨yb, 2, none⟩ = some (.map (some gb))
  c3 : w.cell? ⟨yb, 3, none⟩ = some dv
  rl : RL xs u w
  tl : TL (D7 h xs) dv w
theorem YW.kc {yb gb : Nat} {h : Int} {xs : List Rk} {u dv : Value} {w w' : World} (H : YW yb gb h xs u dv w) (k : KC w w') : YW yb gb h xs u dv w' := ⟨k.cell H.c1, k.cell H.c2, k.cell H.c3, H.rl.kc k, H.tl.kc k⟩
theorem YW.step {yb gb : Nat} {h : Int} {xs : List Rk} {u dv : Value} {w : World} (H : YW yb gb h xs u dv w) {L : List Q4} (hm : MapIs quadV gb (setK L) w) (h4 : xs.length ≤ 4) (S : Nat → Int) (hS : ∀ i, 0 ≤ S i ∧ S i ≤ 1000000) (RT : Nat → Bool) (RS : Nat → Int) (RB : Bool) (hr : Hid (stepS xs S L (D7 h xs) = (RT, RS, RB))) :
    Calls Tryd.prog 94 #[.pointer (some ⟨yb, 0, none⟩), stV S, .map (some gb)] w fun e w' => e = .returned (.tuple #[stB RT, stV RS, .bool RB]) ∧ Below w.heap.size w w' :=
  step_any yb gb xs S (D7 h xs) L u dv w H.c1 H.c3 H.rl H.tl hm h4 hS RT RS RB hr
def SettlePost (gb : Nat) (h : Int) (xs : List Rk) (w : World) (e : Ending) (w' : World) : Prop := (∃ x, e = .returned x) ∧ ∃ L, EverIs h xs L ∧ MapIs quadV gb (setK L) w' ∧ w.grownBy w' (some gb)
/-- A map from which operation i deletes. -/
structure JD (i gb : Nat) (l l' : List (Q4 × Value)) (X : XT) (W : World) : Prop where
  a : X i = none → MapIs quadV gb l W
  b : X i ≠ none → MapIs quadV gb l' W
theorem JD.skip {i gb : Nat} {l l' : List (Q4 × Value)} {X : XT} {W : World} (h : JD i gb l l' X W) (n : Nat) (v : Value) (hn : n ≠ i) : JD i gb l l' (upd X n v) W := ⟨by rw [upd_other _ _ hn.symm]; exact h.a, by rw [upd_other _ _ hn.symm]; exact h.b⟩
theorem JD.did {i gb : Nat} {l l' : List (Q4 × Value)} {X : XT} {W' : World} (v : Value) (h : MapIs quadV gb l' W') : JD i gb l l' (upd X i v) W' := ⟨fun e => (by rw [upd_same] at e; cases e), fun _ => h⟩
/-- The invariant of the loop over the states that are good. -/
def Inv1 (gb n1 r : Nat) (h : Int) (xs : List Rk) (L : List Q4) (w : World) (wr : World) : Prop :=
  ∃ (done G : List Q4), IterIs quadV gb (setK L) r done wr ∧ MapIs quadV n1 (setK G) wr ∧ w.grownBy wr (some gb) ∧ G.Nodup ∧ (∀ q ∈ done, q ∈ L) ∧ (∀ q, q ∈ G ↔ q ∈ done ∧ badQ h xs L q = true)
/-- The invariant of the loop over those that go. -/
def Inv2 (gb n1 r : Nat) (L G : List Q4) (w : World) (wr : World) : Prop :=
  ∃ (done L2 : List Q4), IterIs quadV n1 (setK G) r done wr ∧ MapIs quadV gb (setK L2) wr ∧ w.grownBy wr (some gb) ∧ L2.Nodup ∧ done.Nodup ∧ (∀ q ∈ done, q ∈ G) ∧ (∀ q, q ∈ L2 ↔ q ∈ L ∧ q ∉ done) ∧ L2.length + done.length = L.length
/-- The invariant of all. -/
def Inv0 (gb n1 : Nat) (h : Int) (xs : List Rk) (w : World) (wr : World) : Prop :=
  ∃ (k : Nat) (L : List Q4), GoodIs h xs k L ∧ MapIs quadV gb (setK L) wr ∧ w.grownBy wr (some gb) ∧ ∃ G, MapIs quadV n1 (setK G) wr

set_option maxRecDepth 100000 in
set_option maxHeartbeats 16000000 in
theorem settle_nil (yb gb : Nat) (h : Int) (xs : List Rk) (u dv : Value) (L0 : List Q4) (w : World) (hy : YW yb gb h xs u dv w) (hm : MapIs quadV gb (setK L0) w) (h4 : xs.length ≤ 4) (hx : ∀ x ∈ xs, x.2.1 ≤ 6) (hG : GoodIs h xs 0 L0) :
    Calls Tryd.prog 90 #[.pointer (some ⟨yb, 0, none⟩), .nilFunc] w (SettlePost gb h xs w) := by
  have hmm := @run_makeMap Tryd.prog
  have hneq : ∀ w : World, (binOp BinOp.neq 140 Value.nilFunc Value.nilFunc).run Tryd.prog w = .ok (.bool false) w := fun _ => by kernel_rfl
  have hgl := hm.lt
  obtain ⟨ob, hob, hoc⟩ := hm.obj
  have hKC : Hid (∀ W, w.grownBy W (some gb) → KC w W) := fun W hW => KC.of_grown hW hob hoc
  have FY : ∀ W, w.grownBy W (some gb) → W.cell? ⟨yb, 2, none⟩ = some (.map (some gb)) := fun W hW => (hKC.out W hW).cell hy.c2
  have HSTEP : Hid (∀ W (L : List Q4), w.grownBy W (some gb) → MapIs quadV gb (setK L) W → ∀ (S : Nat → Int), (∀ i, 0 ≤ S i ∧ S i ≤ 1000000) → ∀ RT RS RB, Hid (stepS xs S L (D7 h xs) = (RT, RS, RB)) → Calls Tryd.prog 94 #[.pointer (some ⟨yb, 0, none⟩), stV S, .map (some gb)] W fun e w' => e = .returned (.tuple #[stB RT, stV RS, .bool RB]) ∧ Below W.heap.size W w') :=
    fun W L hW hML S hS RT RS RB hr => (hy.kc (hKC.out W hW)).step hML h4 S hS RT RS RB hr
  have HI0 : Hid (Inv0 gb w.heap.size h xs w (w.alloc (.map #[] 0))) := ⟨0, L0, hG, hm.bel (belAlloc _ _), ⟨rfl, rfl, rfl, by simp, fun k hk _ => heap_alloc_old w _ hk⟩, [], MapIs.made quadV w⟩
  have HX : Hid (xs.length ≤ 4 ∧ ∀ x ∈ xs, x.2.1 ≤ 6) := ⟨h4, hx⟩
  have HGL := Lib.hid hgl
  clear hy hm h4 hx hG hob hoc hgl hKC
  go_enter Tryd.func90, Tryd.ntmps90
  go_wp2_with fail
  go_loopw [] (fun wr => Inv0 gb w.heap.size h xs w wr) (fun wr => mapLen gb wr)
  case atStart => exact HI0.out
  case round =>
    obtain ⟨k, L, hGood, hML, hGr, G0, hMG⟩ := hrel
    have hnb : w.heap.size ≠ gb := by have := HGL.out; omega
    obtain ⟨wc, hclr, hgc, hMc, hsc⟩ := ML.MapIs.clear T.uGood hMG 0
    have hGc : w.grownBy wc (some gb) := grown_new hGr hgc (Nat.le_refl _)
    have hMLc : MapIs quadV gb (setK L) wc := hML.kept hgc (by simpa using fun e => hnb e.symm)
    have hn1l : w.heap.size < wc.heap.size := hMc.lt
    obtain ⟨ob, hrng, hIt⟩ := ML.MapIs.range T.uGood hMLc
    have HLEN : Hid (mapLen gb wr = L.length) := by show _ = _; have := hML.len; simpa [setK] using this
    have HGOOD := Lib.hid hGood
    have HN := Lib.hid hGood.1
    have HIV : Hid (Inv1 gb w.heap.size wc.heap.size h xs L w (wc.alloc ob)) := ⟨[], [], hIt, hMc.bel (belAlloc _ _), grown_bel hGc (belAlloc _ _), List.nodup_nil, by simp, by simp⟩
    clear hGood hMG hgc hMc hIt hML hsc
    go_wp2_with fail
    have HRN := Lib.hid hn1l
    clear hclr hrng hMLc hGc hGr hn1l
    obtain ⟨rb, hrb⟩ : ∃ y, y = wc.heap.size := ⟨_, rfl⟩
    rw [← hrb] at HRN HIV ⊢
    generalize hw1 : wc.alloc ob = wd at *
    clear hw1 hrb
    go_loopw [] (fun wr => Inv1 gb w.heap.size rb h xs L w wr) (fun wr => iterLeft rb gb wr)
    case atStart => exact HIV.out
    case round =>
      obtain ⟨done, G, hI, hMG, hGr, hGn, hdL, hGm⟩ := hrel
      rcases hI.next (P := Tryd.prog) (by rw [setK_keys]; exact HN.out) 0 with ⟨hall, hrun⟩ | ⟨q, v, hq, hqn, wn, hrun, hI1, hent, hg1, hs1⟩
      · have HALL : Hid (∀ q ∈ L, q ∈ done) := fun q hq => hall (q, .bool true) (List.mem_map.2 ⟨q, hq, rfl⟩)
        have hMLr := hI.map
        obtain ⟨es, cl, hhs, hlen⟩ : ∃ es cl, wr.heap[w.heap.size]? = some (.map es cl) ∧ es.size = G.length := by
          obtain ⟨es, cl, hhs, hes, _⟩ := hMG
          exact ⟨es, cl, hhs, by have := congrArg List.length hes; simpa [setK] using this⟩
        have HDL := Lib.hid hdL
        have HFIN := Lib.hid (And.intro hMLr (And.intro hMG (And.intro hGr (And.intro hGn hGm))))
        have hlr := run_len_map (P := Tryd.prog) 139 3 w.heap.size es cl (w := wr) (by kernel_rfl) hhs
        rw [hlen] at hlr
        by_cases hg0 : G = []
        · subst hg0
          have HLL := Lib.hid (And.intro hlr hlr)
          simp only [List.length_nil, Int.natCast_zero] at hlr
          clear hall hhs hlen hMG hMLr hI hGr hGn hGm hdL
          go_wp2_with fail
          refine bodyPost_ret (results_none rfl _ _ _) rfl ?_
          obtain ⟨hMLr, hMG, hGr, hGn, hGm⟩ := HFIN.out
          refine ⟨⟨_, rfl⟩, L, (HGOOD.out.last HX.out.1 fun q hq => ?_).2, hMLr, hGr⟩
          cases hb : badQ h xs L q with
          | false => rfl
          | true => have := (hGm q).2 ⟨HALL.out q hq, hb⟩; simp at this
        · have g0 : ((G.length : Int) == 0) = false := by
            have : G.length ≠ 0 := fun e => hg0 (List.eq_nil_of_length_eq_zero e)
            simp only [beq_eq_false_iff_ne, ne_eq]; omega
          obtain ⟨ob2, hrng2, hIt2⟩ := ML.MapIs.range T.uGood hMG
          have HN2 := Lib.hid hGn
          have HIV2 : Hid (Inv2 gb w.heap.size wr.heap.size L G w (wr.alloc ob2)) := ⟨[], L, hIt2, hMLr.bel (belAlloc _ _), grown_bel hGr (belAlloc _ _), HN.out, List.nodup_nil, by simp, by simp, by simp⟩
          have hrl2 : w.heap.size < wr.heap.size := hMG.lt
          have HG0 := Lib.hid hg0
          clear hall hhs hlen hMG hMLr hI hGr hGn hGm hdL hIt2 hg0
          go_wp2_with fail
          have HRN2 := Lib.hid hrl2
          clear hlr hrng2 hrl2 g0
          obtain ⟨rb2, hrb⟩ : ∃ y, y = wr.heap.size := ⟨_, rfl⟩
          rw [← hrb] at HRN2 HIV2 ⊢
          generalize hw1 : wr.alloc ob2 = we at *
          clear hw1 hrb
          go_loopw [] (fun wr => Inv2 gb w.heap.size rb2 L G w wr) (fun wr => iterLeft rb2 w.heap.size wr)
          case atStart => exact HIV2.out
          case round =>
            obtain ⟨done2, L2, hI, hML2, hGr, hLn, hdn, hdG, hLm, hLl⟩ := hrel
            rcases hI.next (P := Tryd.prog) (by rw [setK_keys]; exact HN2.out) 0 with ⟨hall, hrun⟩ | ⟨q, v, hq, hqn, wn, hrun, hI1, hent, hg1, hs1⟩
            · have HALL2 : Hid (∀ q ∈ G, q ∈ done2) := fun q hq => hall (q, .bool true) (List.mem_map.2 ⟨q, hq, rfl⟩)
              have HF2 := Lib.hid (And.intro hML2 (And.intro hI.map (And.intro hGr (And.intro hLn (And.intro hLm (And.intro hLl hdG))))))
              clear hall hI hML2 hGr hLn hdn hdG hLm hLl
              go_wp2_with fail
              clear hrun
              go_roundw
              case rel =>
                obtain ⟨hML2, hMG2, hGr, hLn, hLm, hLl, hdG⟩ := HF2.out
                obtain ⟨_, _, _, hGn, hGm⟩ := HFIN.out
                refine ⟨k + 1, L2, HGOOD.out.next HX.out.1 hLn fun q => ?_, hML2, hGr, G, hMG2⟩
                rw [hLm]
                constructor
                · rintro ⟨h1, h2⟩
                  refine ⟨h1, ?_⟩
                  cases hb : badQ h xs L q with
                  | false => rfl
                  | true => exact absurd (HALL2.out q ((hGm q).2 ⟨HALL.out q h1, hb⟩)) h2
                · rintro ⟨h1, h2⟩
                  refine ⟨h1, fun h3 => ?_⟩
                  rw [((hGm q).1 (hdG q h3)).2] at h2
                  cases h2
              case measure =>
                obtain ⟨hML2, hMG2, hGr, hLn, hLm, hLl, hdG⟩ := HF2.out
                have e := hML2.len
                have e2 := HLEN.out
                have : done2 ≠ [] := by
                  rintro rfl
                  refine HG0.out ?_
                  match G, HALL2.out with
                  | [], _ => rfl
                  | a :: r, h9 => have := h9 a (by simp); simp at this
                have : 0 < done2.length := List.length_pos_iff.2 this
                simp [setK] at e
                omega
            · obtain ⟨hqG, hv⟩ := setK_mem hq
              subst hv
              obtain ⟨S, hS⟩ : ∃ S, S = unq q := ⟨_, rfl⟩
              have hqS : q = q4 S := by rw [hS]; rfl
              have hrun2 : (Instr.next (.pointer (some ⟨rb2, 0, none⟩)) false 0).run Tryd.prog wr = .ok (.tuple #[.bool true, .agg #[.int .i64 (S 0), .int .i64 (S 1), .int .i64 (S 2), .int .i64 (S 3)], .bool true]) wn := by rw [hrun, hqS]; rfl
              have hent2 : (Instr.entry (.pointer (some ⟨rb2, 0, none⟩))).run Tryd.prog wn = .ok (.tuple #[.agg #[.int .i64 (S 0), .int .i64 (S 1), .int .i64 (S 2), .int .i64 (S 3)], .bool true]) wn := by rw [hent, hqS]; rfl
              have hGn1 : w.grownBy wn (some gb) := grown_new hGr hg1 (Nat.le_of_lt HRN2.out)
              have hMLn : MapIs quadV gb (setK L2) wn := hML2.kept hg1 (by have := HRN2.out; have := HGL.out; simp; omega)
              have KA : Free.Bel wn (wn.alloc (.cells (arrV S) 109)) := belAlloc _ _
              have mS : (wn.alloc (.cells (arrV S) 109)).heap[wn.heap.size]? = some (.cells (arrV S) 109 (0, 0)) := World.alloc_heap_new wn _
              have HIT := Lib.hid hI1
              have HDEC := Lib.hid (iter_less hI hI1 hq hqn)
              have HLL := Lib.hid (And.intro hLn (And.intro hdn (And.intro hdG (And.intro hLm hLl))))
              have HQS := Lib.hid (And.intro hqS (And.intro hqG hqn))
              have HGW := Lib.hid hGn1
              have HMN := Lib.hid hMLn
              clear hrun hent hqS hS hI hI1 hq hqn hqG hLn hdn hdG hLm hLl hGr hML2 hg1 hs1 hGn1 hMLn
              go_wp2_with fail
              clear hrun2 hent2
              generalize hwa : (wn.alloc (.cells (arrV S) 109)) = wa at *
              have hG9 : w.grownBy wa (some gb) := grown_bel HGW.out KA
              have hM9 : MapIs quadV gb (setK L2) wa := HMN.out.bel KA
              obtain ⟨z0, z1, z2, z3, _⟩ := cells4 mS
              obtain ⟨ogb, hogb, hogc⟩ := hM9.obj
              have hM9d : MapIs quadV gb (setK L2) wa.drew := hM9
              have hKW : ∀ W, World.grownBy wa.drew W (some gb) → KC wa W := fun W hW => KC.of_grown (grown_drew hW) hogb hogc
              have hyc := FY wa hG9
              have hF : ∀ W, World.grownBy wa.drew W (some gb) → (W.cell? ⟨yb, 2, none⟩ = some (.map (some gb)) ∧ W.cell? ⟨wn.heap.size, 0, none⟩ = some (.int .i64 (S 0)) ∧ W.cell? ⟨wn.heap.size, 1, none⟩ = some (.int .i64 (S 1)) ∧ W.cell? ⟨wn.heap.size, 2, none⟩ = some (.int .i64 (S 2)) ∧ W.cell? ⟨wn.heap.size, 3, none⟩ = some (.int .i64 (S 3))) := fun W hW =>
                ⟨(hKW W hW).cell hyc, (hKW W hW).cell z0, (hKW W hW).cell z1, (hKW W hW).cell z2, (hKW W hW).cell z3⟩
              refine Free2.wp_free (R := (fun a b => World.grownBy a b (some gb))) (J := JD 5 gb (setK L2) (setK (eraK (q4 S) L2))) (by kernel_rfl) (by kernel_rfl) (fun a => World.grownBy.refl a _) (fun _ _ _ => World.grownBy.trans) ⟨fun _ => hM9d, fun e => absurd rfl e⟩ ?_
              refine Free2.Chain.ex ?_ 0 rfl [] [0] (by kernel_rfl) (by kernel_rfl) rfl (fun a => World.grownBy.refl a _) (fun X W v h => JD.skip h 0 v (by simp)) ?_ ?_
              rotate_left
              · (intro ev W hb hR hO hD; have hS := hF W hR; obtain ⟨hb1, hb2, hb3⟩ := hb; simp only [Free.AllDeps, Free.AllOuts, Free.At, al1, al2, al3, al4, al5, and_true] at hO hD; go_simp; rfl)
              simp only [an1, an2]
              refine Free2.Chain.ex ?_ 1 rfl [(0, 64)] [] (by kernel_rfl) (by kernel_rfl) rfl (fun a => World.grownBy.refl a _) (fun X W v h => JD.skip h 1 v (by simp)) ?_ ?_
              rotate_left
              · (intro ev W hb hR hO hD; have hS := hF W hR; obtain ⟨hb1, hb2, hb3⟩ := hb; simp only [Free.AllDeps, Free.AllOuts, Free.At, al1, al2, al3, al4, al5, and_true] at hO hD; go_simp; rfl)
              simp only [an1, an2]
              refine Free2.Chain.ex ?_ 2 rfl [(1, 65)] [] (by kernel_rfl) (by kernel_rfl) rfl (fun a => World.grownBy.refl a _) (fun X W v h => JD.skip h 2 v (by simp)) ?_ ?_
              rotate_left
              · (intro ev W hb hR hO hD; have hS := hF W hR; obtain ⟨hb1, hb2, hb3⟩ := hb; simp only [Free.AllDeps, Free.AllOuts, Free.At, al1, al2, al3, al4, al5, and_true] at hO hD; go_simp; rfl)
              simp only [an1, an2]
              refine Free2.Chain.ex ?_ 3 rfl [(2, 66)] [] (by kernel_rfl) (by kernel_rfl) rfl (fun a => World.grownBy.refl a _) (fun X W v h => JD.skip h 3 v (by simp)) ?_ ?_
              rotate_left
              · (intro ev W hb hR hO hD; have hS := hF W hR; obtain ⟨hb1, hb2, hb3⟩ := hb; simp only [Free.AllDeps, Free.AllOuts, Free.At, al1, al2, al3, al4, al5, and_true] at hO hD; go_simp; rfl)
              simp only [an1, an2]
              refine Free2.Chain.ex ?_ 4 rfl [] [11] (by kernel_rfl) (by kernel_rfl) rfl (fun a => World.grownBy.refl a _) (fun X W v h => JD.skip h 4 v (by simp)) ?_ ?_
              rotate_left
              · (intro ev W hb hR hO hD; have hS := hF W hR; obtain ⟨hb1, hb2, hb3⟩ := hb; simp only [Free.AllDeps, Free.AllOuts, Free.At, al1, al2, al3, al4, al5, and_true] at hO hD; go_simp; rfl)
              simp only [an1, an2]
              refine Free2.Chain.pr (fun _ _ => True) 5 rfl [(3, 67), (4, 68)] [] (by kernel_rfl) (by kernel_rfl) rfl (fun _ _ _ _ h => h) ?_ ?_
              · (intro ev W X hb hR hO hD hj hx hax; have hS := hF W hR; obtain ⟨hb1, hb2, hb3⟩ := hb; simp only [Free.AllDeps, Free.AllOuts, Free.At, al1, al2, al3, al4, al5, and_true] at hO hD; simp only [Free2.AllX, and_true] at hax; obtain ⟨w7, f1, f2, f3, f4⟩ := (hj.a hx).delete T.quads T.uGood (ty := 0) (q4 S); rw [assocDel_eq, delR_setK] at f3; have f5 : (Builtin.delete_ #[139, 109] 0 #[.map (some gb), .agg #[.int .i64 (S 0), .int .i64 (S 1), .int .i64 (S 2), .int .i64 (S 3)]]).run Tryd.prog W = .ok (.tuple #[]) w7 := f1; clear f1; go_simp; exact ⟨f2, JD.did _ f3⟩)
              simp only [an1, an2]
              intro ys w' hR hV hX
              obtain ⟨X, hj, hxx⟩ := hX
              simp only [Free.AllV, Free.At, List.length_cons, List.length_nil, Nat.reduceAdd, List.getElem?_cons_succ, List.getElem?_cons_zero, true_and, and_true] at hV
              simp only [Free.putsFrom, Act.put, Nat.zero_add, Nat.reduceAdd, hV, List.setIfInBounds_toArray, List.set_cons_succ, List.set_cons_zero]
              have hM7 := hj.b (by rw [hxx 5 (by decide)]; simp)
              have hRW : wa.grownBy w' (some gb) := grown_drew hR
              have hI7 := (HIT.out.bel KA).of_blocks (hRW.block w.heap.size (HIT.out.bel KA).lt.1 (by have := HGL.out; simp; omega)) (hRW.block rb2 (HIT.out.bel KA).lt.2 (by have := HGL.out; have := HRN2.out; simp; omega))
              have hG7 : w.grownBy w' (some gb) := hG9.trans hRW
              have HDE7 : Hid (iterLeft rb2 w.heap.size w' < iterLeft rb2 w.heap.size wr) := by
                have := HDEC.out
                have e : iterLeft rb2 w.heap.size w' = iterLeft rb2 w.heap.size wn := by rw [hI7.left, HIT.out.left]
                show _ < _
                omega
              have HALL7 := Lib.hid (And.intro hI7 (And.intro hM7 hG7))
              clear hR hV hF hj hxx hM7 hRW hI7 hG7 hM9 hM9d hKW hyc hogb hogc hG9 z0 z1 z2 z3 KA mS
              go_wp2_with fail
              go_roundw
              case rel =>
                obtain ⟨hLn, hdn, hdG, hLm, hLl⟩ := HLL.out
                obtain ⟨hqS, hqG, hqn⟩ := HQS.out
                obtain ⟨hI7, hM7, hG7⟩ := HALL7.out
                rw [← hqS] at hM7
                have hqL : q ∈ L := ((HFIN.out.2.2.2.2 q).1 hqG).1 |> fun h => HDL.out q h
                have hqL2 : q ∈ L2 := (hLm q).2 ⟨hqL, hqn⟩
                refine ⟨q :: done2, eraK q L2, hI7, hM7, hG7, nodup_eraK hLn, List.nodup_cons.2 ⟨hqn, hdn⟩, fun y hy => ?_, fun y => ?_, ?_⟩
                · rcases List.mem_cons.1 hy with rfl | hy
                  · exact hqG
                  · exact hdG y hy
                · rw [mem_eraK hLn, hLm, List.mem_cons, not_or]
                  constructor
                  · rintro ⟨h1, h2, h3⟩; exact ⟨h2, h1, h3⟩
                  · rintro ⟨h2, h1, h3⟩; exact ⟨h1, h2, h3⟩
                · have := List.length_pos_of_mem hqL2
                  rw [length_eraK hqL2, List.length_cons]
                  omega
              case measure => exact HDE7.out
      · obtain ⟨hqL, hv⟩ := setK_mem hq
        subst hv
        obtain ⟨S, hS⟩ : ∃ S, S = unq q := ⟨_, rfl⟩
        have hqS : q = q4 S := by rw [hS]; rfl
        have hst : ∃ ys, StOf xs ys ∧ S = waits ys := by
          obtain ⟨ys, hy, _, e⟩ := (HGOOD.out.2 q).1 hqL
          exact ⟨ys, hy, by rw [hS, e, unq_waits (by have := hy.1.length; have := HX.out.1; omega)]⟩
        obtain ⟨ys, hyst, hSy⟩ := hst
        have hSb : ∀ i, 0 ≤ S i ∧ S i ≤ 1000000 := fun i => by rw [hSy]; exact waits_st hyst HX.out.2 i
        obtain ⟨⟨RT, RS, RB⟩, hRR⟩ : ∃ y, stepS xs S L (D7 h xs) = y := ⟨_, rfl⟩
        have HBAD : Hid (badQ h xs L q = !RB) := by show _ = _; rw [badQ, ← hS, hRR]
        have hrun2 : (Instr.next (.pointer (some ⟨rb, 0, none⟩)) false 0).run Tryd.prog wr = .ok (.tuple #[.bool true, .agg #[.int .i64 (S 0), .int .i64 (S 1), .int .i64 (S 2), .int .i64 (S 3)], .bool true]) wn := by rw [hrun, hqS]; rfl
        have hent2 : (Instr.entry (.pointer (some ⟨rb, 0, none⟩))).run Tryd.prog wn = .ok (.tuple #[.agg #[.int .i64 (S 0), .int .i64 (S 1), .int .i64 (S 2), .int .i64 (S 3)], .bool true]) wn := by rw [hent, hqS]; rfl
        have hGn1 : w.grownBy wn (some gb) := grown_new hGr hg1 (Nat.le_of_lt HRN.out)
        have hMGn : MapIs quadV w.heap.size (setK G) wn := hMG.kept hg1 (by have := HRN.out; simp; omega)
        have KA : Free.Bel wn (wn.alloc (.cells (arrV S) 109)) := belAlloc _ _
        have mS : (wn.alloc (.cells (arrV S) 109)).heap[wn.heap.size]? = some (.cells (arrV S) 109 (0, 0)) := World.alloc_heap_new wn _
        have HSC := Lib.hid (fun (W : World) (hW : Free.Bel (wn.alloc (.cells (arrV S) 109)) W) => HSTEP.out W L (grown_bel (grown_bel hGn1 KA) hW) ((hI1.bel KA).bel hW).map S hSb RT RS RB (Lib.hid hRR))
        have HIT := Lib.hid hI1
        have HDEC := Lib.hid (iter_less hI hI1 hq hqn)
        have HGG := Lib.hid (And.intro hGn (And.intro hdL hGm))
        have HQS := Lib.hid (And.intro hqS (And.intro hqL hqn))
        have HGW := Lib.hid hGn1
        have HMN := Lib.hid hMGn
        clear hrun hent hqS hSy hyst hSb hRR hS hI hI1 hq hqn hqL hGn hdL hGm hGr hMG hg1 hs1 hGn1 hMGn
        go_wp2_with fail
        clear hrun2 hent2
        generalize hwa : (wn.alloc (.cells (arrV S) 109)) = wa at *
        have FA : ∀ W, Free.Bel wa W → W.cell? ⟨yb, 2, none⟩ = some (.map (some gb)) ∧ W.cell? ⟨wn.heap.size, 0, none⟩ = some (.int .i64 (S 0)) ∧ W.cell? ⟨wn.heap.size, 1, none⟩ = some (.int .i64 (S 1)) ∧ W.cell? ⟨wn.heap.size, 2, none⟩ = some (.int .i64 (S 2)) ∧ W.cell? ⟨wn.heap.size, 3, none⟩ = some (.int .i64 (S 3)) := fun W hW =>
          ⟨FY W (grown_bel HGW.out (bt KA hW)), keepsB hW (cell_of_heap mS rfl), keepsB hW (cell_of_heap mS rfl), keepsB hW (cell_of_heap mS rfl), keepsB hW (cell_of_heap mS rfl)⟩
        have hF : ∀ W, Below wa.heap.size wa.drew W → Free.Bel wa W := fun W hW => (show Below wa.heap.size wa W from ((Below.refl _ wa).drew).trans hW)
        refine Free2.wp_free (R := Below wa.heap.size) (J := LL wa.heap.size [⟨11, 13, (.cells #[.bool false, .bool false, .bool false, .bool false] 149), (.cells #[.bool (RT 0), .bool (RT 1), .bool (RT 2), .bool (RT 3)] 149)⟩, ⟨12, 14, (.cells #[.int .i64 0, .int .i64 0, .int .i64 0, .int .i64 0] 109), (.cells #[.int .i64 (RS 0), .int .i64 (RS 1), .int .i64 (RS 2), .int .i64 (RS 3)] 109)⟩]) (by kernel_rfl) (by kernel_rfl) (Below.refl _) (fun _ _ _ => Below.trans) (LL.start (Nat.le_refl _)) ?_
        refine Free2.Chain.ex ?_ 0 rfl [] [0] (by kernel_rfl) (by kernel_rfl) rfl (Below.refl _) (fun X W v h => LL.skip h 0 v (by simp)) ?_ ?_
        rotate_left
        · (intro ev W hb hR hO hD; have hS0 := hF W hR; have hS := FA W hS0; obtain ⟨hb1, hb2, hb3⟩ := hb; simp only [Free.AllDeps, Free.AllOuts, Free.At, al1, al2, al3, al4, al5, and_true] at hO hD; go_simp; rfl)
        simp only [an1, an2]
        refine Free2.Chain.ex ?_ 1 rfl [] [7] (by kernel_rfl) (by kernel_rfl) rfl (Below.refl _) (fun X W v h => LL.skip h 1 v (by simp)) ?_ ?_
        rotate_left
        · (intro ev W hb hR hO hD; have hS0 := hF W hR; have hS := FA W hS0; obtain ⟨hb1, hb2, hb3⟩ := hb; simp only [Free.AllDeps, Free.AllOuts, Free.At, al1, al2, al3, al4, al5, and_true] at hO hD; go_simp; rfl)
        simp only [an1, an2]
        refine Free2.Chain.ex ?_ 2 rfl [] [0] (by kernel_rfl) (by kernel_rfl) rfl (Below.refl _) (fun X W v h => LL.skip h 2 v (by simp)) ?_ ?_
        rotate_left
        · (intro ev W hb hR hO hD; have hS0 := hF W hR; have hS := FA W hS0; obtain ⟨hb1, hb2, hb3⟩ := hb; simp only [Free.AllDeps, Free.AllOuts, Free.At, al1, al2, al3, al4, al5, and_true] at hO hD; go_simp; rfl)
        simp only [an1, an2]
        refine Free2.Chain.ex ?_ 3 rfl [(2, 43)] [] (by kernel_rfl) (by kernel_rfl) rfl (Below.refl _) (fun X W v h => LL.skip h 3 v (by simp)) ?_ ?_
        rotate_left
        · (intro ev W hb hR hO hD; have hS0 := hF W hR; have hS := FA W hS0; obtain ⟨hb1, hb2, hb3⟩ := hb; simp only [Free.AllDeps, Free.AllOuts, Free.At, al1, al2, al3, al4, al5, and_true] at hO hD; go_simp; rfl)
        simp only [an1, an2]
        refine Free2.Chain.ex ?_ 4 rfl [(3, 44)] [] (by kernel_rfl) (by kernel_rfl) rfl (Below.refl _) (fun X W v h => LL.skip h 4 v (by simp)) ?_ ?_
        rotate_left
        · (intro ev W hb hR hO hD; have hS0 := hF W hR; have hS := FA W hS0; obtain ⟨hb1, hb2, hb3⟩ := hb; simp only [Free.AllDeps, Free.AllOuts, Free.At, al1, al2, al3, al4, al5, and_true] at hO hD; go_simp; rfl)
        simp only [an1, an2]
        refine Free2.Chain.ex ?_ 5 rfl [(4, 45)] [] (by kernel_rfl) (by kernel_rfl) rfl (Below.refl _) (fun X W v h => LL.skip h 5 v (by simp)) ?_ ?_
        rotate_left
        · (intro ev W hb hR hO hD; have hS0 := hF W hR; have hS := FA W hS0; obtain ⟨hb1, hb2, hb3⟩ := hb; simp only [Free.AllDeps, Free.AllOuts, Free.At, al1, al2, al3, al4, al5, and_true] at hO hD; go_simp; rfl)
        simp only [an1, an2]
        refine Free2.Chain.pr (fun v _ => v = .tuple #[stB RT, stV RS, .bool RB]) 6 rfl [(0, 41), (1, 42), (5, 46)] [] (by kernel_rfl) (by kernel_rfl) rfl (fun _ _ _ _ h => h) ?_ ?_
        · (intro ev W X hb hR hO hD hj hx hax; have hS0 := hF W hR; have hS := FA W hS0; obtain ⟨hb1, hb2, hb3⟩ := hb; simp only [Free.AllDeps, Free.AllOuts, Free.At, al1, al2, al3, al4, al5, and_true] at hO hD; simp only [Free2.AllX, and_true] at hax; go_simp; refine yields_enter ?_; (with_reducible refine (HSC.out _ hS0).mono ?_); rintro e W2 ⟨rfl, hB2⟩; exact ⟨_, rfl, hB2.mono hj.size, rfl, (hj.bel hB2).skip 6 _ (by simp)⟩)
        simp only [an1, an2]
        refine Free2.Chain.ex ?_ 7 rfl [(6, 47)] [] (by kernel_rfl) (by kernel_rfl) rfl (Below.refl _) (fun X W v h => LL.skip h 7 v (by simp)) ?_ ?_
        rotate_left
        · (intro ev W hb hR hO hD; have hS0 := hF W hR; have hS := FA W hS0; obtain ⟨hb1, hb2, hb3⟩ := hb; simp only [Free.AllDeps, Free.AllOuts, Free.At, al1, al2, al3, al4, al5, and_true] at hO hD; go_simp; rfl)
        simp only [an1, an2]
        refine Free2.Chain.ex ?_ 8 rfl [(7, 40)] [] (by kernel_rfl) (by kernel_rfl) rfl (Below.refl _) (fun X W v h => LL.skip h 8 v (by simp)) ?_ ?_
        rotate_left
        · (intro ev W hb hR hO hD; have hS0 := hF W hR; have hS := FA W hS0; obtain ⟨hb1, hb2, hb3⟩ := hb; simp only [Free.AllDeps, Free.AllOuts, Free.At, al1, al2, al3, al4, al5, and_true] at hO hD; go_simp; rfl)
        simp only [an1, an2]
        refine Free2.Chain.ex ?_ 9 rfl [(7, 40)] [] (by kernel_rfl) (by kernel_rfl) rfl (Below.refl _) (fun X W v h => LL.skip h 9 v (by simp)) ?_ ?_
        rotate_left
        · (intro ev W hb hR hO hD; have hS0 := hF W hR; have hS := FA W hS0; obtain ⟨hb1, hb2, hb3⟩ := hb; simp only [Free.AllDeps, Free.AllOuts, Free.At, al1, al2, al3, al4, al5, and_true] at hO hD; go_simp; rfl)
        simp only [an1, an2]
        refine Free2.Chain.ex ?_ 10 rfl [(7, 40)] [] (by kernel_rfl) (by kernel_rfl) rfl (Below.refl _) (fun X W v h => LL.skip h 10 v (by simp)) ?_ ?_
        rotate_left
        · (intro ev W hb hR hO hD; have hS0 := hF W hR; have hS := FA W hS0; obtain ⟨hb1, hb2, hb3⟩ := hb; simp only [Free.AllDeps, Free.AllOuts, Free.At, al1, al2, al3, al4, al5, and_true] at hO hD; go_simp; rfl)
        simp only [an1, an2]
        refine Free2.Chain.pr (fun v _ => ∃ b, v = ptr b) 11 rfl [] [] (by kernel_rfl) (by kernel_rfl) rfl (fun _ _ _ _ h => h) ?_ ?_
        · (intro ev W X hb hR hO hD hj hx hax; have hS0 := hF W hR; have hS := FA W hS0; obtain ⟨hb1, hb2, hb3⟩ := hb; simp only [Free.AllDeps, Free.AllOuts, Free.At, al1, al2, al3, al4, al5, and_true] at hO hD; simp only [Free2.AllX, and_true] at hax; go_simp; exact ⟨(Below.refl _ W).alloc hj.size _, ⟨_, rfl⟩, hj.new ⟨11, 13, (.cells #[.bool false, .bool false, .bool false, .bool false] 149), (.cells #[.bool (RT 0), .bool (RT 1), .bool (RT 2), .bool (RT 3)] 149)⟩ (by simp) (by simp) hx⟩)
        simp only [an1, an2]
        refine Free2.Chain.pr (fun v _ => ∃ b, v = ptr b) 12 rfl [] [] (by kernel_rfl) (by kernel_rfl) rfl (fun _ _ _ _ h => h) ?_ ?_
        · (intro ev W X hb hR hO hD hj hx hax; have hS0 := hF W hR; have hS := FA W hS0; obtain ⟨hb1, hb2, hb3⟩ := hb; simp only [Free.AllDeps, Free.AllOuts, Free.At, al1, al2, al3, al4, al5, and_true] at hO hD; simp only [Free2.AllX, and_true] at hax; go_simp; exact ⟨(Below.refl _ W).alloc hj.size _, ⟨_, rfl⟩, hj.new ⟨12, 14, (.cells #[.int .i64 0, .int .i64 0, .int .i64 0, .int .i64 0] 109), (.cells #[.int .i64 (RS 0), .int .i64 (RS 1), .int .i64 (RS 2), .int .i64 (RS 3)] 109)⟩ (by simp) (by simp) hx⟩)
        simp only [an1, an2]
        refine Free2.Chain.pr (fun _ _ => True) 13 rfl [(11, 8), (8, 48), (6, 47), (0, 41), (1, 42), (2, 43), (3, 44), (4, 45), (5, 46), (6, 47), (7, 40), (8, 48), (11, 8), (12, 9)] [] (by kernel_rfl) (by kernel_rfl) rfl (fun _ _ _ _ h => h) ?_ ?_
        · (intro ev W X hb hR hO hD hj hx hax; have hS0 := hF W hR; have hS := FA W hS0; obtain ⟨hb1, hb2, hb3⟩ := hb; simp only [Free.AllDeps, Free.AllOuts, Free.At, al1, al2, al3, al4, al5, and_true] at hO hD; simp only [Free2.AllX, and_true] at hax; obtain ⟨b, hb9, hs0, hbl⟩ := hj.at_ ⟨11, 13, (.cells #[.bool false, .bool false, .bool false, .bool false] 149), (.cells #[.bool (RT 0), .bool (RT 1), .bool (RT 2), .bool (RT 3)] 149)⟩ (by simp) hax.1 hx; have hX := hax.1; rw [hb9] at hX; have hp := hj.puts ⟨11, 13, (.cells #[.bool false, .bool false, .bool false, .bool false] 149), (.cells #[.bool (RT 0), .bool (RT 1), .bool (RT 2), .bool (RT 3)] 149)⟩ (by simp) (by simp) hX hs0 hbl [(0, .bool (RT 0)), (1, .bool (RT 1)), (2, .bool (RT 2)), (3, .bool (RT 3))] rfl; obtain ⟨y0, y1, y2, y3, t0, t1, t2, t3⟩ := cells4 hbl; go_simp; exact ⟨(hp undef).1, (hp _).2⟩)
        simp only [an1, an2]
        refine Free2.Chain.pr (fun _ _ => True) 14 rfl [(12, 9), (9, 49), (0, 41), (1, 42), (2, 43), (3, 44), (4, 45), (5, 46), (6, 47), (7, 40), (8, 48), (9, 49), (11, 8), (12, 9)] [] (by kernel_rfl) (by kernel_rfl) rfl (fun _ _ _ _ h => h) ?_ ?_
        · (intro ev W X hb hR hO hD hj hx hax; have hS0 := hF W hR; have hS := FA W hS0; obtain ⟨hb1, hb2, hb3⟩ := hb; simp only [Free.AllDeps, Free.AllOuts, Free.At, al1, al2, al3, al4, al5, and_true] at hO hD; simp only [Free2.AllX, and_true] at hax; obtain ⟨b, hb9, hs0, hbl⟩ := hj.at_ ⟨12, 14, (.cells #[.int .i64 0, .int .i64 0, .int .i64 0, .int .i64 0] 109), (.cells #[.int .i64 (RS 0), .int .i64 (RS 1), .int .i64 (RS 2), .int .i64 (RS 3)] 109)⟩ (by simp) hax.1 hx; have hX := hax.1; rw [hb9] at hX; have hp := hj.puts ⟨12, 14, (.cells #[.int .i64 0, .int .i64 0, .int .i64 0, .int .i64 0] 109), (.cells #[.int .i64 (RS 0), .int .i64 (RS 1), .int .i64 (RS 2), .int .i64 (RS 3)] 109)⟩ (by simp) (by simp) hX hs0 hbl [(0, .int .i64 (RS 0)), (1, .int .i64 (RS 1)), (2, .int .i64 (RS 2)), (3, .int .i64 (RS 3))] rfl; obtain ⟨y0, y1, y2, y3, t0, t1, t2, t3⟩ := cells4 hbl; go_simp; exact ⟨(hp undef).1, (hp _).2⟩)
        simp only [an1, an2]
        refine Free2.Chain.ex ?_ 15 rfl [(10, 50), (0, 41), (1, 42), (2, 43), (3, 44), (4, 45), (5, 46), (6, 47), (7, 40), (8, 48), (9, 49), (10, 50), (11, 8), (12, 9)] [] (by kernel_rfl) (by kernel_rfl) rfl (Below.refl _) (fun X W v h => LL.skip h 15 v (by simp)) ?_ ?_
        rotate_left
        · (intro ev W hb hR hO hD; have hS0 := hF W hR; have hS := FA W hS0; obtain ⟨hb1, hb2, hb3⟩ := hb; simp only [Free.AllDeps, Free.AllOuts, Free.At, al1, al2, al3, al4, al5, and_true] at hO hD; go_simp; rfl)
        simp only [an1, an2]
        intro xs' w5 hR hV hX
        obtain ⟨X, hj, hxx⟩ := hX
        simp only [Free.AllV, Free.At, List.length_cons, List.length_nil, Nat.reduceAdd, List.getElem?_cons_succ, List.getElem?_cons_zero, true_and, and_true] at hV
        obtain ⟨g8, hg8, _⟩ := hj.done ⟨11, 13, (.cells #[.bool false, .bool false, .bool false, .bool false] 149), (.cells #[.bool (RT 0), .bool (RT 1), .bool (RT 2), .bool (RT 3)] 149)⟩ (by simp) (hxx 11 (by decide)) (hxx 13 (by decide))
        obtain ⟨g9, hg9, _⟩ := hj.done ⟨12, 14, (.cells #[.int .i64 0, .int .i64 0, .int .i64 0, .int .i64 0] 109), (.cells #[.int .i64 (RS 0), .int .i64 (RS 1), .int .i64 (RS 2), .int .i64 (RS 3)] 109)⟩ (by simp) (hxx 12 (by decide)) (hxx 14 (by decide))
        simp only [Free.putsFrom, Act.put, Nat.zero_add, Nat.reduceAdd, hV, hg8, hg9, List.setIfInBounds_toArray, List.set_cons_succ, List.set_cons_zero]
        have K5 : Free.Bel wa w5 := hF w5 hR
        obtain ⟨f0, f1, f2, f3, f4⟩ := FA w5 K5
        have KN := bt KA K5
        have hI5 := HIT.out.bel KN
        have hG5 := grown_bel HGW.out KN
        have hM5 := HMN.out.bel KN
        have HDE5 : Hid (iterLeft rb gb w5 < iterLeft rb gb wr) := by
          have := HDEC.out
          have e : iterLeft rb gb w5 = iterLeft rb gb wn := by rw [hI5.left, HIT.out.left]
          show _ < _
          omega
        clear hR hV hj hxx hg8 hg9 hF FA mS KA K5 KN
        cases RB with
        | true =>
          go_wp2_with fail
          go_roundw
          case rel =>
            obtain ⟨hGn, hdL, hGm⟩ := HGG.out
            obtain ⟨hqS, hqL, hqn⟩ := HQS.out
            refine ⟨q :: done, G, hI5, hM5, hG5, hGn, fun y hy => ?_, fun y => ?_⟩
            · rcases List.mem_cons.1 hy with rfl | hy
              · exact hqL
              · exact hdL y hy
            · rw [hGm, List.mem_cons]
              constructor
              · exact fun ⟨h1, h2⟩ => ⟨.inr h1, h2⟩
              · rintro ⟨rfl | h1, h2⟩
                · rw [HBAD.out] at h2; cases h2
                · exact ⟨h1, h2⟩
          case measure => exact HDE5.out
        | false =>
          obtain ⟨w6, hup, hg6, hM6, hs6⟩ := good_update hM5 S
          have hI6 := hI5.of_blocks (hg6.block gb hI5.lt.1 (by have := HGL.out; simp; omega)) (hg6.block rb hI5.lt.2 (by have := HRN.out; simp; omega))
          have hG6 := grown_new hG5 hg6 (Nat.le_refl _)
          have HDE6 : Hid (iterLeft rb gb w6 < iterLeft rb gb wr) := by
            have := HDE5.out
            have e : iterLeft rb gb w6 = iterLeft rb gb w5 := by rw [hI6.left, hI5.left]
            show _ < _
            omega
          have HALL6 := Lib.hid (And.intro hI6 (And.intro hM6 hG6))
          clear hI5 hM5 hG5 hI6 hM6 hG6 hg6 hs6
          go_wp2_with fail
          go_roundw
          case rel =>
            obtain ⟨hGn, hdL, hGm⟩ := HGG.out
            obtain ⟨hqS, hqL, hqn⟩ := HQS.out
            obtain ⟨hI6, hM6, hG6⟩ := HALL6.out
            rw [← hqS] at hM6
            refine ⟨q :: done, addK q G, hI6, hM6, hG6, nodup_addK hGn, fun y hy => ?_, fun y => ?_⟩
            · rcases List.mem_cons.1 hy with rfl | hy
              · exact hqL
              · exact hdL y hy
            · rw [mem_addK, hGm, List.mem_cons]
              constructor
              · rintro (rfl | ⟨h1, h2⟩)
                · exact ⟨.inl rfl, by rw [HBAD.out]; rfl⟩
                · exact ⟨.inr h1, h2⟩
              · rintro ⟨rfl | h1, h2⟩
                · exact .inl rfl
                · exact .inr ⟨h1, h2⟩
          case measure => exact HDE6.out
end Go.Proofs.YtknpglgpkkhhiaaDoor

