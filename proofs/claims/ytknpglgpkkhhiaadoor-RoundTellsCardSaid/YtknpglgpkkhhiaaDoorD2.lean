/- append(T{..}, xs...): a row that is full stays as it is; what comes of it is an own row. -/
import Derived.Test.YtknpglgpkkhhiaaDoorD1
import Derived.Laws.OwnMore
import Derived.IntWalk
import Derived.Maps.RangeRun
namespace Go.Proofs.YtknpglgpkkhhiaaDoor
set_option linter.unusedSimpArgs false
set_option linter.unusedVariables false
open Go.RowKit Go.Proofs.YtknpglgpkkhhiaaDoor.Free2

section
variable {P : Program}
theorem run_append_full (w : World) (base : Nat) (t ty e : TypeId) (i : TypeInfo) (z : Value) (size bytes : Nat) (ht : P.underlying t = some (.slice e)) (hi : P.info? e = some i) (hz : i.zero = some z)
    (hsize : i.size = size) (hby : i.bytes = bytes) (hzs : z.cells.size = size) (hsz : 0 < size)
    (b n : Nat) (cur : Array Value) (hb : w.heap[b]? = some (.cells cur e (0, 0))) (hcs : cur.size = n * size) (hbase : base ≤ b)
    (p : Option Addr) (m c : Nat) (news : List Value) (hl : news.length = m * size) (hp : ∀ ad, p = some ad → ∀ j u, news[j]? = some u → w.cell? (ad.add j) = some u) (hnil : p = none → m = 0 ∧ c = 0)
    (h63 : n + m ≤ maxLen) (hbytes : (n + m) * bytes ≤ 140737488355328) :
    ∃ v' w', (Builtin.append_ #[t, t] ty #[.slice (some ⟨b, 0, none⟩) n n, .slice p m c]).run P w = .ok v' w' ∧ w'.ownsRow base e size v' (n + m) (cur.toList ++ news) ∧ Below w.heap.size w w' ∧ (0 < m → ∃ g cap, v' = .slice (some ⟨g, 0, none⟩) (n + m) cap ∧ w.heap.size ≤ g) := by
  have hblt : b < w.heap.size := lt_of_heap hb
  have hown : w.ownsRow base e size (.slice (some ⟨b, 0, none⟩) n n) n cur.toList :=
    ⟨by simpa using hcs, .inr ⟨b, n, cur, rfl, hbase, hb, Nat.le_refl _, by omega, hcs, by rw [List.take_of_length_le]; rw [Array.length_toList, hcs]; exact Nat.le_refl _⟩⟩
  by_cases hm : m = 0
  · subst hm
    have hn : news = [] := List.eq_nil_of_length_eq_zero (by simpa using hl)
    subst hn
    have hrun : (Builtin.append_ #[t, t] ty #[.slice (some ⟨b, 0, none⟩) n n, .slice p 0 c]).run P w = .ok (.slice (some ⟨b, 0, none⟩) n n) w := by
      cases hpc : p with
      | none =>
        obtain ⟨_, rfl⟩ := hnil hpc
        exact run_append_owned_none (P := P) (w := w) base t ty e i size ht hi _ n _ hown
      | some ad =>
        have hr := run_append_room (P := P) w t ty e i ht hi b n n cur hb ad 0 c [] (by simp) (by simp) (by simp) (by omega) (by rw [hcs, hsize]; simp)
        rw [hr]
        have hq : (cur.toList.take (n * i.size) ++ [] ++ cur.toList.drop (n * i.size + ([] : List Value).length)).toArray = cur := by simp
        rw [hq, setRow_self w b cur e (0, 0) hb]
        rfl
    exact ⟨_, w, hrun, by simpa using hown, Below.refl _ _, fun h => absurd h (Nat.lt_irrefl 0)⟩
  · obtain ⟨ad, rfl⟩ : ∃ ad, p = some ad := by
      cases hpc : p with
      | none => exact absurd (hnil hpc).1 hm
      | some ad => exact ⟨ad, rfl⟩
    subst hsize
    subst hby
    have hsmall : n + m ≤ 9223372036854775807 := by simp only [maxLen] at h63; omega
    have hr := run_append_grow (P := P) w t ty e i z ht hi hz ⟨b, 0, none⟩ n n cur.toList (by simpa using hcs) (hown.cells (g := b) rfl) ad m c news hl (hp ad rfl) (by omega) (by omega) (growslice_fits (by omega) hbytes)
    refine ⟨_, _, hr, ⟨by simp [hcs, hl, Nat.add_mul], .inr ⟨w.heap.size, _, _, rfl, by omega, heap_alloc_new w.drew _, grownCap_ge w (n + m) n e, grownCap_le_maxLen w (n + m) n e h63, ?_, ?_⟩⟩, ((Below.refl _ w).drew).alloc (by simp) _, fun _ => ⟨_, _, rfl, Nat.le_refl _⟩⟩
    · have hge := grownCap_ge w (n + m) n e
      simp only [Array.size_append, List.size_toArray, size_zeroCells, hzs, hl, Array.length_toList, hcs, ← Nat.add_mul]
      congr 1
      omega
    · simp only [Array.toList_append, List.append_assoc]
      rw [← List.append_assoc, show (n + m) * i.size = (cur.toList ++ news).length by simp [hcs, hl, Nat.add_mul]]
      exact List.take_left
/-- For an operation of a region that draws its order. -/
theorem yields_append_full {K : Value → World → Prop} {ev : Operand → Value} (w : World) (o : Oper) (s x : Operand) (t : TypeId) (ho : o.op = .call { callee := .builtin .append, args := #[s, x], argTypes := #[t, t] })
    (base : Nat) (e : TypeId) (i : TypeInfo) (z : Value) (size bytes : Nat) (ht : P.underlying t = some (.slice e)) (hi : P.info? e = some i) (hz : i.zero = some z)
    (hsize : i.size = size) (hby : i.bytes = bytes) (hzs : z.cells.size = size) (hsz : 0 < size)
    (b n : Nat) (cur : Array Value) (hs : ev s = .slice (some ⟨b, 0, none⟩) n n) (hb : w.heap[b]? = some (.cells cur e (0, 0))) (hcs : cur.size = n * size) (hbase : base ≤ b)
    (p : Option Addr) (m c : Nat) (news : List Value) (hx : ev x = .slice p m c) (hl : news.length = m * size) (hp : ∀ ad, p = some ad → ∀ j u, news[j]? = some u → w.cell? (ad.add j) = some u) (hnil : p = none → m = 0 ∧ c = 0)
    (h63 : n + m ≤ maxLen) (hbytes : (n + m) * bytes ≤ 140737488355328)
    (h : ∀ v' w', w'.ownsRow base e size v' (n + m) (cur.toList ++ news) → Below w.heap.size w w' → K v' w') : Free.Yields P K ((execOp ev o).run P w) := by
  obtain ⟨v', w', hr, h1, h2, _⟩ := run_append_full (P := P) w base t o.type e i z size bytes ht hi hz hsize hby hzs hsz b n cur hb hcs hbase p m c news hl hp hnil h63 hbytes
  unfold execOp
  simp only [ho, resolve, invoke, builtin, Sem.run_bind, Sem.run_pure, Result.andThen_ok, List.map_toArray, List.map_cons, List.map_nil, hs, hx, hr]
  exact h v' w' h1 h2
/-- For an operation in order. -/
theorem wpList_append_full {ops : Array Oper} {rest : List Oper} {o : Oper} {a : Act} {Q : Exit → Act → World → Prop} {w : World} (hgd : o.guard = none) (s x : Operand) (t : TypeId)
    (ho : o.op = .call { callee := .builtin .append, args := #[s, x], argTypes := #[t, t] })
    (base : Nat) (e : TypeId) (i : TypeInfo) (z : Value) (size bytes : Nat) (ht : P.underlying t = some (.slice e)) (hi : P.info? e = some i) (hz : i.zero = some z)
    (hsize : i.size = size) (hby : i.bytes = bytes) (hzs : z.cells.size = size) (hsz : 0 < size)
    (b n : Nat) (cur : Array Value) (hs : a.eval s = .slice (some ⟨b, 0, none⟩) n n) (hb : w.heap[b]? = some (.cells cur e (0, 0))) (hcs : cur.size = n * size) (hbase : base ≤ b)
    (p : Option Addr) (m c : Nat) (news : List Value) (hx : a.eval x = .slice p m c) (hl : news.length = m * size) (hp : ∀ ad, p = some ad → ∀ j u, news[j]? = some u → w.cell? (ad.add j) = some u) (hnil : p = none → m = 0 ∧ c = 0)
    (h63 : n + m ≤ maxLen) (hbytes : (n + m) * bytes ≤ 140737488355328)
    (h : ∀ v' w', w'.ownsRow base e size v' (n + m) (cur.toList ++ news) → Below w.heap.size w w' → wpList P ops Q rest (a.put o.dst v') w') : wpList P ops Q (o :: rest) a w := by
  refine wpList_plain hgd fun K hK => ?_
  obtain ⟨v', w', hr, h1, h2, _⟩ := run_append_full (P := P) w base t o.type e i z size bytes ht hi hz hsize hby hzs hsz b n cur hb hcs hbase p m c news hl hp hnil h63 hbytes
  unfold Oper.wp execOp
  simp only [ho, resolve, invoke, builtin, Sem.run_bind, Sem.run_pure, Result.andThen_ok, List.map_toArray, List.map_cons, List.map_nil, hs, hx, hr]
  exact hK _ _ (h v' w' h1 h2)
end
end Go.Proofs.YtknpglgpkkhhiaaDoor

/- A region that draws its order and stores once into a block that was there: what is stored is told by a property that every later world keeps. -/
namespace Go.Proofs.YtknpglgpkkhhiaaDoor
set_option linter.unusedSimpArgs false
set_option linter.unusedVariables false
open Go.RowKit Go.Proofs.YtknpglgpkkhhiaaDoor.Free2

structure BX (rb : Nat) (a b : World) : Prop where
  os : b.os = a.os
  tape : b.tape = a.tape
  output : b.output = a.output
  size : a.heap.size ≤ b.heap.size
  block : ∀ k, k < a.heap.size → k ≠ rb → b.heap[k]? = a.heap[k]?
/-- The block rb is as it was, or this holds. -/
structure RS (rb : Nat) (Φ : World → Prop) (a b : World) : Prop where
  bx : BX rb a b
  now : b.heap[rb]? = a.heap[rb]? ∨ Φ b
section
variable {rb : Nat} {Φ : World → Prop} {a b c : World}
theorem BX.refl (rb : Nat) (a : World) : BX rb a a := ⟨rfl, rfl, rfl, Nat.le_refl _, fun _ _ _ => rfl⟩
theorem BX.trans (h : BX rb a b) (k : BX rb b c) : BX rb a c := ⟨k.os.trans h.os, k.tape.trans h.tape, k.output.trans h.output, Nat.le_trans h.size k.size, fun i hi hn => (k.block i (Nat.lt_of_lt_of_le hi h.size) hn).trans (h.block i hi hn)⟩
theorem BX.of_bel (h : Below a.heap.size a b) : BX rb a b := ⟨h.os, h.tape, h.output, h.size, fun k hk _ => h.block k hk⟩
theorem BX.bel (h : BX rb a b) (hb : b.heap[rb]? = a.heap[rb]?) : Below a.heap.size a b := ⟨h.os, h.tape, h.output, h.size, fun k hk => by
  by_cases e : k = rb
  · subst e; exact hb
  · exact h.block k hk e⟩
theorem BX.cell (h : BX rb a b) {p : Addr} {v : Value} (hv : a.cell? p = some v) (hn : p.block ≠ rb) : b.cell? p = some v :=
  (World.cell?_of_block (h.block _ (lt_of_cell hv) hn)).trans hv
theorem BX.below {w0 : World} {s : Nat} (h0 : Below s w0 a) (h : BX rb a b) (hs : s ≤ a.heap.size) (hr : s ≤ rb) : Below s w0 b :=
  ⟨h.os.trans h0.os, h.tape.trans h0.tape, h.output.trans h0.output, Nat.le_trans h0.size h.size, fun k hk => (h.block k (by omega) (by omega)).trans (h0.block k hk)⟩
theorem BX.set {o : Nat} {v : Value} : BX rb a (a.setCell ⟨rb, o, none⟩ v) := ⟨rfl, rfl, rfl, by simp, fun k hk hn => Below.heap_setCell _ _ _ _ (by simpa using hn)⟩
theorem BX.row {base : Nat} {e : TypeId} {size n : Nat} {v : Value} {xs : List Value} (h : BX rb a b) (ho : a.ownsRow base e size v n xs) (hr : rb < base) : b.ownsRow base e size v n xs := by
  obtain ⟨h1, h2⟩ := ho
  refine ⟨h1, h2.imp id ?_⟩
  rintro ⟨g, cap, cur, rfl, hb, hg, r⟩
  exact ⟨g, cap, cur, rfl, hb, (h.block g (lt_of_heap hg) (by omega)).trans hg, r⟩
theorem RS.refl (rb : Nat) (Φ : World → Prop) (a : World) : RS rb Φ a a := ⟨BX.refl _ _, .inl rfl⟩
theorem RS.trans (hΦ : ∀ a b, Below a.heap.size a b → Φ a → Φ b) (a b c : World) (h : RS rb Φ a b) (k : RS rb Φ b c) : RS rb Φ a c :=
  ⟨h.bx.trans k.bx, by
    rcases k.now with e | e
    · rcases h.now with e' | e'
      · exact .inl (e.trans e')
      · exact .inr (hΦ b c (k.bx.bel e) e')
    · exact .inr e⟩
theorem RS.of_bel (h : Below a.heap.size a b) (hr : rb < a.heap.size) : RS rb Φ a b := ⟨.of_bel h, .inl (h.block rb hr)⟩
theorem RS.stable (hΦ : ∀ a b, Below a.heap.size a b → Φ a → Φ b) : Free.Stable (RS rb Φ) (fun _ w => Φ w) := fun _ a b h k => by
  rcases h.now with e | e
  · exact hΦ a b (h.bx.bel e) k
  · exact e
theorem RS.stableRow {base : Nat} {e : TypeId} {size n : Nat} {xs : List Value} (hr : rb < base) : Free.Stable (RS rb Φ) (fun v w => w.ownsRow base e size v n xs) := fun v a b h k => h.bx.row k hr
/-- An empty literal. -/
def LitV (base : Nat) (e : TypeId) (v : Value) (w : World) : Prop := ∃ g, v = .slice (some ⟨g, 0, none⟩) 0 0 ∧ base ≤ g ∧ w.heap[g]? = some (.cells #[] e (0, 0))
theorem RS.stableLit {base : Nat} {e : TypeId} (hr : rb < base) : Free.Stable (RS rb Φ) (LitV base e) := fun v a b h ⟨g, h1, h2, h3⟩ => ⟨g, h1, h2, (h.bx.block g (lt_of_heap h3) (by omega)).trans h3⟩
theorem LitV.made {base : Nat} {e : TypeId} {w : World} (hb : base ≤ w.heap.size) : LitV base e (.slice (some ⟨w.heap.size, 0, none⟩) 0 0) (w.alloc (.cells #[] e (0, 0))) := ⟨_, rfl, hb, World.alloc_heap_new w _⟩
end
/-- A block of two cells, and a row. -/
def Pair2 (rb base : Nat) (t e : TypeId) (size : Nat) (x : Value) (n : Nat) (xs : List Value) (w : World) : Prop := ∃ v, w.ownsRow base e size v n xs ∧ w.heap[rb]? = some (.cells #[x, v] t (0, 0))
theorem Pair2.kept {rb base : Nat} {t e : TypeId} {size : Nat} {x : Value} {n : Nat} {xs : List Value} : ∀ a b : World, Below a.heap.size a b → Pair2 rb base t e size x n xs a → Pair2 rb base t e size x n xs b :=
  fun a b h ⟨v, h1, h2⟩ => by
    refine ⟨v, ?_, (h.block rb (lt_of_heap h2)).trans h2⟩
    obtain ⟨h3, h4⟩ := h1
    refine ⟨h3, h4.imp id ?_⟩
    rintro ⟨g, cap, cur, rfl, hb, hg, r⟩
    exact ⟨g, cap, cur, rfl, hb, (h.block g (lt_of_heap hg)).trans hg, r⟩
theorem bel_row {base : Nat} {e : TypeId} {size n : Nat} {v : Value} {xs : List Value} {a b : World} (ho : a.ownsRow base e size v n xs) (h : Below a.heap.size a b) : b.ownsRow base e size v n xs := by
  obtain ⟨h3, h4⟩ := ho
  refine ⟨h3, h4.imp id ?_⟩
  rintro ⟨g, cap, cur, rfl, hb, hg, r⟩
  exact ⟨g, cap, cur, rfl, hb, (h.block g (lt_of_heap hg)).trans hg, r⟩
theorem row_slice {base : Nat} {e : TypeId} {size n : Nat} {v : Value} {xs : List Value} {a : World} (h : a.ownsRow base e size v n xs) : ∃ p c, v = .slice p n c := by
  rcases h.2 with ⟨rfl, rfl⟩ | ⟨g, cap, cur, rfl, _⟩
  · exact ⟨_, _, rfl⟩
  · exact ⟨_, _, rfl⟩
theorem row_mono {base base' : Nat} {e : TypeId} {size n : Nat} {v : Value} {xs : List Value} {a : World} (ho : a.ownsRow base e size v n xs) (h : base' ≤ base) : a.ownsRow base' e size v n xs := by
  obtain ⟨h3, h4⟩ := ho
  refine ⟨h3, h4.imp id ?_⟩
  rintro ⟨g, cap, cur, rfl, hb, r⟩
  exact ⟨g, cap, cur, rfl, by omega, r⟩
theorem grown_belR {base n size : Nat} {e : TypeId} {v : Value} {xs : List Value} {w w' : World} (hown : w.ownsRow base e size v n xs) (h : w.grownBy w' v.ownBlock) (hb : base ≤ w.heap.size) : Below base w w' := by
  refine (Below.refl _ _).grown h hb fun k hk => ?_
  rcases hown.2 with ⟨rfl, _⟩ | ⟨g, cap, cur, rfl, hbg, _⟩
  · simp [Value.ownBlock] at hk
  · simp [Value.ownBlock] at hk; omega
end Go.Proofs.YtknpglgpkkhhiaaDoor

/- The reference's Twin. -/
namespace Go.Proofs.YtknpglgpkkhhiaaDoor
set_option linter.unusedSimpArgs false
set_option linter.unusedVariables false
open Go.RowKit

theorem ricks_news {xs : List (Int × Int × Int)} {p : Option Addr} {cp : Nat} {w : World} (hp : xs ≠ [] → ∃ b off, p = some ⟨b, off, none⟩ ∧ ∀ k, (h : k < xs.length) → w.cell? ⟨b, off + k * 3, none⟩ = some (.int .i64 xs[k].1) ∧ w.cell? ⟨b, off + k * 3 + 1, none⟩ = some (.int .i64 xs[k].2.1) ∧ w.cell? ⟨b, off + k * 3 + 2, none⟩ = some (.int .i64 xs[k].2.2)) :
    ∀ W, Below w.heap.size w W → ∀ ad, p = some ad → ∀ j u, (cellsR xs)[j]? = some u → W.cell? (ad.add j) = some u := by
  intro W hW ad hpa j u hj
  by_cases hx : xs = []
  · subst hx; simp [cellsR] at hj
  · obtain ⟨b, off, rfl, hc⟩ := hp hx
    cases hpa
    exact cellsR_news (fun k hk => ⟨keepsB hW (hc k hk).1, keepsB hW (hc k hk).2.1, keepsB hW (hc k hk).2.2⟩) j u hj

set_option maxRecDepth 100000 in
set_option maxHeartbeats 2000000 in
theorem twin_any (h : Int) (xs : List (Int × Int × Int)) (u : Value) (w : World) (hu : RL xs u w) (hz : NZ u) (hn : xs.length ≤ 1000) :
    Calls Tryd.prog 19 #[.agg #[.int .i64 h, u]] w fun e w' => ∃ v, e = .returned (.agg #[.int .i64 h, v]) ∧ w'.ownsRow w.heap.size 47 3 v xs.length (cellsR xs) ∧ Below w.heap.size w w' := by
  obtain ⟨p, cp, rfl, hm, hp⟩ := hu
  have HNEW := Lib.hid (ricks_news (cp := cp) hp)
  have HNIL : Hid (p = none → xs.length = 0 ∧ cp = 0) := fun e => hz _ _ (by rw [e])
  clear hp hz
  obtain ⟨i0, hi0, hz0, hz1, hz2⟩ := info_parts T.infoRick
  have HZ := Lib.hid (And.intro hi0 (And.intro hz0 (And.intro hz1 hz2)))
  clear hi0 hz0 hz1 hz2
  go_enter Tryd.func19, Tryd.ntmps19
  go_wp2_with fail
  refine with_world ?_
  intro W1 hW1
  have hB1 : Below w.heap.size w W1 := by rw [hW1]; exact ((Below.refl _ w).alloc (Nat.le_refl _) _).alloc (by simp) _
  have hs1 : W1.heap.size = w.heap.size + 1 + 1 := by rw [hW1]; simp
  have n0 : W1.cell? ⟨w.heap.size, 0, none⟩ = some (.int .i64 h) := by rw [hW1]; simp [go_sem]
  have n1 : W1.cell? ⟨w.heap.size, 1, none⟩ = some (.slice p xs.length cp) := by rw [hW1]; simp [go_sem]
  have n2 : W1.heap[w.heap.size + 1]? = some (.cells #[.int .i64 0, .slice none 0 0] 24 (0, 0)) := by
    rw [hW1]
    have := World.alloc_heap_new (w.alloc (.cells #[.int .i64 h, .slice p xs.length cp] 24)) (.cells #[.int .i64 0, .slice none 0 0] 24)
    simpa using this
  have HW := Lib.hid hW1
  clear hW1
  have hF : ∀ W, RS (w.heap.size + 1) (Pair2 (w.heap.size + 1) (w.heap.size + 1 + 1) 24 47 3 (.int .i64 h) xs.length (cellsR xs)) W1.drew W → (W.cell? ⟨w.heap.size, 0, none⟩ = some (.int .i64 h) ∧ W.cell? ⟨w.heap.size, 1, none⟩ = some (.slice p xs.length cp)) ∧ (w.heap.size + 1 + 1 ≤ W.heap.size ∧ Below w.heap.size w W ∧ ∃ c0 c1, W.heap[w.heap.size + 1]? = some (.cells #[c0, c1] 24 (0, 0))) := fun W hW =>
    ⟨⟨hW.bx.cell (show W1.drew.cell? _ = _ from n0) (by simp), hW.bx.cell (show W1.drew.cell? _ = _ from n1) (by simp)⟩, Nat.le_trans (Nat.le_of_eq hs1.symm) hW.bx.size, BX.below (hB1.drew) hW.bx (by simp [hs1]; omega) (by omega), by
      rcases hW.now with e | ⟨v, _, e⟩
      · exact ⟨_, _, e.trans (show W1.drew.heap[_]? = _ from n2)⟩
      · exact ⟨_, _, e⟩⟩
  refine Free.wp_free (R := RS (w.heap.size + 1) (Pair2 (w.heap.size + 1) (w.heap.size + 1 + 1) 24 47 3 (.int .i64 h) xs.length (cellsR xs))) (by kernel_rfl) (by kernel_rfl) (RS.refl _ _) (RS.trans Pair2.kept) ?_
  refine Free.Chain.ex ?_ [] [1] (by kernel_rfl) (by kernel_rfl) rfl (RS.refl _ _) ?_ ?_
  rotate_left
  · (intro ev W hb hR hO hD; have hS := hF W hR; obtain ⟨hb1, hb2, hb3⟩ := hb; simp only [Free.AllDeps, Free.AllOuts, Free.At, al1, al2, al3, al4, al5, and_true] at hO hD; obtain ⟨hS, hS2⟩ := hS; go_simp; rfl)
  simp only [an1, an2]
  refine Free.Chain.ex ?_ [(0, 3)] [] (by kernel_rfl) (by kernel_rfl) rfl (RS.refl _ _) ?_ ?_
  rotate_left
  · (intro ev W hb hR hO hD; have hS := hF W hR; obtain ⟨hb1, hb2, hb3⟩ := hb; simp only [Free.AllDeps, Free.AllOuts, Free.At, al1, al2, al3, al4, al5, and_true] at hO hD; obtain ⟨hS, hS2⟩ := hS; go_simp; rfl)
  simp only [an1, an2]
  refine Free.Chain.pr (LitV (w.heap.size + 1 + 1) 47) [] [] (by kernel_rfl) (by kernel_rfl) rfl (RS.stableLit (by omega)) ?_ ?_
  · (intro ev W hb hR hO hD; have hS := hF W hR; obtain ⟨hb1, hb2, hb3⟩ := hb; simp only [Free.AllDeps, Free.AllOuts, Free.At, al1, al2, al3, al4, al5, and_true] at hO hD; obtain ⟨hS, hS2⟩ := hS; go_simp; exact ⟨RS.of_bel ((Below.refl _ _).alloc (Nat.le_refl _) _) (by omega), LitV.made (by omega)⟩)
  simp only [an1, an2]
  refine Free.Chain.ex ?_ [] [1] (by kernel_rfl) (by kernel_rfl) rfl (RS.refl _ _) ?_ ?_
  rotate_left
  · (intro ev W hb hR hO hD; have hS := hF W hR; obtain ⟨hb1, hb2, hb3⟩ := hb; simp only [Free.AllDeps, Free.AllOuts, Free.At, al1, al2, al3, al4, al5, and_true] at hO hD; obtain ⟨hS, hS2⟩ := hS; go_simp; rfl)
  simp only [an1, an2]
  refine Free.Chain.ex ?_ [(3, 6)] [] (by kernel_rfl) (by kernel_rfl) rfl (RS.refl _ _) ?_ ?_
  rotate_left
  · (intro ev W hb hR hO hD; have hS := hF W hR; obtain ⟨hb1, hb2, hb3⟩ := hb; simp only [Free.AllDeps, Free.AllOuts, Free.At, al1, al2, al3, al4, al5, and_true] at hO hD; obtain ⟨hS, hS2⟩ := hS; go_simp; rfl)
  simp only [an1, an2]
  refine Free.Chain.pr (fun v w1 => w1.ownsRow (w.heap.size + 1 + 1) 47 3 v xs.length (cellsR xs)) [(2, 5), (4, 7)] [] (by kernel_rfl) (by kernel_rfl) rfl (RS.stableRow (by omega)) ?_ ?_
  · (intro ev W hb hR hO hD; have hS := hF W hR; obtain ⟨hb1, hb2, hb3⟩ := hb; simp only [Free.AllDeps, Free.AllOuts, Free.At, al1, al2, al3, al4, al5, and_true] at hO hD; obtain ⟨hS, hS2⟩ := hS; obtain ⟨⟨g, hg1, hg2, hg3⟩, hx4⟩ := hD; refine yields_append_full W _ (.tmp 5) (.tmp 7) 22 rfl (w.heap.size + 1 + 1) 47 i0 (.agg #[.int .i64 0, .int .i64 0, .int .i64 0]) 3 24 Tryd.underlying22 HZ.out.1 HZ.out.2.1 HZ.out.2.2.1 HZ.out.2.2.2 rfl (by decide) g 0 #[] hg1 hg3 rfl hg2 p xs.length cp (cellsR xs) hx4 (cellsR_length xs) (HNEW.out W hS2.2.1) HNIL.out (by unfold maxLen; omega) (by omega) ?_; intro v9 w9 ho9 hb9; exact ⟨RS.of_bel hb9 (by omega), by simpa using ho9⟩)
  simp only [an1, an2]
  refine Free.Chain.pr (fun v w1 => ∃ v5, v = .agg #[.int .i64 h, v5] ∧ w1.ownsRow (w.heap.size + 1 + 1) 47 3 v5 xs.length (cellsR xs)) [(1, 4), (5, 8)] [] (by kernel_rfl) (by kernel_rfl) rfl (fun v a b hr ⟨v5, e, k⟩ => ⟨v5, e, hr.bx.row k (by omega)⟩) ?_ ?_
  · (intro ev W hb hR hO hD; have hS := hF W hR; obtain ⟨hb1, hb2, hb3⟩ := hb; simp only [Free.AllDeps, Free.AllOuts, Free.At, al1, al2, al3, al4, al5, and_true] at hO hD; obtain ⟨h4, h8⟩ := hD; obtain ⟨p8, c8, e8⟩ := row_slice h8; rw [e8] at h8; go_simp; exact ⟨RS.refl _ _ _, _, rfl, h8⟩)
  simp only [an1, an2]
  refine Free.Chain.pr (fun _ w1 => Pair2 (w.heap.size + 1) (w.heap.size + 1 + 1) 24 47 3 (.int .i64 h) xs.length (cellsR xs) w1) [(6, 9), (5, 8), (0, 3), (1, 4), (2, 5), (3, 6), (4, 7), (5, 8), (6, 9)] [2] (by kernel_rfl) (by kernel_rfl) rfl (RS.stable Pair2.kept) ?_ ?_
  · (intro ev W hb hR hO hD; have hS := hF W hR; obtain ⟨hb1, hb2, hb3⟩ := hb; simp only [Free.AllDeps, Free.AllOuts, Free.At, al1, al2, al3, al4, al5, and_true] at hO hD; obtain ⟨hS, hS2⟩ := hS; obtain ⟨c0, c1, hc⟩ := hS2.2.2; obtain ⟨⟨v5, hv5, ho5⟩, hx5⟩ := hD; obtain ⟨p5, c5, rfl⟩ := row_slice ho5; have q0 := cell_of_heap (o := 0) hc rfl; have q1 := cell_of_heap (o := 1) hc rfl; have p0 := frozen_of_heap (o := 0) hc; have p1 := frozen_of_heap (o := 1) hc; go_simp; have hph : Pair2 (w.heap.size + 1) (w.heap.size + 1 + 1) 24 47 3 (.int .i64 h) xs.length (cellsR xs) ((W.setCell ⟨w.heap.size + 1, 0, none⟩ (.int .i64 h)).setCell ⟨w.heap.size + 1, 1, none⟩ (.slice p5 xs.length c5)) := ⟨_, (BX.set.trans BX.set).row ho5 (by omega), by have := heap_setCell_same (o := 1) (.slice p5 xs.length c5) (heap_setCell_same (o := 0) (.int .i64 h) hc); simpa using this⟩; exact ⟨⟨BX.set.trans BX.set, .inr hph⟩, hph⟩)
  simp only [an1, an2]
  intro ys w' hR hV
  simp only [Free.AllV, Free.At, List.length_cons, List.length_nil, Nat.reduceAdd, List.getElem?_cons_succ, List.getElem?_cons_zero, true_and] at hV
  simp only [Free.putsFrom, Act.put, hV, List.setIfInBounds_toArray, List.set_cons_succ, List.set_cons_zero]
  obtain ⟨v5, ho5, hc5⟩ : Pair2 (w.heap.size + 1) (w.heap.size + 1 + 1) 24 47 3 (.int .i64 h) xs.length (cellsR xs) w' := hV.2
  have q0 := cell_of_heap (o := 0) hc5 rfl
  have q1 := cell_of_heap (o := 1) hc5 rfl
  have HBE := Lib.hid (hF w' hR).2.2.1
  have HO := Lib.hid (row_mono ho5 (show w.heap.size ≤ w.heap.size + 1 + 1 by omega))
  clear hR hV hF ho5 n0 n1 n2
  go_wp2_with fail
  exact bodyPost_ret (v := .agg #[.int .i64 h, v5]) (by simp [results, Tryd.results19, go_sem, q0, q1]) rfl ⟨v5, rfl, HO.out, HBE.out⟩
end Go.Proofs.YtknpglgpkkhhiaaDoor

/- An append to a row of one's own: what else stays, and where the row lies behind it. -/
namespace Go.Proofs.YtknpglgpkkhhiaaDoor
set_option linter.unusedSimpArgs false
set_option linter.unusedVariables false
open Go.RowKit Go.Proofs.YtknpglgpkkhhiaaDoor.Free2

/-- The slice does not lie in this block. -/
def Off (v : Value) (b : Nat) : Prop := v.ownBlock ≠ some b
/-- All blocks that the row does not lie in stay, and it still does not. -/
structure RowK (v : Value) (a : World) (v' : Value) (b : World) : Prop where
  os : b.os = a.os
  tape : b.tape = a.tape
  output : b.output = a.output
  size : a.heap.size ≤ b.heap.size
  keep : ∀ k, k < a.heap.size → Off v k → Off v' k ∧ b.heap[k]? = a.heap[k]?
section
variable {v v' v'' : Value} {a b c : World} {base n size : Nat} {e : TypeId} {xs : List Value}
theorem RowK.refl (v : Value) (a : World) : RowK v a v a := ⟨rfl, rfl, rfl, Nat.le_refl _, fun _ _ h => ⟨h, rfl⟩⟩
theorem RowK.trans (h : RowK v a v' b) (k : RowK v' b v'' c) : RowK v a v'' c :=
  ⟨k.os.trans h.os, k.tape.trans h.tape, k.output.trans h.output, Nat.le_trans h.size k.size, fun i hi ho =>
    let ⟨h1, h2⟩ := h.keep i hi ho; let ⟨h3, h4⟩ := k.keep i (Nat.lt_of_lt_of_le hi h.size) h1; ⟨h3, h4.trans h2⟩⟩
theorem RowK.of_bel (h : Free.Bel a b) : RowK v a v b := ⟨h.os, h.tape, h.output, h.size, fun k hk ho => ⟨ho, h.block k hk⟩⟩
theorem RowK.bel (h : RowK v a v' b) (k : Free.Bel b c) : RowK v a v' c := h.trans (.of_bel k)
theorem off_base (h : a.ownsRow base e size v n xs) {k : Nat} (hk : k < base) : Off v k := by
  intro he
  rcases h.2 with ⟨rfl, _⟩ | ⟨g, cap, cur, rfl, hb, _⟩
  · simp [Value.ownBlock] at he
  · simp [Value.ownBlock] at he; omega
theorem off_new (h : a.ownsRow base e size v n xs) {k : Nat} (hk : a.heap.size ≤ k) : Off v k := by
  intro he
  rcases h.2 with ⟨rfl, _⟩ | ⟨g, cap, cur, rfl, hb, hg, _⟩
  · simp [Value.ownBlock] at he
  · have := lt_of_heap hg
    simp [Value.ownBlock] at he; omega
theorem RowK.below (h : RowK v a v' b) (ho : a.ownsRow base e size v n xs) (hb : base ≤ a.heap.size) : Below base a b :=
  ⟨h.os, h.tape, h.output, h.size, fun k hk => (h.keep k (by omega) (off_base ho hk)).2⟩
theorem RowK.heap {o : Obj} {k : Nat} (h : RowK v a v' b) (ho : Off v k) (hk : a.heap[k]? = some o) : b.heap[k]? = some o := (h.keep k (lt_of_heap hk) ho).2.trans hk
theorem RowK.cell (h : RowK v a v' b) {p : Addr} {u : Value} (ho : Off v p.block) (hc : a.cell? p = some u) : b.cell? p = some u :=
  (World.cell?_of_block (h.keep _ (lt_of_cell hc) ho).2).trans hc
theorem RowK.off (h : RowK v a v' b) {k : Nat} (ho : Off v k) (hk : k < a.heap.size) : Off v' k := (h.keep k hk ho).1
end

section
variable {P : Program}
theorem run_append_row (w : World) (base : Nat) (t ty e : TypeId) (i : TypeInfo) (z : Value) (size bytes : Nat) (ht : P.underlying t = some (.slice e)) (hi : P.info? e = some i) (hz : i.zero = some z)
    (hsize : i.size = size) (hby : i.bytes = bytes) (hzs : z.cells.size = size) (hsz : 0 < size)
    (v : Value) (n : Nat) (xs : List Value) (hown : w.ownsRow base e size v n xs)
    (ad : Addr) (m c : Nat) (news : List Value) (hm : 0 < m) (hl : news.length = m * size) (hnews : ∀ j u, news[j]? = some u → w.cell? (ad.add j) = some u) (h1 : ∀ u ∈ news, u.oneCell' = true)
    (h63 : n + m ≤ maxLen) (hbytes : (n + m) * bytes ≤ 140737488355328) (hbase : base ≤ w.heap.size) :
    ∃ v' w', (Builtin.append_ #[t, t] ty #[v, .slice (some ad) m c]).run P w = .ok v' w' ∧ w'.ownsRow base e size v' (n + m) (xs ++ news) ∧ RowK v w v' w' := by
  subst hsize
  subst hby
  have hsmall : n + m ≤ 9223372036854775807 := by simp only [maxLen] at h63; omega
  rcases hown.2 with ⟨rfl, rfl⟩ | ⟨g, cap, cur, rfl, hbg, hg, hnc, hcm, hcs, htake⟩
  · have hx : xs = [] := List.eq_nil_of_length_eq_zero (by simpa using hown.1)
    subst hx
    have hge := grownCap_ge w m 0 e
    refine ⟨_, _, run_append_nil (P := P) w t ty e i z ht hi hz ad m c news hl hnews hm (by omega) (by have := hbytes; rw [Nat.zero_add] at this; omega), ⟨by simpa using hl, .inr ⟨w.heap.size, _, _, by rw [Nat.zero_add], hbase, heap_alloc_new w.drew _, by omega, grownCap_le_maxLen w m 0 e (by omega), ?_, ?_⟩⟩, ?_⟩
    · simp only [Array.size_append, List.size_toArray, size_zeroCells, hzs, hl, ← Nat.add_mul]
      congr 1
      omega
    · simp only [Array.toList_append, List.nil_append, Nat.zero_add]
      rw [← hl]
      exact List.take_left
    · refine ⟨rfl, rfl, rfl, by simp, fun k hk ho => ⟨by simp [Off, Value.ownBlock]; omega, Below.heap_alloc w.drew _ k hk⟩⟩
  · by_cases hroom : n + m ≤ cap
    · have hfit : n * i.size + news.length ≤ cur.size := by rw [hl, hcs, ← Nat.add_mul]; exact Nat.mul_le_mul_right _ hroom
      obtain ⟨w', hr, h2, h3⟩ := run_append_fits (P := P) w base t ty e i i.size ht hi rfl g n cap xs hown ad m c news hl hnews h1 hroom
      exact ⟨_, w', hr, h2, ⟨h3.os, h3.tape, h3.output, h3.size, fun k hk ho => ⟨by simpa [Off, Value.ownBlock] using ho, h3.block k hk (by simpa [Off, Value.ownBlock, eq_comm] using ho)⟩⟩⟩
    · have hge := grownCap_ge w (n + m) cap e
      have hlx : xs.length = n * i.size := hown.1
      refine ⟨_, _, run_append_grow (P := P) w t ty e i z ht hi hz ⟨g, 0, none⟩ n cap xs hlx (hown.cells (g := g) rfl) ad m c news hl hnews (by omega) (by omega) (growslice_fits (by omega) hbytes),
        ⟨by simp [hlx, hl, Nat.add_mul], .inr ⟨w.heap.size, _, _, rfl, hbase, heap_alloc_new w.drew _, hge, grownCap_le_maxLen w (n + m) cap e h63, ?_, ?_⟩⟩, ?_⟩
      · simp only [Array.size_append, List.size_toArray, size_zeroCells, hzs, hl, hlx, ← Nat.add_mul]
        congr 1
        omega
      · simp only [Array.toList_append, List.append_assoc]
        rw [← List.append_assoc, show (n + m) * i.size = (xs ++ news).length by simp [hlx, hl, Nat.add_mul]]
        exact List.take_left
      · refine ⟨rfl, rfl, rfl, by simp, fun k hk ho => ⟨by simp [Off, Value.ownBlock]; omega, Below.heap_alloc w.drew _ k hk⟩⟩
end
end Go.Proofs.YtknpglgpkkhhiaaDoor

/- States: arrays of four numbers; what the ricks have waited. -/
namespace Go.Proofs.YtknpglgpkkhhiaaDoor
set_option linter.unusedSimpArgs false
set_option linter.unusedVariables false
open Go.RowKit

/-- The cells of a state. -/
abbrev arrV (S : Nat → Int) : Array Value := #[.int .i64 (S 0), .int .i64 (S 1), .int .i64 (S 2), .int .i64 (S 3)]
abbrev stV (S : Nat → Int) : Value := .agg (arrV S)
/-- With one place turned. -/
def setN (S : Nat → Int) (k : Nat) (v : Int) : Nat → Int := fun i => if i = k then v else S i
theorem arrV_set (S : Nat → Int) (k : Nat) (v : Int) : (arrV S).setIfInBounds k (.int .i64 v) = arrV (setN S k v) := by
  match k with
  | 0 => simp [arrV, setN]
  | 1 => simp [arrV, setN]
  | 2 => simp [arrV, setN]
  | 3 => simp [arrV, setN]
  | k + 4 => simp [arrV, setN, Array.setIfInBounds]
theorem arrV_get (S : Nat → Int) (k : Nat) (h : k < 4) : (arrV S)[k]? = some (.int .i64 (S k)) := by
  match k, h with
  | 0, _ => simp [arrV]
  | 1, _ => simp [arrV]
  | 2, _ => simp [arrV]
  | 3, _ => simp [arrV]
abbrev arrB (T : Nat → Bool) : Array Value := #[.bool (T 0), .bool (T 1), .bool (T 2), .bool (T 3)]
abbrev stB (T : Nat → Bool) : Value := .agg (arrB T)
def setB (S : Nat → Bool) (k : Nat) (v : Bool) : Nat → Bool := fun i => if i = k then v else S i
theorem arrB_set (S : Nat → Bool) (k : Nat) (v : Bool) : (arrB S).setIfInBounds k (.bool v) = arrB (setB S k v) := by
  match k with
  | 0 => simp [arrB, setB]
  | 1 => simp [arrB, setB]
  | 2 => simp [arrB, setB]
  | 3 => simp [arrB, setB]
  | k + 4 => simp [arrB, setB, Array.setIfInBounds]
theorem arrB_get (S : Nat → Bool) (k : Nat) (h : k < 4) : (arrB S)[k]? = some (.bool (S k)) := by
  match k, h with
  | 0, _ => simp [arrB]
  | 1, _ => simp [arrB]
  | 2, _ => simp [arrB]
  | 3, _ => simp [arrB]
/-- What the ricks have waited, by their places. -/
def waits (xs : List Rk) (i : Nat) : Int := ((xs[i]?).map (·.2.2)).getD 0
theorem waits_lt (xs : List Rk) (i : Nat) (h : i < xs.length) : waits xs i = xs[i].2.2 := by simp [waits, h]
theorem waits_ge (xs : List Rk) (i : Nat) (h : xs.length ≤ i) : waits xs i = 0 := by simp [waits, List.getElem?_eq_none h]

theorem setN_fill (F : Nat → Int) (k : Nat) : setN (fun i => if i < k then F i else 0) k (F k) = fun i => if i < k + 1 then F i else 0 := by
  funext i
  unfold setN
  by_cases h : i = k
  · subst h; simp
  · simp only [if_neg h]
    by_cases h2 : i < k
    · rw [if_pos h2, if_pos (by omega)]
    · rw [if_neg h2, if_neg (by omega)]
section
variable {w : World} {b : Nat} {t : TypeId} {c : Array Value}
theorem heap_setN {S : Nat → Int} (h : w.heap[b]? = some (.cells (arrV S) t (0, 0))) (k : Nat) (v : Int) : (w.setCell ⟨b, k, none⟩ (.int .i64 v)).heap[b]? = some (.cells (arrV (setN S k v)) t (0, 0)) := by
  rw [← arrV_set]; exact heap_setCell_same _ h
theorem four_heap {a0 a1 a2 a3 x0 x1 x2 x3 : Value} (h : w.heap[b]? = some (.cells #[a0, a1, a2, a3] t (0, 0))) : ((((w.setCell ⟨b, 0, none⟩ x0).setCell ⟨b, 1, none⟩ x1).setCell ⟨b, 2, none⟩ x2).setCell ⟨b, 3, none⟩ x3).heap[b]? = some (.cells #[x0, x1, x2, x3] t (0, 0)) := by
  have := heap_setCell_same (o := 3) x3 (heap_setCell_same (o := 2) x2 (heap_setCell_same (o := 1) x1 (heap_setCell_same (o := 0) x0 h)))
  simpa using this
theorem four_stores {a0 a1 a2 a3 x0 x1 x2 x3 : Value} (h : w.heap[b]? = some (.cells #[a0, a1, a2, a3] t (0, 0))) :
    let W := (((w.setCell ⟨b, 0, none⟩ x0).setCell ⟨b, 1, none⟩ x1).setCell ⟨b, 2, none⟩ x2).setCell ⟨b, 3, none⟩ x3
    W.cell? ⟨b, 0, none⟩ = some x0 ∧ W.cell? ⟨b, 1, none⟩ = some x1 ∧ W.cell? ⟨b, 2, none⟩ = some x2 ∧ W.cell? ⟨b, 3, none⟩ = some x3 :=
  ⟨cell_of_heap (four_heap h) rfl, cell_of_heap (four_heap h) rfl, cell_of_heap (four_heap h) rfl, cell_of_heap (four_heap h) rfl⟩
theorem frozB {w' : World} (h : Free.Bel w w') {p : Addr} {v : Value} (hv : w.cell? p = some v) (hf : w.frozen? p = false) : w'.frozen? p = false := (h.frozen (lt_of_cell hv)).trans hf
theorem heap_old {o : Obj} {q : Obj} (h : w.heap[b]? = some q) : (w.alloc o).heap[b]? = some q := (Below.heap_alloc _ _ _ (lt_of_heap h)).trans h
theorem heap_other {p : Addr} {v : Value} {q : Obj} (h : w.heap[b]? = some q) (hn : b ≠ p.block) : (w.setCell p v).heap[b]? = some q := (Below.heap_setCell _ _ _ _ hn).trans h
theorem cells4 {a0 a1 a2 a3 : Value} (h : w.heap[b]? = some (.cells #[a0, a1, a2, a3] t (0, 0))) : w.cell? ⟨b, 0, none⟩ = some a0 ∧ w.cell? ⟨b, 1, none⟩ = some a1 ∧ w.cell? ⟨b, 2, none⟩ = some a2 ∧ w.cell? ⟨b, 3, none⟩ = some a3 ∧ w.frozen? ⟨b, 0, none⟩ = false ∧ w.frozen? ⟨b, 1, none⟩ = false ∧ w.frozen? ⟨b, 2, none⟩ = false ∧ w.frozen? ⟨b, 3, none⟩ = false :=
  ⟨cell_of_heap h rfl, cell_of_heap h rfl, cell_of_heap h rfl, cell_of_heap h rfl, frozen_of_heap h, frozen_of_heap h, frozen_of_heap h, frozen_of_heap h⟩
end

set_option maxRecDepth 100000 in
set_option maxHeartbeats 2000000 in
theorem now_any (yb : Nat) (xs : List Rk) (u : Value) (w : World) (hy : w.cell? ⟨yb, 1, none⟩ = some u) (hu : RL xs u w) (h4 : xs.length ≤ 4) :
    Calls Tryd.prog 92 #[.pointer (some ⟨yb, 0, none⟩)] w fun e w' => e = .returned (stV (waits xs)) ∧ Below w.heap.size w w' := by
  obtain ⟨p, cp, rfl, hm, hp⟩ := hu
  unfold maxLen at hm
  have HP := Lib.hid hp
  clear hp
  have hz0 : Free.Bel w ((w.alloc (.cells #[.int .i64 0, .int .i64 0, .int .i64 0, .int .i64 0] 109)).alloc (.cells #[.int .i64 0, .int .i64 0, .int .i64 0, .int .i64 0] 109)) := Bel.allocT (Bel.allocT (Free.Bel.refl _) _) _
  have n0 := keepsB hz0 hy
  clear hy
  go_enter Tryd.func92, Tryd.ntmps92
  go_wp2_with fail
  have m0 : ((w.alloc (.cells #[.int .i64 0, .int .i64 0, .int .i64 0, .int .i64 0] 109)).alloc (.cells #[.int .i64 0, .int .i64 0, .int .i64 0, .int .i64 0] 109)).heap[w.heap.size]? = some (.cells (arrV fun _ => 0) 109 (0, 0)) := (Below.heap_alloc _ _ _ (by simp)).trans (World.alloc_heap_new w _)
  have m1 : ((w.alloc (.cells #[.int .i64 0, .int .i64 0, .int .i64 0, .int .i64 0] 109)).alloc (.cells #[.int .i64 0, .int .i64 0, .int .i64 0, .int .i64 0] 109)).heap[w.heap.size + 1]? = some (.cells (arrV fun _ => 0) 109 (0, 0)) := by
    have := World.alloc_heap_new (w.alloc (.cells #[.int .i64 0, .int .i64 0, .int .i64 0, .int .i64 0] 109)) (.cells #[.int .i64 0, .int .i64 0, .int .i64 0, .int .i64 0] 109)
    simpa using this
  have hs1 : ((w.alloc (.cells #[.int .i64 0, .int .i64 0, .int .i64 0, .int .i64 0] 109)).alloc (.cells #[.int .i64 0, .int .i64 0, .int .i64 0, .int .i64 0] 109)).heap.size = w.heap.size + 1 + 1 := by simp
  have HB1 := Lib.hid hz0
  have HM := Lib.hid (And.intro m0 (And.intro m1 hs1))
  clear hz0 m0 m1 hs1 n0
  generalize ((w.alloc (.cells #[.int .i64 0, .int .i64 0, .int .i64 0, .int .i64 0] 109)).alloc (.cells #[.int .i64 0, .int .i64 0, .int .i64 0, .int .i64 0] 109)) = w1 at *
  go_loopw [12, 4] (fun i _ wr => ∃ k : Nat, k ≤ xs.length ∧ i = .int .i64 k ∧ Below w.heap.size w wr ∧ w.heap.size + 1 + 1 ≤ wr.heap.size ∧ wr.heap[w.heap.size]? = some (.cells (arrV fun _ => 0) 109 (0, 0)) ∧ wr.heap[w.heap.size + 1]? = some (.cells (arrV fun i => if i < k then waits xs i else 0) 109 (0, 0))) (fun i _ _ => xs.length - (intOf i).toNat)
  case atStart => exact ⟨0, Nat.zero_le _, rfl, HB1.out, Nat.le_of_eq HM.out.2.2.symm, HM.out.1, HM.out.2.1⟩
  case round =>
    obtain ⟨k, hk, rfl, hB, hs, hz1, hz2⟩ := hrel
    have HZ1 := Lib.hid hz1
    have HZ2 := Lib.hid hz2
    by_cases hlt : k < xs.length
    · have hx : xs ≠ [] := by intro e; simp [e] at hlt
      obtain ⟨b, off, rfl, hcp⟩ := HP.out hx
      obtain ⟨d1, d2, d3⟩ := hcp k hlt
      have e1 := keepsB hB d1
      have e2 := keepsB hB d2
      have e3 := keepsB hB d3
      have hklt : (k : Int) < xs.length := by omega
      have hk4 : (k : Int) < 4 := by omega
      have hk5 : k < 4 := by omega
      have HWT := Lib.hid (waits_lt xs k hlt)
      have q0 := cell_of_heap (o := k) HZ2.out (arrV_get _ k (by omega))
      have q1 := frozen_of_heap (o := k) HZ2.out
      clear hcp hx d1 d2 d3 hz1 hz2
      generalize xs[k] = x at *
      obtain ⟨x1, x2, x3⟩ := x
      have KA : Free.Bel wr (wr.alloc (.cells #[.int .i64 x1, .int .i64 x2, .int .i64 x3] 47)) := belAlloc _ _
      have q2 := keepsB KA q0
      have q3 := frozB KA q0 q1
      go_wp2_with fail
      go_roundw
      case rel => exact ⟨k + 1, by omega, by go_num, (hB.trans (KA.mono hB.size)).setCell (by simp) _, by simp; omega, heap_other (heap_old HZ1.out) (by simp), by
        have h9 := heap_setN (heap_old (o := .cells #[.int .i64 x1, .int .i64 x2, .int .i64 x3] 47) HZ2.out) k x3
        rw [show x3 = waits xs k from HWT.out.symm, setN_fill] at h9
        rw [show x3 = waits xs k from HWT.out.symm]
        exact h9⟩
      case measure => simp [intOf]; omega
    · obtain rfl : k = xs.length := by omega
      have hfin : (fun i => if i < xs.length then waits xs i else 0) = waits xs := by
        funext i
        split
        · rfl
        · rw [waits_ge _ _ (by omega)]
      rw [hfin] at hz2
      obtain ⟨a0, a1, a2, a3, f0, f1, f2, f3⟩ := cells4 hz1
      obtain ⟨g0, g1, g2, g3, _, _, _, _⟩ := cells4 hz2
      clear hfin hz1 hz2
      go_wp2_with fail
      have hcell := four_stores (x0 := .int .i64 (waits xs 0)) (x1 := .int .i64 (waits xs 1)) (x2 := .int .i64 (waits xs 2)) (x3 := .int .i64 (waits xs 3)) HZ1.out
      exact bodyPost_ret (v := stV (waits xs)) (by simp [results, Tryd.results92, go_sem, hcell]) rfl ⟨rfl, (((hB.setCell (by simp) _).setCell (by simp) _).setCell (by simp) _).setCell (by simp) _⟩
end Go.Proofs.YtknpglgpkkhhiaaDoor

/- What the ricks have waited behind a day, and which become hot. -/
namespace Go.Proofs.YtknpglgpkkhhiaaDoor
set_option linter.unusedSimpArgs false
set_option linter.unusedVariables false
open Go.RowKit

/-- Behind a day: the first n places. -/
def nextS (S : Nat → Int) (Tn : Nat → Bool) (n : Nat) : Nat → Int := fun i => if i < n then (if Tn i = true then 0 else S i + 1) else S i
/-- The places that are hot. -/
def hotL (S : Nat → Int) (xs : List Rk) : Nat → List Int
  | 0 => []
  | k + 1 => if S k = ((xs[k]?).map (·.2.1)).getD 0 then hotL S xs k ++ [(k : Int)] else hotL S xs k
theorem hotL_length (S : Nat → Int) (xs : List Rk) : ∀ k, (hotL S xs k).length ≤ k
  | 0 => Nat.le_refl _
  | k + 1 => by
    have := hotL_length S xs k
    rw [hotL]; split
    · simp; omega
    · omega
theorem hotL_congr {S S' : Nat → Int} {xs : List Rk} : ∀ k, (∀ i, i < k → S i = S' i) → hotL S xs k = hotL S' xs k
  | 0, _ => rfl
  | k + 1, h => by rw [hotL, hotL, hotL_congr k fun i hi => h i (by omega), h k (by omega)]
theorem nextS_step (S : Nat → Int) (Tn : Nat → Bool) (k : Nat) : setN (nextS S Tn k) k (if Tn k = true then 0 else S k + 1) = nextS S Tn (k + 1) := by
  funext i
  unfold setN nextS
  by_cases h : i = k
  · subst h; simp
  · simp only [if_neg h]
    by_cases h2 : i < k
    · simp [h2, Nat.lt_succ_of_lt h2]
    · simp [h2, show ¬ i < k + 1 by omega]
theorem setN_set (S : Nat → Int) (k : Nat) (u v : Int) : setN (setN S k u) k v = setN S k v := by
  funext i; unfold setN; split <;> rfl
structure AfI (s0 : Nat) (S : Nat → Int) (Tn : Nat → Bool) (v : Value) (al : List Int) (W : World) : Prop where
  s : W.heap[s0]? = some (.cells (arrV S) 109 (0, 0))
  t : W.heap[s0 + 1]? = some (.cells (arrB Tn) 149 (0, 0))
  z : W.heap[s0 + 1 + 1]? = some (.cells (arrV fun _ => 0) 109 (0, 0))
  own : W.ownsRow (s0 + 1 + 1 + 1) 3 1 v al.length (al.map (Value.int .i64))
section
variable {s0 : Nat} {S : Nat → Int} {Tn : Nat → Bool} {v : Value} {al : List Int} {W W' : World}
theorem AfI.bel (h : AfI s0 S Tn v al W) (hB : Below W.heap.size W W') : AfI s0 S Tn v al W' :=
  ⟨(hB.block _ (lt_of_heap h.s)).trans h.s, (hB.block _ (lt_of_heap h.t)).trans h.t, (hB.block _ (lt_of_heap h.z)).trans h.z, bel_row h.own hB⟩
theorem AfI.set (h : AfI s0 S Tn v al W) (k : Nat) (x : Int) : AfI s0 (setN S k x) Tn v al (W.setCell ⟨s0, k, none⟩ (.int .i64 x)) :=
  ⟨heap_setN h.s k x, heap_other h.t (by simp), heap_other h.z (by simp; omega), ownsRow_setCell_below h.own (by simp; omega) _⟩
end

set_option maxRecDepth 100000 in
set_option maxHeartbeats 4000000 in
theorem after_any (yb : Nat) (xs : List Rk) (S : Nat → Int) (Tn : Nat → Bool) (u : Value) (w : World) (hy : w.cell? ⟨yb, 1, none⟩ = some u) (hu : RL xs u w) (h4 : xs.length ≤ 4) (hS : ∀ i, 0 ≤ S i ∧ S i ≤ 1000000) :
    Calls Tryd.prog 96 #[.pointer (some ⟨yb, 0, none⟩), stV S, stB Tn] w fun e w' => (∃ v, e = .returned (.tuple #[stV (nextS S Tn xs.length), v]) ∧ w'.ownsRow w.heap.size 3 1 v (hotL (nextS S Tn xs.length) xs xs.length).length ((hotL (nextS S Tn xs.length) xs xs.length).map (Value.int .i64))) ∧ Below w.heap.size w w' := by
  obtain ⟨p, cp, rfl, hm, hp⟩ := hu
  unfold maxLen at hm
  have HP := Lib.hid hp
  clear hp
  obtain ⟨i0, hi0, hz0, hz1, hz2⟩ := info_parts T.infoInt
  have HZ := Lib.hid (And.intro hi0 (And.intro hz0 (And.intro hz1 hz2)))
  clear hi0 hz0 hz1 hz2
  have hb0 : Free.Bel w (((w.alloc (.cells (arrV S) 109)).alloc (.cells (arrB Tn) 149)).alloc (.cells #[.int .i64 0, .int .i64 0, .int .i64 0, .int .i64 0] 109)) := Bel.allocT (Bel.allocT (Bel.allocT (Free.Bel.refl _) _) _) _
  have n0 := keepsB hb0 hy
  clear hy
  go_enter Tryd.func96, Tryd.ntmps96
  go_wp2_with fail
  have m0 : (((w.alloc (.cells (arrV S) 109)).alloc (.cells (arrB Tn) 149)).alloc (.cells #[.int .i64 0, .int .i64 0, .int .i64 0, .int .i64 0] 109)).heap[w.heap.size]? = some (.cells (arrV S) 109 (0, 0)) := heap_old (heap_old (World.alloc_heap_new w _))
  have m1 : (((w.alloc (.cells (arrV S) 109)).alloc (.cells (arrB Tn) 149)).alloc (.cells #[.int .i64 0, .int .i64 0, .int .i64 0, .int .i64 0] 109)).heap[w.heap.size + 1]? = some (.cells (arrB Tn) 149 (0, 0)) := heap_old (by
    have := World.alloc_heap_new (w.alloc (.cells (arrV S) 109)) (.cells (arrB Tn) 149)
    simpa using this)
  have m2 : (((w.alloc (.cells (arrV S) 109)).alloc (.cells (arrB Tn) 149)).alloc (.cells #[.int .i64 0, .int .i64 0, .int .i64 0, .int .i64 0] 109)).heap[w.heap.size + 1 + 1]? = some (.cells (arrV fun _ => 0) 109 (0, 0)) := by
    have := World.alloc_heap_new ((w.alloc (.cells (arrV S) 109)).alloc (.cells (arrB Tn) 149)) (.cells (arrV fun _ => 0) 109)
    simpa using this
  have HI := Lib.hid (show AfI w.heap.size (nextS S Tn 0) Tn (.slice none 0 0) [] (((w.alloc (.cells (arrV S) 109)).alloc (.cells (arrB Tn) 149)).alloc (.cells #[.int .i64 0, .int .i64 0, .int .i64 0, .int .i64 0] 109)) from ⟨(show nextS S Tn 0 = S by funext i; simp [nextS]) ▸ m0, m1, m2, World.ownsRow_nil _ _ _ _⟩)
  have HB1 := Lib.hid hb0
  clear hb0 m0 m1 m2 n0
  generalize (((w.alloc (.cells (arrV S) 109)).alloc (.cells (arrB Tn) 149)).alloc (.cells #[.int .i64 0, .int .i64 0, .int .i64 0, .int .i64 0] 109)) = w1 at *
  go_loopw [17, 8] (fun i v wr => ∃ k : Nat, k ≤ xs.length ∧ i = .int .i64 k ∧ Below w.heap.size w wr ∧ AfI w.heap.size (nextS S Tn k) Tn v (hotL (nextS S Tn k) xs k) wr) (fun i _ _ => xs.length - (intOf i).toNat)
  case atStart => exact ⟨0, Nat.zero_le _, rfl, HB1.out, HI.out⟩
  case round =>
    obtain ⟨k, hk, rfl, hB, hI⟩ := hrel
    by_cases hlt : k < xs.length
    · have hx : xs ≠ [] := by intro e; simp [e] at hlt
      obtain ⟨b, off, rfl, hcp⟩ := HP.out hx
      obtain ⟨d1, d2, d3⟩ := hcp k hlt
      have e1 := keepsB hB d1
      have e2 := keepsB hB d2
      have e3 := keepsB hB d3
      have hklt : (k : Int) < xs.length := by omega
      have hk4 : (k : Int) < 4 := by omega
      have hk5 : k < 4 := by omega
      have HEV : Hid (((xs[k]?).map (·.2.1)).getD 0 = xs[k].2.1) := by show _ = _; simp [hlt]
      have hsk : nextS S Tn k k = S k := by simp [nextS]
      have q0 := cell_of_heap (o := k) hI.s (arrV_get _ k (by omega))
      rw [hsk] at q0
      have q1 := frozen_of_heap (o := k) hI.s
      have hwr : IntKind.i64.wrap (S k + 1) = S k + 1 := IntWalk.i64_in _ (by have := hS k; omega)
      have hszw : w.heap.size + 1 + 1 + 1 ≤ wr.heap.size := lt_of_heap hI.z
      clear hcp hx d1 d2 d3
      generalize xs[k] = x at *
      obtain ⟨x1, x2, x3⟩ := x
      have KA : Free.Bel wr (wr.alloc (.cells #[.int .i64 x1, .int .i64 x2, .int .i64 x3] 47)) := belAlloc _ _
      have q2 := keepsB KA q0
      have q3 := frozB KA q0 q1
      have hI2 := (hI.bel KA).set k (S k + 1)
      have r0 := cell_of_heap (o := k) hI2.t (arrB_get _ k (by omega))
      have r1 := frozen_of_heap (o := k) hI2.s
      have r2 := cell_of_heap (o := k) hI2.s (arrV_get _ k (by omega))
      have HBA := Lib.hid (hB.trans (KA.mono hB.size))
      have hx1 : (wr.alloc (.cells #[.int .i64 x1, .int .i64 x2, .int .i64 x3] 47)).cell? ⟨wr.heap.size, 1, none⟩ = some (.int .i64 x2) := by simp [go_sem]
      have HX1 := Lib.hid hx1
      have HII := Lib.hid hI2
      have hlb : Hid ((hotL (nextS S Tn k) xs k).length ≤ 4) := Nat.le_trans (hotL_length _ _ k) (by omega)
      have hcon : Hid (hotL (nextS S Tn (k + 1)) xs k = hotL (nextS S Tn k) xs k) := hotL_congr k fun i hi => by simp [nextS, hi, Nat.lt_succ_of_lt hi]
      have HSK := Lib.hid hsk
      generalize hal : hotL (nextS S Tn k) xs k = al at *
      have HAL := Lib.hid hal
      clear hI hI2 hx1 hsk hal q0 q1
      cases hT : Tn k
      · rw [hT] at r0
        have HT := Lib.hid hT
        clear hT
        go_wp2_with fail
        refine with_world ?_
        intro W6 hW6
        have H6 := HII.out
        rw [← hW6, show setN (nextS S Tn k) k (S k + 1) = nextS S Tn (k + 1) by rw [← nextS_step, if_neg (by rw [HT.out]; simp)]] at H6
        have hb6 : Below w.heap.size w W6 := by rw [hW6]; exact HBA.out.setCell (by simp) _
        have c6 : W6.cell? ⟨wr.heap.size, 1, none⟩ = some (.int .i64 x2) := by rw [hW6, World.cell?_setCell_other _ _ _ _ (by first | (simp; done) | (simp; omega))]; exact HX1.out
        have hnk : nextS S Tn (k + 1) k = S k + 1 := by simp [nextS, HT.out]
        have d0 := cell_of_heap (o := k) H6.s (arrV_get _ k (by omega))
        rw [hnk] at d0
        have HB6 := Lib.hid hb6
        have HH6 := Lib.hid H6
        have HNK := Lib.hid hnk
        clear hW6 r0 r1 r2 q2 q3 KA H6 hb6 hnk
        have hF : ∀ W, Free.Bel W6.drew W → W.cell? ⟨w.heap.size, k, none⟩ = some (.int .i64 (S k + 1)) ∧ W.cell? ⟨wr.heap.size, 1, none⟩ = some (.int .i64 x2) := fun W hW => ⟨keepsB (Free.Bel.first hW) d0, keepsB (Free.Bel.first hW) c6⟩
        refine Free.wp_free (R := Free.Bel) (by kernel_rfl) (by kernel_rfl) Free.Bel.refl Free.Bel.trans ?_
        refine Free.Chain.ex ?_ [] [9] (by kernel_rfl) (by kernel_rfl) rfl Free.Bel.refl ?_ ?_
        rotate_left 2
        simp only [an1, an2]
        refine Free.Chain.ex ?_ [(0, 32)] [4] (by kernel_rfl) (by kernel_rfl) rfl Free.Bel.refl ?_ ?_
        rotate_left 2
        simp only [an1, an2]
        refine Free.Chain.ex ?_ [(1, 33)] [] (by kernel_rfl) (by kernel_rfl) rfl Free.Bel.refl ?_ ?_
        rotate_left 2
        simp only [an1, an2]
        refine Free.Chain.ex ?_ [] [10] (by kernel_rfl) (by kernel_rfl) rfl Free.Bel.refl ?_ ?_
        rotate_left 2
        simp only [an1, an2]
        refine Free.Chain.ex ?_ [(3, 35)] [] (by kernel_rfl) (by kernel_rfl) rfl Free.Bel.refl ?_ ?_
        rotate_left 2
        simp only [an1, an2]
        refine Free.Chain.ex ?_ [(2, 34), (4, 36)] [] (by kernel_rfl) (by kernel_rfl) rfl Free.Bel.refl ?_ ?_
        rotate_left 2
        simp only [an1, an2]
        rotate_left
        iterate 6 (rotate_left; intro ev W hb hR hO hD; have hS := hF W hR; obtain ⟨hb1, hb2, hb3⟩ := hb; simp only [Free.AllDeps, Free.AllOuts, Free.At, al1, al2, al3, al4, al5, and_true] at hO hD; go_simp; rfl)
        intro ys w' hR hV
        simp only [Free.AllV, Free.At, List.length_cons, List.length_nil, Nat.reduceAdd, List.getElem?_cons_succ, List.getElem?_cons_zero, true_and] at hV
        simp only [Free.putsFrom, Act.put, Nat.zero_add, Nat.reduceAdd, hV, List.setIfInBounds_toArray, List.set_cons_succ, List.set_cons_zero]
        have HB7 := Lib.hid (Free.Bel.first hR)
        have hI7 := HH6.out.bel (Free.Bel.first hR)
        have how := hI7.own
        have hsz7 : w.heap.size + 1 + 1 + 1 ≤ w'.heap.size := lt_of_heap hI7.z
        have HI7 := Lib.hid hI7
        clear hR hV hF d0 c6 hI7
        by_cases hh : S k + 1 = x2
        · have k1 : ((S k + 1) == x2) = true := by simp [hh]
          have HEQ := Lib.hid hh
          have HL9 := hlb.out
          clear hh
          go_wp2_with (first | (at_builtin; go_loud (refine wpList_append_own _ rfl _ _ 58 rfl (w.heap.size + 1 + 1 + 1) 3 i0 (.int .i64 0) 1 8 Tryd.underlying58 HZ.out.1 HZ.out.2.1 HZ.out.2.2.1 HZ.out.2.2.2 rfl (by decide) _ _ _ rfl (how.alloc _) ⟨w'.heap.size, 0, none⟩ 1 1 [.int .i64 k] rfl rfl (cell_one_new _ _ _) (fun x hx => by simp at hx; subst hx; rfl) (by unfold maxLen; omega) (by omega) (by simp; omega) ?_); intro v9 w9 hown9 hgrow9 hnil9) | fail)
          have HG := Lib.hid (show Below (w.heap.size + 1 + 1 + 1) w' w9 from ((Below.refl _ w').alloc hsz7 _).trans (grown_belR (how.alloc _) hgrow9 (by simp; omega)))
          have HO9 := Lib.hid hown9
          clear hown9 hgrow9 hnil9
          go_roundw
          case rel => exact ⟨k + 1, by omega, by go_num, (HB6.out.trans (HB7.out.mono HB6.out.size)).trans (HG.out.mono (by omega)), by
            have hh9 : hotL (nextS S Tn (k + 1)) xs (k + 1) = al ++ [(k : Int)] := by rw [hotL, hcon.out, if_pos (by rw [HEV.out, HNK.out]; exact HEQ.out)]
            rw [hh9]
            exact ⟨(HG.out.block _ (by omega)).trans HI7.out.s, (HG.out.block _ (by omega)).trans HI7.out.t, (HG.out.block _ (by omega)).trans HI7.out.z, by simpa using HO9.out⟩⟩
          case measure => simp [intOf]; omega
        · have k1 : ((S k + 1) == x2) = false := by simp [hh]
          have HEQ := Lib.hid hh
          clear hh
          go_wp2_with fail
          go_roundw
          case rel => exact ⟨k + 1, by omega, by go_num, HB6.out.trans (HB7.out.mono HB6.out.size), by
            have hh9 : hotL (nextS S Tn (k + 1)) xs (k + 1) = al := by rw [hotL, hcon.out, if_neg (by rw [HEV.out, HNK.out]; exact HEQ.out)]
            rw [hh9]
            exact HI7.out⟩
          case measure => simp [intOf]; omega
      · rw [hT] at r0
        have HT := Lib.hid hT
        clear hT
        go_wp2_with fail
        refine with_world ?_
        intro W6 hW6
        have H6 := HII.out.set k 0
        rw [setN_set, ← hW6, show setN (nextS S Tn k) k 0 = nextS S Tn (k + 1) by rw [← nextS_step, if_pos HT.out]] at H6
        have hb6 : Below w.heap.size w W6 := by rw [hW6]; exact (HBA.out.setCell (by simp) _).setCell (by simp) _
        have c6 : W6.cell? ⟨wr.heap.size, 1, none⟩ = some (.int .i64 x2) := by rw [hW6, World.cell?_setCell_other _ _ _ _ (by first | (simp; done) | (simp; omega)), World.cell?_setCell_other _ _ _ _ (by first | (simp; done) | (simp; omega))]; exact HX1.out
        have hnk : nextS S Tn (k + 1) k = 0 := by simp [nextS, HT.out]
        have d0 := cell_of_heap (o := k) H6.s (arrV_get _ k (by omega))
        rw [hnk] at d0
        have HB6 := Lib.hid hb6
        have HH6 := Lib.hid H6
        have HNK := Lib.hid hnk
        clear hW6 r0 r1 r2 q2 q3 KA H6 hb6 hnk
        have hF : ∀ W, Free.Bel W6.drew W → W.cell? ⟨w.heap.size, k, none⟩ = some (.int .i64 (0)) ∧ W.cell? ⟨wr.heap.size, 1, none⟩ = some (.int .i64 x2) := fun W hW => ⟨keepsB (Free.Bel.first hW) d0, keepsB (Free.Bel.first hW) c6⟩
        refine Free.wp_free (R := Free.Bel) (by kernel_rfl) (by kernel_rfl) Free.Bel.refl Free.Bel.trans ?_
        refine Free.Chain.ex ?_ [] [9] (by kernel_rfl) (by kernel_rfl) rfl Free.Bel.refl ?_ ?_
        rotate_left 2
        simp only [an1, an2]
        refine Free.Chain.ex ?_ [(0, 32)] [4] (by kernel_rfl) (by kernel_rfl) rfl Free.Bel.refl ?_ ?_
        rotate_left 2
        simp only [an1, an2]
        refine Free.Chain.ex ?_ [(1, 33)] [] (by kernel_rfl) (by kernel_rfl) rfl Free.Bel.refl ?_ ?_
        rotate_left 2
        simp only [an1, an2]
        refine Free.Chain.ex ?_ [] [10] (by kernel_rfl) (by kernel_rfl) rfl Free.Bel.refl ?_ ?_
        rotate_left 2
        simp only [an1, an2]
        refine Free.Chain.ex ?_ [(3, 35)] [] (by kernel_rfl) (by kernel_rfl) rfl Free.Bel.refl ?_ ?_
        rotate_left 2
        simp only [an1, an2]
        refine Free.Chain.ex ?_ [(2, 34), (4, 36)] [] (by kernel_rfl) (by kernel_rfl) rfl Free.Bel.refl ?_ ?_
        rotate_left 2
        simp only [an1, an2]
        rotate_left
        iterate 6 (rotate_left; intro ev W hb hR hO hD; have hS := hF W hR; obtain ⟨hb1, hb2, hb3⟩ := hb; simp only [Free.AllDeps, Free.AllOuts, Free.At, al1, al2, al3, al4, al5, and_true] at hO hD; go_simp; rfl)
        intro ys w' hR hV
        simp only [Free.AllV, Free.At, List.length_cons, List.length_nil, Nat.reduceAdd, List.getElem?_cons_succ, List.getElem?_cons_zero, true_and] at hV
        simp only [Free.putsFrom, Act.put, Nat.zero_add, Nat.reduceAdd, hV, List.setIfInBounds_toArray, List.set_cons_succ, List.set_cons_zero]
        have HB7 := Lib.hid (Free.Bel.first hR)
        have hI7 := HH6.out.bel (Free.Bel.first hR)
        have how := hI7.own
        have hsz7 : w.heap.size + 1 + 1 + 1 ≤ w'.heap.size := lt_of_heap hI7.z
        have HI7 := Lib.hid hI7
        clear hR hV hF d0 c6 hI7
        by_cases hh : 0 = x2
        · have k1 : ((0) == x2) = true := by simp [hh]
          have HEQ := Lib.hid hh
          have HL9 := hlb.out
          clear hh
          go_wp2_with (first | (at_builtin; go_loud (refine wpList_append_own _ rfl _ _ 58 rfl (w.heap.size + 1 + 1 + 1) 3 i0 (.int .i64 0) 1 8 Tryd.underlying58 HZ.out.1 HZ.out.2.1 HZ.out.2.2.1 HZ.out.2.2.2 rfl (by decide) _ _ _ rfl (how.alloc _) ⟨w'.heap.size, 0, none⟩ 1 1 [.int .i64 k] rfl rfl (cell_one_new _ _ _) (fun x hx => by simp at hx; subst hx; rfl) (by unfold maxLen; omega) (by omega) (by simp; omega) ?_); intro v9 w9 hown9 hgrow9 hnil9) | fail)
          have HG := Lib.hid (show Below (w.heap.size + 1 + 1 + 1) w' w9 from ((Below.refl _ w').alloc hsz7 _).trans (grown_belR (how.alloc _) hgrow9 (by simp; omega)))
          have HO9 := Lib.hid hown9
          clear hown9 hgrow9 hnil9
          go_roundw
          case rel => exact ⟨k + 1, by omega, by go_num, (HB6.out.trans (HB7.out.mono HB6.out.size)).trans (HG.out.mono (by omega)), by
            have hh9 : hotL (nextS S Tn (k + 1)) xs (k + 1) = al ++ [(k : Int)] := by rw [hotL, hcon.out, if_pos (by rw [HEV.out, HNK.out]; exact HEQ.out)]
            rw [hh9]
            exact ⟨(HG.out.block _ (by omega)).trans HI7.out.s, (HG.out.block _ (by omega)).trans HI7.out.t, (HG.out.block _ (by omega)).trans HI7.out.z, by simpa using HO9.out⟩⟩
          case measure => simp [intOf]; omega
        · have k1 : ((0) == x2) = false := by simp [hh]
          have HEQ := Lib.hid hh
          clear hh
          go_wp2_with fail
          go_roundw
          case rel => exact ⟨k + 1, by omega, by go_num, HB6.out.trans (HB7.out.mono HB6.out.size), by
            have hh9 : hotL (nextS S Tn (k + 1)) xs (k + 1) = al := by rw [hotL, hcon.out, if_neg (by rw [HEV.out, HNK.out]; exact HEQ.out)]
            rw [hh9]
            exact HI7.out⟩
          case measure => simp [intOf]; omega
    · obtain rfl : k = xs.length := by omega
      obtain ⟨a0, a1, a2, a3, f0, f1, f2, f3⟩ := cells4 hI.z
      obtain ⟨g0, g1, g2, g3, _, _, _, _⟩ := cells4 hI.s
      have HII := Lib.hid hI
      have hlb : Hid ((hotL (nextS S Tn xs.length) xs xs.length).length ≤ 4) := Nat.le_trans (hotL_length _ _ _) (by omega)
      generalize hns : nextS S Tn xs.length = S9 at *
      clear hI
      go_wp2_with fail
      have hcell := four_stores (x0 := .int .i64 (S9 0)) (x1 := .int .i64 (S9 1)) (x2 := .int .i64 (S9 2)) (x3 := .int .i64 (S9 3)) HII.out.z
      have hrow := ownsRow_setCell_below (ownsRow_setCell_below (ownsRow_setCell_below (ownsRow_setCell_below HII.out.own (a := ⟨w.heap.size + 1 + 1, 0, none⟩) (by simp) (.int .i64 (S9 0))) (a := ⟨w.heap.size + 1 + 1, 1, none⟩) (by simp) (.int .i64 (S9 1))) (a := ⟨w.heap.size + 1 + 1, 2, none⟩) (by simp) (.int .i64 (S9 2))) (a := ⟨w.heap.size + 1 + 1, 3, none⟩) (by simp) (.int .i64 (S9 3))
      exact bodyPost_ret (v := .tuple #[stV S9, _]) (by simp [results, Tryd.results96, go_sem, hcell]) rfl ⟨⟨_, rfl, row_mono hrow (by omega)⟩, (((hB.setCell (by simp; omega) _).setCell (by simp; omega) _).setCell (by simp; omega) _).setCell (by simp; omega) _⟩
end Go.Proofs.YtknpglgpkkhhiaaDoor

/- Days that are played, day by day: what the program's states and lists are. -/
namespace Go.Proofs.YtknpglgpkkhhiaaDoor
set_option linter.unusedSimpArgs false
set_option linter.unusedVariables false
open Go.RowKit

theorem endR_append (xs : List Rk) (a b : List (List Int)) : endR xs (a ++ b) = endR (endR xs a) b := by
  induction a generalizing xs with
  | nil => rfl
  | cons d r ih => exact ih (dayR d xs)
theorem take_step {α : Type} (l : List α) (k : Nat) (h : k < l.length) : l.take (k + 1) = l.take k ++ [l[k]] := by
  rw [List.take_add_one, List.getElem?_eq_getElem h]; rfl
/-- Which places are turned. -/
def tset (xs : List Rk) (l : List Int) : Nat → Bool := fun i => match xs[i]? with | some x => l.contains x.1 | none => false
theorem tset_nil (xs : List Rk) : tset xs [] = fun _ => false := by
  funext i; unfold tset; cases xs[i]? <;> simp
theorem tset_ids {xs ys : List Rk} (h : xs.map (·.1) = ys.map (·.1)) (l : List Int) : tset xs l = tset ys l := by
  have e : ∀ zs : List Rk, tset zs l = fun i => match (zs.map (·.1))[i]? with | some j => l.contains j | none => false := fun zs => by
    funext i
    simp only [tset, List.getElem?_map]
    cases zs[i]? <;> rfl
  rw [e, e, h]
theorem waits_next (ys : List Rk) (day : List Int) : nextS (waits ys) (tset ys day) ys.length = waits (dayR day ys) := by
  funext i
  unfold nextS waits dayR tset
  by_cases h : i < ys.length
  · simp [h, turnW]
  · simp [h]
theorem hotL_map {xs zs : List Rk} (hi : ∀ i : Nat, (xs[i]?).map (fun x => (x.1, x.2.1)) = (zs[i]?).map (fun x => (x.1, x.2.1))) (d : Int) : ∀ m : Nat, m ≤ zs.length →
    (hotL (waits zs) xs m).map (fun i => (d, ((xs[i.toNat]?).map (·.1)).getD 0)) = hotR d (zs.take m)
  | 0, _ => rfl
  | m + 1, hm => by
    have hlt : m < zs.length := hm
    have hx := hi m
    rw [List.getElem?_eq_getElem hlt] at hx
    obtain ⟨x, hx1, hx2⟩ : ∃ x, xs[m]? = some x ∧ (x.1, x.2.1) = (zs[m].1, zs[m].2.1) := by
      cases h : xs[m]? with
      | none => simp [h] at hx
      | some x => rw [h] at hx; exact ⟨x, rfl, by simpa using hx⟩
    simp only [Prod.mk.injEq] at hx2
    have ih := hotL_map hi d m (by omega)
    rw [take_step zs m hlt, hotL, waits_lt zs m hlt, hx1]
    simp only [Option.map_some, Option.getD_some, hx2.2]
    rw [hotR, List.filter_append, List.map_append, ← hotR, ← ih]
    by_cases h : zs[m].2.2 = zs[m].2.1
    · simp [h, hx1, hx2.1]
    · simp [h]
end Go.Proofs.YtknpglgpkkhhiaaDoor

/- The reference's Done. -/
namespace Go.Proofs.YtknpglgpkkhhiaaDoor
set_option linter.unusedSimpArgs false
set_option linter.unusedVariables false
open Go.RowKit Go.Proofs.YtknpglgpkkhhiaaDoor.Free2

theorem belN (w : World) (n : Nat) : Free.Bel w (w.drewN n) := ⟨rfl, rfl, rfl, Nat.le_refl _, fun _ _ => rfl⟩
theorem cellsR_set (ys : List Rk) (k : Nat) (hk : k < ys.length) (v : Int) : (cellsR ys).set (k * 3 + 2) (.int .i64 v) = cellsR (ys.set k (ys[k].1, ys[k].2.1, v)) := by
  induction ys generalizing k with
  | nil => simp at hk
  | cons y r ih =>
    have e : ∀ (z : Rk) (l : List Rk), cellsR (z :: l) = .int .i64 z.1 :: .int .i64 z.2.1 :: .int .i64 z.2.2 :: cellsR l := fun z l => by simp [cellsR]
    cases k with
    | zero => simp [e]
    | succ k =>
      have := ih k (by simpa using hk)
      rw [e, show (k + 1) * 3 + 2 = (k * 3 + 2) + 1 + 1 + 1 by omega]
      simp only [List.set_cons_succ, List.getElem_cons_succ, e, this]
theorem rick_row {base g n cap : Nat} {ys : List Rk} {w : World} (h : w.ownsRow base 47 3 (.slice (some ⟨g, 0, none⟩) n cap) n (cellsR ys)) (hn : ys.length = n) (k : Nat) (hk : k < ys.length) :
    w.cell? ⟨g, k * 3, none⟩ = some (.int .i64 ys[k].1) ∧ w.cell? ⟨g, k * 3 + 1, none⟩ = some (.int .i64 ys[k].2.1) ∧ w.cell? ⟨g, k * 3 + 2, none⟩ = some (.int .i64 ys[k].2.2) ∧ w.frozen? ⟨g, k * 3 + 2, none⟩ = false := by
  obtain ⟨c1, c2, c3⟩ := cellsR_get ys k hk
  exact ⟨(h.cellAt _ (by omega)).trans c1, (h.cellAt _ (by omega)).trans c2, (h.cellAt _ (by omega)).trans c3, h.frozenAt _⟩
theorem rick_store {base g n cap : Nat} {ys : List Rk} {w : World} (h : w.ownsRow base 47 3 (.slice (some ⟨g, 0, none⟩) n cap) n (cellsR ys)) (k : Nat) (hk : k < ys.length) (v : Int) :
    (w.setCell ⟨g, k * 3 + 2, none⟩ (.int .i64 v)).ownsRow base 47 3 (.slice (some ⟨g, 0, none⟩) n cap) n (cellsR (ys.set k (ys[k].1, ys[k].2.1, v))) := by
  have := (h.stored (k * 3 + 2) (.int .i64 v)).1
  rw [cellsR_set ys k hk] at this
  exact this
/-- The first k ricks behind a day, the rest ahead of it. -/
def mixR (day : List Int) (xs : List Rk) (k : Nat) : List Rk := dayR day (xs.take k) ++ xs.drop k
theorem mixR_length (day : List Int) (xs : List Rk) (k : Nat) (h : k ≤ xs.length) : (mixR day xs k).length = xs.length := by simp [mixR, dayR]; omega
theorem mixR_get (day : List Int) (xs : List Rk) (k : Nat) (h : k < xs.length) (h' : k < (mixR day xs k).length) : (mixR day xs k)[k] = xs[k] := by
  have hm : min k xs.length = k := Nat.min_eq_left (Nat.le_of_lt h)
  simp [mixR, dayR, List.getElem_append, hm]
theorem mixR_step (day : List Int) (xs : List Rk) (k : Nat) (h : k < xs.length) : (mixR day xs k).set k (turnW day xs[k]) = mixR day xs (k + 1) := by
  unfold mixR
  rw [take_step xs k h, List.drop_eq_getElem_cons h]
  simp only [dayR, List.map_append, List.map_cons, List.map_nil, List.append_assoc, List.singleton_append]
  rw [List.set_append_right _ _ (by simp; omega)]
  have hm : min k xs.length = k := Nat.min_eq_left (Nat.le_of_lt h)
  rw [List.length_map, List.length_take, hm, Nat.sub_self]
  rfl
def coolB (xs : List Rk) : Bool := xs.all fun x => x.2.2 != x.2.1

set_option maxRecDepth 100000 in
set_option maxHeartbeats 16000000 in
theorem doneR_any (h : Int) (xs : List Rk) (day : List Int) (u v : Value) (w : World) (hu : RL xs u w) (hz : NZ u) (hv : IL day v w) (hn : xs.length ≤ 1000) (hb : ∀ x ∈ xs, 0 ≤ x.2.2 ∧ x.2.2 ≤ 1000000) :
    Calls Tryd.prog 62 #[.agg #[.int .i64 h, u], v] w fun e w' => (∃ v', e = .returned (.tuple #[.agg #[.int .i64 h, v'], .bool (coolB (dayR day xs))]) ∧ w'.ownsRow w.heap.size 47 3 v' xs.length (cellsR (dayR day xs))) ∧ Below w.heap.size w w' := by
  have HU := Lib.hid hu
  obtain ⟨p, cp, rfl, _, _⟩ := hu
  obtain ⟨q, cq, rfl, hm, hq⟩ := hv
  unfold maxLen at hm
  have HC := Lib.hid hq
  have HBD := Lib.hid hb
  clear hq hb
  have hb0 : Free.Bel w ((w.alloc (.cells #[.int .i64 h, .slice p xs.length cp] 24)).alloc (.cells #[.int .i64 0, .slice none 0 0] 24)) := Bel.allocT (Bel.allocT (Free.Bel.refl _) _) _
  have hs0 : ((w.alloc (.cells #[.int .i64 h, .slice p xs.length cp] 24)).alloc (.cells #[.int .i64 0, .slice none 0 0] 24)).heap.size = w.heap.size + 1 + 1 := by simp
  have m1 : ((w.alloc (.cells #[.int .i64 h, .slice p xs.length cp] 24)).alloc (.cells #[.int .i64 0, .slice none 0 0] 24)).heap[w.heap.size + 1]? = some (.cells #[.int .i64 0, .slice none 0 0] 24 (0, 0)) := by
    have := World.alloc_heap_new (w.alloc (.cells #[.int .i64 h, .slice p xs.length cp] 24)) (.cells #[.int .i64 0, .slice none 0 0] 24)
    simpa using this
  have HTW := Lib.hid (twin_any h xs _ ((w.alloc (.cells #[.int .i64 h, .slice p xs.length cp] 24)).alloc (.cells #[.int .i64 0, .slice none 0 0] 24)) (HU.out.keeps hb0) hz hn)
  have HM := Lib.hid (And.intro hb0 (And.intro hs0 m1))
  clear hb0 hs0 m1 hz
  go_enter Tryd.func62, Tryd.ntmps62
  go_wp2_with fail
  refine HTW.out.mono ?_
  rintro e w1 ⟨v1, rfl, hr1, hB1⟩
  obtain ⟨p1, c1, rfl⟩ := row_slice hr1
  go_wp2_with fail
  have hg0 : 0 < xs.length → ∃ g, p1 = some ⟨g, 0, none⟩ ∧ w.heap.size + 1 + 1 ≤ g ∧ g < w1.heap.size := by
    intro h9
    rcases hr1.2 with ⟨_, h8⟩ | ⟨g, cap, cur, h8, hb8, hg8, _⟩
    · omega
    · simp only [Value.slice.injEq] at h8
      exact ⟨g, h8.1, by rw [HM.out.2.1] at hb8; exact hb8, lt_of_heap hg8⟩
  have hi0 : ∀ o, o = w1.alloc (.cells #[.int .i64 h, .slice p1 xs.length c1] 24) → Below w.heap.size w o ∧ o.heap[w.heap.size + 1]? = some (.cells #[.int .i64 0, .slice none 0 0] 24 (0, 0)) ∧ o.heap[w1.heap.size]? = some (.cells #[.int .i64 h, .slice p1 xs.length c1] 24 (0, 0)) ∧ o.ownsRow (w.heap.size + 1 + 1) 47 3 (.slice p1 xs.length c1) xs.length (cellsR xs) := by
    intro o ho
    subst ho
    exact ⟨(bt HM.out.1 hB1).alloc (bt HM.out.1 hB1).size _, heap_old ((hB1.block _ (lt_of_heap HM.out.2.2)).trans HM.out.2.2), World.alloc_heap_new _ _, bel_row (row_mono hr1 (by rw [HM.out.2.1]; exact Nat.le_refl _)) (belAlloc _ _)⟩
  have hob : w.heap.size + 1 + 1 ≤ w1.heap.size := by have := hB1.size; rw [HM.out.2.1] at this; exact this
  obtain ⟨ob, hob0⟩ : ∃ x, w1.heap.size = x := ⟨_, rfl⟩
  rw [hob0] at hg0 hob
  have hi1 := hi0 _ rfl
  rw [hob0] at hi1 ⊢
  have HG := Lib.hid hg0
  have HI0 := Lib.hid hi1
  clear hg0 hi0 hi1 hr1 hB1 HTW HM hob0
  generalize w1.alloc _ = w2 at *
  go_loopw [8, 7] (fun i c wr => ∃ k : Nat, k ≤ xs.length ∧ i = .int .i64 k ∧ c = .bool (coolB (dayR day (xs.take k))) ∧ Below w.heap.size w wr ∧ wr.heap[w.heap.size + 1]? = some (.cells #[.int .i64 0, .slice none 0 0] 24 (0, 0)) ∧ wr.heap[ob]? = some (.cells #[.int .i64 h, .slice p1 xs.length c1] 24 (0, 0)) ∧ wr.ownsRow (w.heap.size + 1 + 1) 47 3 (.slice p1 xs.length c1) xs.length (cellsR (mixR day xs k))) (fun i _ _ => xs.length - (intOf i).toNat)
  case atStart => exact ⟨0, Nat.zero_le _, rfl, rfl, HI0.out.1, HI0.out.2.1, HI0.out.2.2.1, by simpa [mixR, dayR] using HI0.out.2.2.2⟩
  case round =>
    obtain ⟨k, hk, rfl, rfl, hB, hrz, hbx, hrow⟩ := hrel
    obtain ⟨wo, hwo⟩ : ∃ x, x = wr := ⟨_, rfl⟩
    subst hwo
    obtain ⟨q7, hq7⟩ : ∃ x, coolB (dayR day (xs.take k)) = x := ⟨_, rfl⟩
    rw [hq7]
    have HQ7 := Lib.hid hq7
    clear hq7
    have b1 := cell_of_heap (o := 1) hbx rfl
    have b0 := cell_of_heap (o := 0) hbx rfl
    by_cases hlt : k < xs.length
    · obtain ⟨g, rfl, hg1, hg2⟩ := HG.out (by omega)
      have hlm := mixR_length day xs k hk
      have hkm : k < (mixR day xs k).length := by omega
      have hgk := mixR_get day xs k hlt hkm
      obtain ⟨c0, c2, c3, c4⟩ := rick_row hrow hlm k hkm
      rw [hgk] at c0 c2 c3
      have hklt : (k : Int) < xs.length := by omega
      have hbd := HBD.out xs[k] (List.getElem_mem hlt)
      have hwrp : IntKind.i64.wrap (xs[k].2.2 + 1) = xs[k].2.2 + 1 := IntWalk.i64_in _ (by omega)
      have hst0 := rick_store hrow k hkm (xs[k].2.2 + 1)
      rw [hgk] at hst0
      have hnext : Hid ((mixR day xs k).set k (xs[k].1, xs[k].2.1, if day.contains xs[k].1 then 0 else xs[k].2.2 + 1) = mixR day xs (k + 1)) := mixR_step day xs k hlt
      have hcn : Hid (coolB (dayR day (xs.take (k + 1))) = (q7 && ((if day.contains xs[k].1 then 0 else xs[k].2.2 + 1) != xs[k].2.1))) := by
        show _ = _
        rw [← HQ7.out, take_step xs k hlt]
        simp only [coolB, dayR, List.map_append, List.all_append, List.map_cons, List.map_nil, List.all_cons, List.all_nil, Bool.and_true, turnW]
      have hkx : Hid (k < xs.length) := hlt
      obtain ⟨ys, hys⟩ : ∃ x, mixR day xs k = x := ⟨_, rfl⟩
      rw [hys] at hst0 hnext hlm hkm
      have HST0 := Lib.hid hst0
      have HB := Lib.hid hB
      have HRZ := Lib.hid hrz
      have HBX := Lib.hid hbx
      have HLM := Lib.hid hlm
      have hne : g ≠ ob := by omega
      clear hst0 hrow hB hrz hbx hgk hys hlm
      generalize hx1 : xs[k].1 = x1 at *
      generalize hx2 : xs[k].2.1 = x2 at *
      generalize hx3 : xs[k].2.2 = x3 at *
      clear hx1 hx2 hx3
      go_wp2_with fail
      have hs1 : ∀ o, o = wo.setCell ⟨g, k * 3 + 2, none⟩ (.int .i64 (x3 + 1)) → Below w.heap.size w o ∧ o.heap[w.heap.size + 1]? = some (.cells #[.int .i64 0, .slice none 0 0] 24 (0, 0)) ∧ o.heap[ob]? = some (.cells #[.int .i64 h, .slice (some ⟨g, 0, none⟩) xs.length c1] 24 (0, 0)) ∧ o.ownsRow (w.heap.size + 1 + 1) 47 3 (.slice (some ⟨g, 0, none⟩) xs.length c1) xs.length (cellsR (ys.set k (x1, x2, x3 + 1))) := by
        intro o ho
        subst ho
        exact ⟨HB.out.setCell (by simp; omega) _, heap_other HRZ.out (by simp; omega), heap_other HBX.out (by simp; omega), HST0.out⟩
      have hs2 := hs1 _ rfl
      have HS := Lib.hid hs2
      clear hs1 hs2 c0 c2 c3 c4 b0 b1 HST0
      generalize wo.setCell _ _ = wa at *
      go_loopw [31] (fun i wr => ∃ j : Nat, j ≤ day.length ∧ i = .int .i64 j ∧ Below w.heap.size w wr ∧ wr.heap[w.heap.size + 1]? = some (.cells #[.int .i64 0, .slice none 0 0] 24 (0, 0)) ∧ wr.heap[ob]? = some (.cells #[.int .i64 h, .slice (some ⟨g, 0, none⟩) xs.length c1] 24 (0, 0)) ∧ wr.ownsRow (w.heap.size + 1 + 1) 47 3 (.slice (some ⟨g, 0, none⟩) xs.length c1) xs.length (cellsR (ys.set k (x1, x2, if (day.take j).contains x1 then 0 else x3 + 1)))) (fun i _ => day.length - (intOf i).toNat)
      case atStart => exact ⟨0, Nat.zero_le _, rfl, HS.out.1, HS.out.2.1, HS.out.2.2.1, by simpa using HS.out.2.2.2⟩
      case round =>
        obtain ⟨j, hj, rfl, hB, hrz, hbx, hrow⟩ := hrel
        have b1 := cell_of_heap (o := 1) hbx rfl
        have b0 := cell_of_heap (o := 0) hbx rfl
        obtain ⟨c0, c2, c3, c4⟩ := rick_row hrow (by simp; exact HLM.out) k (by simpa using hkm)
        simp only [List.getElem_set_self] at c0 c2 c3
        by_cases hlt2 : j < day.length
        · obtain ⟨b, off, rfl, hcp⟩ := HC.out (by intro e; simp [e] at hlt2)
          have e1 := keepsB hB (hcp j hlt2)
          have hjlt : (j : Int) < day.length := by omega
          have htk : Hid (day.take (j + 1) = day.take j ++ [day[j]]) := take_step day j hlt2
          have hst1 := rick_store hrow k (by simpa using hkm) 0
          simp only [List.getElem_set_self, List.set_set] at hst1
          have HST1 := Lib.hid hst1
          have HROW := Lib.hid hrow
          have HB2 := Lib.hid hB
          have HRZ2 := Lib.hid hrz
          have HBX2 := Lib.hid hbx
          have hcpH := Lib.hid hcp
          clear hst1 hrow hcp hB hrz hbx
          generalize day[j] = a at *
          by_cases he : a = x1
          · have g0 : (a == x1) = true := by simp [he]
            have HE := Lib.hid he
            clear he
            go_wp2_with fail
            go_roundw
            case rel => exact ⟨j + 1, by omega, by go_num, HB2.out.setCell (by simp; omega) _, heap_other HRZ2.out (by simp; omega), heap_other HBX2.out (by simp; omega), by
              have h9 : (day.take (j + 1)).contains x1 = true := by rw [htk.out]; simp [HE.out]
              rw [h9]
              exact HST1.out⟩
            case measure => simp [intOf]; omega
          · have g0 : (a == x1) = false := by simp [he]
            have HE := Lib.hid he
            clear he
            go_wp2_with fail
            go_roundw
            case rel => exact ⟨j + 1, by omega, by go_num, HB2.out, HRZ2.out, HBX2.out, by
              have h9 : (day.take (j + 1)).contains x1 = (day.take j).contains x1 := by
                have := HE.out
                rw [htk.out]; simp [Ne.symm this]
              rw [h9]
              exact HROW.out⟩
            case measure => simp [intOf]; omega
        · obtain rfl : j = day.length := by omega
          rw [List.take_length] at c3 hrow
          obtain ⟨y3, hy3⟩ : ∃ y3, (if day.contains x1 then 0 else x3 + 1) = y3 := ⟨_, rfl⟩
          rw [hy3] at c3 hrow
          have HCN : Hid (coolB (dayR day (xs.take (k + 1))) = (q7 && (y3 != x2))) := by have := hcn.out; rw [hy3] at this; exact this
          have HNX : Hid (ys.set k (x1, x2, y3) = mixR day xs (k + 1)) := by have := hnext.out; rw [hy3] at this; exact this
          clear hy3 hcn hnext
          have HALL := Lib.hid (And.intro hB (And.intro hrz (And.intro hbx hrow)))
          clear hB hrz hrow
          cases q7
          · go_wp2_with fail
            go_quiet (fail)
            generalize hqe : World.drewN wr _ = w9 at *
            have K9 : Free.Bel wr w9 := by rw [← hqe]; exact belN _ _
            clear hqe
            have HB9 := Lib.hid (HALL.out.1.trans (K9.mono HALL.out.1.size))
            have HRZ9 := Lib.hid ((K9.block _ (lt_of_heap HALL.out.2.1)).trans HALL.out.2.1)
            have HBX9 := Lib.hid ((K9.block _ (lt_of_heap HALL.out.2.2.1)).trans HALL.out.2.2.1)
            have HROW9 := Lib.hid (bel_row HALL.out.2.2.2 K9)
            clear K9
            go_wp2_with fail
            go_roundw
            case rel => exact ⟨k + 1, by omega, by go_num, by rw [HCN.out]; rfl, HB9.out, HRZ9.out, HBX9.out, by rw [← HNX.out]; exact HROW9.out⟩
            case measure => simp [intOf]; omega
          · obtain ⟨q9, hq9⟩ : ∃ q9, (y3 != x2) = q9 := ⟨_, rfl⟩
            have HQ9 := Lib.hid hq9
            have k9 : (y3 == x2) = !q9 := by rw [← hq9]; simp [bne]
            go_wp2_with fail
            go_quiet (fail)
            generalize hqe : World.drewN wr _ = w9 at *
            have K9 : Free.Bel wr w9 := by rw [← hqe]; exact belN _ _
            clear hqe
            have HB9 := Lib.hid (HALL.out.1.trans (K9.mono HALL.out.1.size))
            have HRZ9 := Lib.hid ((K9.block _ (lt_of_heap HALL.out.2.1)).trans HALL.out.2.1)
            have HBX9 := Lib.hid ((K9.block _ (lt_of_heap HALL.out.2.2.1)).trans HALL.out.2.2.1)
            have HROW9 := Lib.hid (bel_row HALL.out.2.2.2 K9)
            clear K9
            go_wp2_with fail
            go_roundw
            case rel => exact ⟨k + 1, by omega, by go_num, by rw [HCN.out, HQ9.out]; simp, HB9.out, HRZ9.out, HBX9.out, by rw [← HNX.out]; exact HROW9.out⟩
            case measure => simp [intOf]; omega
    · obtain rfl : k = xs.length := by omega
      have hc1 : Hid (coolB (dayR day xs) = q7) := by have := HQ7.out; rw [List.take_length] at this; exact this
      have hr9 : mixR day xs xs.length = dayR day xs := by simp [mixR]
      rw [hr9] at hrow
      have z0 := cell_of_heap (o := 0) hrz rfl
      have z1 := cell_of_heap (o := 1) hrz rfl
      have z2 := frozen_of_heap (o := 0) hrz
      have z3 := frozen_of_heap (o := 1) hrz
      have HRZ := Lib.hid hrz
      have HROW := Lib.hid hrow
      clear hrow hrz hr9
      go_wp2_with fail
      have hst := two_stores (.int .i64 h) (.slice p1 xs.length c1) z0 z1
      exact bodyPost_ret (v := .tuple #[.agg #[.int .i64 h, .slice p1 xs.length c1], .bool q7]) (by simp [results, Tryd.results62, go_sem, hst]) rfl ⟨⟨_, by rw [hc1.out], row_mono (ownsRow_setCell_below (ownsRow_setCell_below HROW.out (by simp) _) (by simp) _) (by omega)⟩, (hB.setCell (by simp) _).setCell (by simp) _⟩
end Go.Proofs.YtknpglgpkkhhiaaDoor

/- For how long ricks can be kept cool: turnings in order, states, and what is good for so many days. -/
namespace Go.Proofs.YtknpglgpkkhhiaaDoor
set_option linter.unusedSimpArgs false
set_option linter.unusedVariables false

theorem rises_pairG : ∀ {xs : List Rk} {l : Int}, risesB l xs = true → (xs.map (·.1)).Pairwise (· < ·)
  | [], _, _ => .nil
  | y :: r, l, h => by
    have h' := h
    simp only [risesB, Bool.and_eq_true] at h'
    rw [List.map_cons, List.pairwise_cons]
    refine ⟨fun a ha => ?_, rises_pairG h'.2.2.2⟩
    obtain ⟨z, hz, rfl⟩ := List.mem_map.1 ha
    have h5 := h'.1
    have h6 := h'.2.1
    simp only [inB, List.all_cons, List.all_nil, Bool.and_true, Bool.and_eq_true, decide_eq_true_eq] at h5 h6
    have : ∀ (r : List Rk) (l : Int), risesB l r = true → ∀ z ∈ r, l < z.1 := by
      intro r
      induction r with
      | nil => simp
      | cons q t ih =>
        intro l hr z hz
        simp only [risesB, inB, List.all_cons, List.all_nil, Bool.and_true, Bool.and_eq_true, decide_eq_true_eq] at hr
        rcases List.mem_cons.1 hz with rfl | hz
        · omega
        · have := ih _ hr.2.2.2 z hz; omega
    exact this r _ h'.2.2.2 z hz
/-- So many places from one on, below m, in order. -/
def comb (m : Nat) : Nat → Nat → List (List Nat)
  | _, 0 => [[]]
  | a, k + 1 => (List.range' a (m - a)).flatMap fun i => (comb m (i + 1) k).map (i :: ·)
def daysI (h m : Nat) : List (List Nat) := (List.range (h + 1)).flatMap fun n => comb m 0 n
def idAt (xs : List Rk) (i : Nat) : Int := ((xs[i]?).map (·.1)).getD 0
def idsOf (xs : List Rk) (l : List Nat) : List Int := l.map (idAt xs)
/-- All turnings of a day, in order. -/
def daysL (h : Int) (xs : List Rk) : List (List Int) := (daysI h.toNat xs.length).map (idsOf xs)
theorem idAt_ids {xs ys : List Rk} (h : xs.map (·.1) = ys.map (·.1)) : idAt xs = idAt ys := by
  funext i
  have := congrArg (fun l => l[i]?) h
  simp only [List.getElem?_map] at this
  rw [idAt, idAt, this]
theorem daysL_ids {h : Int} {xs ys : List Rk} (e : xs.map (·.1) = ys.map (·.1)) : daysL h xs = daysL h ys := by
  have hl : xs.length = ys.length := by simpa using congrArg List.length e
  unfold daysL idsOf
  rw [idAt_ids e, hl]
/-- Ricks that can be kept cool for so many days. -/
def goodN (h : Int) : Nat → List Rk → Bool
  | 0, _ => true
  | k + 1, ys => (daysL h ys).any fun d => coolB (dayR d ys) && goodN h k (dayR d ys)
theorem goodN_pred {h : Int} : ∀ (k : Nat) (ys : List Rk), goodN h (k + 1) ys = true → goodN h k ys = true
  | 0, _, _ => rfl
  | k + 1, ys, hg => by
    rw [goodN, List.any_eq_true] at hg ⊢
    obtain ⟨d, hd, h1⟩ := hg
    rw [Bool.and_eq_true] at h1
    exact ⟨d, hd, by rw [Bool.and_eq_true]; exact ⟨h1.1, goodN_pred k _ h1.2⟩⟩
theorem goodN_le {h : Int} {k m : Nat} (hk : k ≤ m) (ys : List Rk) (hg : goodN h m ys = true) : goodN h k ys = true := by
  induction hk with
  | refl => exact hg
  | step _ ih => exact ih (goodN_pred _ _ hg)
open Classical in
/-- For ever. -/
noncomputable def everB (h : Int) (ys : List Rk) : Bool := decide (∀ k, goodN h k ys = true)
theorem everB_iff {h : Int} {ys : List Rk} : everB h ys = true ↔ ∀ k, goodN h k ys = true := by simp [everB]
/-- Each state's ricks: the same but for what they have waited, none hot. -/
def SameKeys (xs ys : List Rk) : Prop := ys.map (fun x => (x.1, x.2.1)) = xs.map fun x => (x.1, x.2.1)
def StOf (xs ys : List Rk) : Prop := SameKeys xs ys ∧ ∀ x ∈ ys, 0 ≤ x.2.2 ∧ x.2.2 < x.2.1
theorem SameKeys.length {xs ys : List Rk} (h : SameKeys xs ys) : ys.length = xs.length := by simpa using congrArg List.length h
theorem SameKeys.ids {xs ys : List Rk} (h : SameKeys xs ys) : ys.map (·.1) = xs.map (·.1) := by
  have := congrArg (List.map (fun p : Int × Int => p.1)) h
  simpa [List.map_map, Function.comp_def] using this
theorem SameKeys.day {xs ys : List Rk} (h : SameKeys xs ys) (d : List Int) : SameKeys xs (dayR d ys) := by
  unfold SameKeys at h ⊢
  rw [← h]
  simp [dayR, turnW, Function.comp_def]
/-- A cool day leads from state to state. -/
theorem StOf.day {xs ys : List Rk} (h : StOf xs ys) (d : List Int) (hc : coolB (dayR d ys) = true) : StOf xs (dayR d ys) := by
  refine ⟨h.1.day d, fun x hx => ?_⟩
  have h1 := List.all_eq_true.1 hc x hx
  obtain ⟨y, hy, rfl⟩ := List.mem_map.1 hx
  have := h.2 y hy
  simp only [turnW, bne_iff_ne, ne_eq] at h1 ⊢
  split
  · omega
  · rename_i hn
    simp only [hn, if_false] at h1
    simp only [Bool.false_eq_true, if_false] at h1
    omega
/-- Where nothing more goes, nothing ever goes. -/
theorem good_stable {h : Int} {xs : List Rk} {n : Nat} (hs : ∀ ys, StOf xs ys → goodN h n ys = true → goodN h (n + 1) ys = true) : ∀ (m : Nat) (ys : List Rk), StOf xs ys → goodN h n ys = true → goodN h (n + m) ys = true
  | 0, ys, _, hg => hg
  | m + 1, ys, hy, hg => by
    have h1 := hs ys hy hg
    rw [goodN, List.any_eq_true] at h1
    obtain ⟨d, hd, h2⟩ := h1
    rw [Bool.and_eq_true] at h2
    show goodN h (n + m + 1) ys = true
    rw [goodN, List.any_eq_true]
    exact ⟨d, hd, by rw [Bool.and_eq_true]; exact ⟨h2.1, good_stable hs m _ (hy.day d h2.1) h2.2⟩⟩
theorem good_ever {h : Int} {xs : List Rk} {n : Nat} (hs : ∀ ys, StOf xs ys → goodN h n ys = true → goodN h (n + 1) ys = true) (ys : List Rk) (hy : StOf xs ys) : goodN h n ys = everB h ys := by
  rw [Bool.eq_iff_iff, everB_iff]
  constructor
  · intro hg k
    by_cases hk : k ≤ n
    · exact goodN_le hk ys hg
    · have := good_stable hs (k - n) ys hy hg
      rwa [show n + (k - n) = k by omega] at this
  · exact fun hg => hg n

/-- The number of a state. -/
def codeF (n : Int) : List Rk → Int
  | [] => n
  | x :: r => codeF (n * x.2.1 + x.2.2) r
def codeR (ys : List Rk) : Int := codeF 0 ys
def atF (n : Int) : List Rk → List Rk × Int
  | [] => ([], n)
  | x :: r => ((x.1, x.2.1, (atF n r).2 % x.2.1) :: (atF n r).1, (atF n r).2 / x.2.1)
def atR (xs : List Rk) (n : Int) : List Rk := (atF n xs).1
def prodE : List Rk → Int
  | [] => 1
  | x :: r => x.2.1 * prodE r
theorem atF_keys (n : Int) : ∀ xs : List Rk, SameKeys xs (atF n xs).1
  | [] => rfl
  | x :: r => by
    have := atF_keys n r
    unfold SameKeys at this ⊢
    simp only [atF, List.map_cons, this]
theorem atF_range (n : Int) : ∀ xs : List Rk, (∀ x ∈ xs, 1 ≤ x.2.1) → ∀ y ∈ (atF n xs).1, 0 ≤ y.2.2 ∧ y.2.2 < y.2.1
  | [], _, y, hy => by simp [atF] at hy
  | x :: r, h, y, hy => by
    have hx := h x (by simp)
    simp only [atF, List.mem_cons] at hy
    rcases hy with rfl | hy
    · exact ⟨Int.emod_nonneg _ (by omega), Int.emod_lt_of_pos _ (by omega)⟩
    · exact atF_range n r (fun z hz => h z (by simp [hz])) y hy
theorem atR_st {xs : List Rk} (h : ∀ x ∈ xs, 1 ≤ x.2.1) (n : Int) : StOf xs (atR xs n) := ⟨atF_keys n xs, atF_range n xs h⟩
theorem at_codeF : ∀ (ys : List Rk) (a : Int), (∀ y ∈ ys, 0 ≤ y.2.2 ∧ y.2.2 < y.2.1) → atF (codeF a ys) ys = (ys, a)
  | [], a, _ => rfl
  | x :: r, a, h => by
    have hx := h x (by simp)
    have ih := at_codeF r (a * x.2.1 + x.2.2) (fun z hz => h z (by simp [hz]))
    simp only [codeF, atF, ih]
    have h1 : (a * x.2.1 + x.2.2) % x.2.1 = x.2.2 := by rw [Int.add_comm, Int.add_mul_emod_self_right, Int.emod_eq_of_lt hx.1 hx.2]
    have h2 : (a * x.2.1 + x.2.2) / x.2.1 = a := by
      rw [Int.add_comm, Int.add_mul_ediv_right _ _ (by omega), Int.ediv_eq_zero_of_lt hx.1 hx.2]
      omega
    rw [h1, h2]
theorem atF_same {xs ys : List Rk} (h : SameKeys xs ys) (n : Int) : atF n ys = atF n xs := by
  induction xs generalizing ys with
  | nil => rw [show ys = [] from List.eq_nil_of_length_eq_zero (by simpa using h.length)]
  | cons x r ih =>
    match ys, h with
    | y :: t, h =>
      simp only [SameKeys, List.map_cons, List.cons.injEq, Prod.mk.injEq] at h
      obtain ⟨⟨h1, h2⟩, h3⟩ := h
      simp only [atF, ih (ys := t) h3, h1, h2]
theorem at_code {xs ys : List Rk} (h : StOf xs ys) : atR xs (codeR ys) = ys := by
  rw [atR, ← atF_same h.1, codeR, at_codeF ys 0 h.2]
theorem codeF_bound : ∀ (ys : List Rk) (a b : Int), (∀ y ∈ ys, 0 ≤ y.2.2 ∧ y.2.2 < y.2.1) → 0 ≤ a → a < b → 0 ≤ codeF a ys ∧ codeF a ys < b * prodE ys
  | [], a, b, _, ha, hb => by simp [codeF, prodE]; omega
  | x :: r, a, b, h, ha, hb => by
    have hx := h x (by simp)
    have ih := codeF_bound r (a * x.2.1 + x.2.2) (b * x.2.1) (fun z hz => h z (by simp [hz])) (Int.add_nonneg (Int.mul_nonneg ha (by omega)) hx.1) (by
      have : (a + 1) * x.2.1 ≤ b * x.2.1 := Int.mul_le_mul_of_nonneg_right (by omega) (by omega)
      rw [Int.add_mul] at this
      omega)
    simp only [codeF, prodE]
    rw [← Int.mul_assoc]
    exact ih
theorem code_bound {ys : List Rk} (h : ∀ y ∈ ys, 0 ≤ y.2.2 ∧ y.2.2 < y.2.1) : 0 ≤ codeR ys ∧ codeR ys < prodE ys := by
  have := codeF_bound ys 0 1 h (by omega) (by omega)
  simpa [codeR] using this
theorem prodE_same {xs ys : List Rk} (h : SameKeys xs ys) : prodE ys = prodE xs := by
  induction xs generalizing ys with
  | nil => rw [show ys = [] from List.eq_nil_of_length_eq_zero (by simpa using h.length)]
  | cons x r ih =>
    match ys, h with
    | y :: t, h =>
      simp only [SameKeys, List.map_cons, List.cons.injEq, Prod.mk.injEq] at h
      obtain ⟨⟨h1, h2⟩, h3⟩ := h
      simp only [prodE, ih (ys := t) h3, h2]
theorem prodE_bound : ∀ {xs : List Rk}, (∀ x ∈ xs, 1 ≤ x.2.1 ∧ x.2.1 ≤ 6) → 1 ≤ prodE xs ∧ prodE xs ≤ 6 ^ xs.length
  | [], _ => by simp [prodE]
  | x :: r, h => by
    have hx := h x (by simp)
    obtain ⟨h1, h2⟩ := prodE_bound (xs := r) (fun z hz => h z (by simp [hz]))
    simp only [prodE, List.length_cons]
    refine ⟨by have := Int.mul_le_mul hx.1 h1 (by omega) (by omega); omega, ?_⟩
    rw [Int.pow_succ, Int.mul_comm]
    exact Int.mul_le_mul h2 hx.2 (by omega) (Int.pow_nonneg (by omega))
/-- For how long: a million for ever. -/
def LongIs (h : Int) (ys : List Rk) (v : Int) : Prop := (everB h ys = true ∧ v = 1000000) ∨ ∃ n : Nat, n < 1000000 ∧ goodN h n ys = true ∧ goodN h (n + 1) ys = false ∧ v = n
theorem LongIs.ge {h : Int} {ys : List Rk} {v : Int} (H : LongIs h ys v) {i : Nat} (hi : i < 1000000) : decide ((i : Int) ≤ v) = goodN h i ys := by
  rcases H with ⟨h1, rfl⟩ | ⟨n, hn, h1, h2, rfl⟩
  · rw [everB_iff.1 h1 i]
    simp; omega
  · by_cases hin : i ≤ n
    · rw [goodN_le hin ys h1]
      simp; omega
    · have h3 : goodN h i ys = false := by
        cases hq : goodN h i ys with
        | false => rfl
        | true => have := goodN_le (show n + 1 ≤ i by omega) ys hq; rw [h2] at this; cases this
      rw [h3]
      simp; omega
theorem LongIs.ever {h : Int} {ys : List Rk} {v : Int} (H : LongIs h ys v) : decide (1000000 ≤ v) = everB h ys ∧ (v == 1000000) = everB h ys := by
  rcases H with ⟨h1, rfl⟩ | ⟨n, hn, h1, h2, rfl⟩
  · rw [h1]; simp
  · have h3 : everB h ys = false := by
      cases hq : everB h ys with
      | false => rfl
      | true => have := everB_iff.1 hq (n + 1); rw [h2] at this; cases this
    rw [h3]
    constructor
    · simp; omega
    · simp; omega
/-- The first of all turnings that leads, cool, to ricks of which something is so. -/
def firstD (h : Int) (p : List Rk → Bool) (ys : List Rk) : Option (List Int) := (daysL h ys).find? fun d => coolB (dayR d ys) && p (dayR d ys)
theorem firstD_congr {h : Int} {xs ys : List Rk} {p q : List Rk → Bool} (hy : StOf xs ys) (hpq : ∀ zs, StOf xs zs → p zs = q zs) : firstD h p ys = firstD h q ys := by
  unfold firstD
  congr 1
  funext d
  cases hc : coolB (dayR d ys) with
  | false => rfl
  | true => simp [hpq _ (hy.day d hc)]
theorem firstD_some {h : Int} {p : List Rk → Bool} {ys : List Rk} {d : List Int} (hf : firstD h p ys = some d) : d ∈ daysL h ys ∧ coolB (dayR d ys) = true ∧ p (dayR d ys) = true := by
  have h1 := List.find?_some hf
  rw [Bool.and_eq_true] at h1
  exact ⟨List.mem_of_find?_eq_some hf, h1⟩
/-- What lasts for ever lasts for ever behind some day. -/
theorem ever_first {h : Int} {ys : List Rk} (he : everB h ys = true) : ∃ d ∈ daysL h ys, coolB (dayR d ys) = true ∧ everB h (dayR d ys) = true := by
  apply Classical.byContradiction
  intro hn
  have hL : ∀ L : List (List Int), (∀ d ∈ L, coolB (dayR d ys) = true → everB h (dayR d ys) = false) → ∃ K, ∀ d ∈ L, coolB (dayR d ys) = true → goodN h K (dayR d ys) = false := by
    intro L
    induction L with
    | nil => exact fun _ => ⟨0, fun d hd => by simp at hd⟩
    | cons a r ih =>
      intro hh
      obtain ⟨K, hK⟩ := ih fun d hd => hh d (by simp [hd])
      by_cases hc : coolB (dayR a ys) = true
      · have h1 := hh a (by simp) hc
        obtain ⟨k, hk⟩ : ∃ k, goodN h k (dayR a ys) = false := by
          apply Classical.byContradiction
          intro h2
          have : everB h (dayR a ys) = true := everB_iff.2 fun k => by
            cases hq : goodN h k (dayR a ys) with
            | true => rfl
            | false => exact absurd ⟨k, hq⟩ h2
          rw [h1] at this; cases this
        have low : ∀ {i j : Nat} {zs : List Rk}, i ≤ j → goodN h i zs = false → goodN h j zs = false := fun {i j zs} hij h3 => by
          cases hq : goodN h j zs with
          | false => rfl
          | true => have := goodN_le hij zs hq; rw [h3] at this; cases this
        refine ⟨max K k, fun d hd hdc => ?_⟩
        rcases List.mem_cons.1 hd with rfl | hd
        · exact low (Nat.le_max_right _ _) hk
        · exact low (Nat.le_max_left _ _) (hK d hd hdc)
      · refine ⟨K, fun d hd hdc => ?_⟩
        rcases List.mem_cons.1 hd with rfl | hd
        · exact absurd hdc hc
        · exact hK d hd hdc
  obtain ⟨K, hK⟩ := hL (daysL h ys) fun d hd hc => by
    cases hq : everB h (dayR d ys) with
    | false => rfl
    | true => exact absurd ⟨d, hd, hc, hq⟩ hn
  have h1 := everB_iff.1 he (K + 1)
  rw [goodN, List.any_eq_true] at h1
  obtain ⟨d, hd, h2⟩ := h1
  rw [Bool.and_eq_true] at h2
  rw [hK d hd h2.1] at h2
  cases h2.2

/-- Lists by length, then by their numbers. -/
def lexB : List Int → List Int → Bool
  | a :: r, b :: s => if a = b then lexB r s else decide (a < b)
  | _, _ => false
def beforeL (a b : List Int) : Bool := if a.length = b.length then lexB a b else decide (a.length < b.length)
/-- A list that is taken to its place from the end on. -/
def sinkR {α : Type} (lt : α → α → Bool) (x : α) : List α → List α
  | [] => [x]
  | y :: r => if lt x y then y :: sinkR lt x r else x :: y :: r
def bitsI (m s : Nat) : List Nat := (List.range m).filter fun i => s / 2 ^ i % 2 == 1
def stepI {α : Type} (lt : α → α → Bool) (f : List Nat → α) (m n : Nat) (out : List α) (s : Nat) : List α := if (bitsI m s).length = n then (sinkR lt (f (bitsI m s)) out.reverse).reverse else out
def listsG {α : Type} (lt : α → α → Bool) (f : List Nat → α) (h m : Nat) : List α := (List.range (h + 1)).foldl (fun out n => (List.range (2 ^ m)).foldl (stepI lt f m n) out) []
def lexN : List Nat → List Nat → Bool
  | a :: r, b :: s => if a = b then lexN r s else decide (a < b)
  | _, _ => false
def beforeN (a b : List Nat) : Bool := if a.length = b.length then lexN a b else decide (a.length < b.length)
theorem sinkR_map {α β : Type} {lt : α → α → Bool} {lt' : β → β → Bool} {f : α → β} {x : α} : ∀ {l : List α}, (∀ y ∈ l, lt' (f x) (f y) = lt x y) → sinkR lt' (f x) (l.map f) = (sinkR lt x l).map f
  | [], _ => rfl
  | y :: r, h => by
    have ih := sinkR_map (lt := lt) (lt' := lt') (f := f) (x := x) (l := r) fun z hz => h z (List.mem_cons_of_mem _ hz)
    simp only [List.map_cons, sinkR, h y (by simp), ih]
    split <;> rfl
theorem sinkR_mem {α : Type} {lt : α → α → Bool} {x y : α} : ∀ {l : List α}, y ∈ sinkR lt x l → y = x ∨ y ∈ l
  | [], h => by simp [sinkR] at h; exact .inl h
  | z :: r, h => by
    simp only [sinkR] at h
    split at h
    · rcases List.mem_cons.1 h with rfl | h
      · exact .inr (by simp)
      · exact (sinkR_mem h).imp id fun h => by simp [h]
    · rcases List.mem_cons.1 h with rfl | h
      · exact .inl rfl
      · exact .inr h
theorem lists_daysI : ∀ h, h < 4 → ∀ m, m < 5 → listsG beforeN id h m = daysI h m := by decide +kernel
theorem lexB_ids {f : Nat → Int} {m : Nat} (hf : ∀ i j, i < m → j < m → (f i = f j ↔ i = j) ∧ (f i < f j ↔ i < j)) : ∀ (a b : List Nat), (∀ i ∈ a, i < m) → (∀ i ∈ b, i < m) → lexB (a.map f) (b.map f) = lexN a b
  | [], [], _, _ => rfl
  | [], _ :: _, _, _ => rfl
  | _ :: _, [], _, _ => rfl
  | a :: r, b :: s, ha, hb => by
    obtain ⟨h1, h2⟩ := hf a b (ha a (by simp)) (hb b (by simp))
    simp only [List.map_cons, lexB, lexN, h1, h2, lexB_ids hf r s (fun i hi => ha i (by simp [hi])) (fun i hi => hb i (by simp [hi]))]
theorem bitsI_lt {m s i : Nat} (h : i ∈ bitsI m s) : i < m := by simp [bitsI] at h; exact h.1
theorem listsG_map {f : Nat → Int} {h m : Nat} (hf : ∀ i j, i < m → j < m → (f i = f j ↔ i = j) ∧ (f i < f j ↔ i < j)) : listsG beforeL (fun l => l.map f) h m = (listsG beforeN id h m).map fun l => l.map f := by
  have hst : ∀ (n s : Nat) (out : List (List Nat)), (∀ l ∈ out, ∀ i ∈ l, i < m) → stepI beforeL (fun l => l.map f) m n (out.map fun l => l.map f) s = (stepI beforeN id m n out s).map (fun l => l.map f) ∧ ∀ l ∈ stepI beforeN id m n out s, ∀ i ∈ l, i < m := by
    intro n s out ho
    unfold stepI
    split
    · refine ⟨?_, fun l hl i hi => ?_⟩
      · rw [← List.map_reverse, sinkR_map (lt := beforeN) (f := fun l => l.map f) (x := bitsI m s), List.map_reverse]
        · rfl
        · intro y hy
          simp only [beforeL, beforeN, List.length_map, lexB_ids hf _ _ (fun i hi => bitsI_lt hi) (ho y (by simpa using hy))]
      · rcases sinkR_mem (List.mem_reverse.1 hl) with rfl | hl
        · exact bitsI_lt hi
        · exact ho l (by simpa using hl) i hi
    · exact ⟨rfl, ho⟩
  have hin : ∀ (n : Nat) (ss : List Nat) (out : List (List Nat)), (∀ l ∈ out, ∀ i ∈ l, i < m) → ss.foldl (stepI beforeL (fun l => l.map f) m n) (out.map fun l => l.map f) = (ss.foldl (stepI beforeN id m n) out).map (fun l => l.map f) ∧ ∀ l ∈ ss.foldl (stepI beforeN id m n) out, ∀ i ∈ l, i < m := by
    intro n ss
    induction ss with
    | nil => exact fun out ho => ⟨rfl, ho⟩
    | cons s r ih =>
      intro out ho
      obtain ⟨h1, h2⟩ := hst n s out ho
      simp only [List.foldl_cons, h1]
      exact ih _ h2
  have hou : ∀ (ns : List Nat) (out : List (List Nat)), (∀ l ∈ out, ∀ i ∈ l, i < m) → ns.foldl (fun out n => (List.range (2 ^ m)).foldl (stepI beforeL (fun l => l.map f) m n) out) (out.map fun l => l.map f) = (ns.foldl (fun out n => (List.range (2 ^ m)).foldl (stepI beforeN id m n) out) out).map fun l => l.map f := by
    intro ns
    induction ns with
    | nil => exact fun out _ => rfl
    | cons n r ih =>
      intro out ho
      obtain ⟨h1, h2⟩ := hin n (List.range (2 ^ m)) out ho
      simp only [List.foldl_cons, h1]
      exact ih _ h2
  exact hou _ [] (by simp)
theorem idAt_mono {xs : List Rk} {l : Int} (h : risesB l xs = true) : ∀ i j, i < xs.length → j < xs.length → (idAt xs i = idAt xs j ↔ i = j) ∧ (idAt xs i < idAt xs j ↔ i < j) := by
  have hp := rises_pairG h
  rw [List.pairwise_iff_getElem] at hp
  intro i j hi hj
  have e : ∀ k (hk : k < xs.length), idAt xs k = (xs.map (·.1))[k]'(by simpa using hk) := fun k hk => by simp [idAt, hk]
  rw [e i hi, e j hj]
  rcases Nat.lt_trichotomy i j with h1 | h1 | h1
  · have := hp i j (by simpa using hi) (by simpa using hj) h1
    constructor <;> constructor <;> intro h2 <;> omega
  · subst h1; simp
  · have := hp j i (by simpa using hj) (by simpa using hi) h1
    constructor <;> constructor <;> intro h2 <;> omega
/-- The reference's order of turnings. -/
theorem lists_daysL {h : Int} {xs : List Rk} (hw : watchB h xs = true) : listsG beforeL (idsOf xs) h.toNat xs.length = daysL h xs := by
  obtain ⟨h1, h2, h3⟩ := watchB_iff.1 hw
  rw [show idsOf xs = fun l => l.map (idAt xs) from rfl, listsG_map (idAt_mono h3), lists_daysI _ (by omega) _ (by omega)]
  rfl
end Go.Proofs.YtknpglgpkkhhiaaDoor

/- All states, in the order of the program's iterator. -/
namespace Go.Proofs.YtknpglgpkkhhiaaDoor
set_option linter.unusedSimpArgs false
set_option linter.unusedVariables false

def yAt : List Rk → Int → List Rk
  | [], _ => []
  | x :: r, m => (x.1, x.2.1, m % x.2.1) :: yAt r (m / x.2.1)
/-- The next state, and whether there is one. -/
def incR : List Rk → List Rk × Bool
  | [] => ([], false)
  | y :: r => if y.2.2 + 1 < y.2.1 then ((y.1, y.2.1, y.2.2 + 1) :: r, true) else ((y.1, y.2.1, 0) :: (incR r).1, (incR r).2)
def zeroR (xs : List Rk) : List Rk := xs.map fun x => (x.1, x.2.1, 0)
theorem yAt_zero : ∀ xs : List Rk, yAt xs 0 = zeroR xs
  | [] => rfl
  | x :: r => by simp [yAt, zeroR, yAt_zero r]
theorem yAt_st : ∀ {xs : List Rk} (m : Int), (∀ x ∈ xs, 1 ≤ x.2.1) → StOf xs (yAt xs m)
  | [], m, _ => ⟨rfl, by simp [yAt]⟩
  | x :: r, m, h => by
    have hx := h x (by simp)
    obtain ⟨h1, h2⟩ := yAt_st (xs := r) (m / x.2.1) fun z hz => h z (by simp [hz])
    refine ⟨by unfold SameKeys at *; simp [yAt, h1], fun y hy => ?_⟩
    simp only [yAt, List.mem_cons] at hy
    rcases hy with rfl | hy
    · exact ⟨Int.emod_nonneg _ (by omega), Int.emod_lt_of_pos _ (by omega)⟩
    · exact h2 y hy
theorem incR_yAt : ∀ {xs : List Rk} (m : Int), (∀ x ∈ xs, 1 ≤ x.2.1) → 0 ≤ m → m < prodE xs → incR (yAt xs m) = (yAt xs (m + 1), decide (m + 1 < prodE xs))
  | [], m, _, h0, h1 => by
    simp only [prodE] at h1
    have : m = 0 := by omega
    subst this
    simp [yAt, incR, prodE]
  | x :: r, m, h, h0, h1 => by
    have hx := h x (by simp)
    have hr : ∀ z ∈ r, 1 ≤ z.2.1 := fun z hz => h z (by simp [hz])
    have hp : prodE (x :: r) = x.2.1 * prodE r := rfl
    rw [hp] at h1
    have d0 : 0 ≤ m / x.2.1 := Int.ediv_nonneg h0 (by omega)
    have d1 : m / x.2.1 < prodE r := Int.ediv_lt_of_lt_mul (by omega) (by rw [Int.mul_comm]; exact h1)
    have e0 := Int.emod_nonneg m (b := x.2.1) (by omega)
    have e1 := Int.emod_lt_of_pos m (b := x.2.1) (by omega)
    have e2 := Int.mul_ediv_add_emod m x.2.1
    have ih := incR_yAt (xs := r) (m / x.2.1) hr d0 d1
    simp only [yAt, incR]
    by_cases hc : m % x.2.1 + 1 < x.2.1
    · rw [if_pos hc]
      have h2 : (m + 1) / x.2.1 = m / x.2.1 := by
        rw [show m + 1 = (m % x.2.1 + 1) + x.2.1 * (m / x.2.1) by omega, Int.add_mul_ediv_left _ _ (by omega), Int.ediv_eq_zero_of_lt (by omega) hc]
        omega
      have h3 : (m + 1) % x.2.1 = m % x.2.1 + 1 := by
        rw [show m + 1 = (m % x.2.1 + 1) + x.2.1 * (m / x.2.1) by omega, Int.add_mul_emod_self_left, Int.emod_eq_of_lt (by omega) hc]
      have h4 : m + 1 < prodE (x :: r) := by
        rw [hp]
        have : x.2.1 * (m / x.2.1 + 1) ≤ x.2.1 * prodE r := Int.mul_le_mul_of_nonneg_left (by omega) (by omega)
        rw [Int.mul_add] at this
        omega
      rw [h2, h3, decide_eq_true h4]
    · rw [if_neg hc, ih]
      have h2 : (m + 1) / x.2.1 = m / x.2.1 + 1 := by
        rw [show m + 1 = x.2.1 * (m / x.2.1 + 1) by rw [Int.mul_add]; omega, Int.mul_ediv_cancel_left _ (by omega)]
      have h3 : (m + 1) % x.2.1 = 0 := by
        rw [show m + 1 = x.2.1 * (m / x.2.1 + 1) by rw [Int.mul_add]; omega, Int.mul_emod_right]
      have h4 : (m + 1 < prodE (x :: r)) ↔ (m / x.2.1 + 1 < prodE r) := by
        have h5 := Int.mul_lt_mul_left (a := x.2.1) (b := m / x.2.1 + 1) (c := prodE r) (by omega)
        have h6 : m + 1 = x.2.1 * (m / x.2.1 + 1) := by rw [Int.mul_add]; omega
        rw [hp, h6]
        have h7 : x.2.1 * (m / x.2.1 + 1) / x.2.1 = m / x.2.1 + 1 := Int.mul_ediv_cancel_left _ (by omega)
        first | exact h5 | (rw [h7]; exact h5)
      rw [h2, h3, decide_eq_decide.2 h4]
/-- Every state comes. -/
def lcode : List Rk → Int
  | [] => 0
  | y :: r => y.2.2 + y.2.1 * lcode r
theorem yAt_lcode : ∀ {xs ys : List Rk}, StOf xs ys → yAt xs (lcode ys) = ys ∧ 0 ≤ lcode ys ∧ lcode ys < prodE xs
  | [], ys, h => by
    have : ys = [] := List.eq_nil_of_length_eq_zero (by simpa using h.1.length)
    subst this
    simp [yAt, lcode, prodE]
  | x :: r, y :: t, h => by
    obtain ⟨hk, hb⟩ := h
    simp only [SameKeys, List.map_cons, List.cons.injEq, Prod.mk.injEq] at hk
    obtain ⟨⟨h1, h2⟩, h3⟩ := hk
    have hy := hb y (by simp)
    obtain ⟨i1, i2, i3⟩ := yAt_lcode (xs := r) (ys := t) ⟨h3, fun z hz => hb z (by simp [hz])⟩
    have h4 : lcode (y :: t) % x.2.1 = y.2.2 := by
      rw [lcode, ← h2, Int.add_mul_emod_self_left, Int.emod_eq_of_lt hy.1 hy.2]
    have h5 : lcode (y :: t) / x.2.1 = lcode t := by
      rw [lcode, ← h2, Int.add_mul_ediv_left _ _ (by omega), Int.ediv_eq_zero_of_lt hy.1 hy.2, Int.zero_add]
    refine ⟨?_, ?_, ?_⟩
    · rw [yAt, h4, h5, i1, ← h1, ← h2]
    · rw [lcode]
      have := Int.mul_nonneg (a := y.2.1) (b := lcode t) (by omega) i2
      omega
    · rw [lcode, prodE, ← h2]
      have : y.2.1 * (lcode t + 1) ≤ y.2.1 * prodE r := Int.mul_le_mul_of_nonneg_left (by omega) (by omega)
      rw [Int.mul_add] at this
      omega
  | _ :: _, [], h => by
    have := h.1.length
    simp at this
/-- The states as the iterator yields them. -/
def allY (xs : List Rk) : List (List Rk) := (List.range (prodE xs).toNat).map fun m : Nat => yAt xs (m : Int)
theorem mem_allY {xs ys : List Rk} (h : ∀ x ∈ xs, 1 ≤ x.2.1) : ys ∈ allY xs ↔ StOf xs ys := by
  unfold allY
  rw [List.mem_map]
  constructor
  · rintro ⟨m, _, rfl⟩
    exact yAt_st _ h
  · intro hs
    obtain ⟨h1, h2, h3⟩ := yAt_lcode hs
    exact ⟨(lcode ys).toNat, by rw [List.mem_range]; omega, by rw [Int.toNat_of_nonneg h2]; exact h1⟩
theorem allY_take {xs : List Rk} {m : Nat} (h : m < (prodE xs).toNat) : (allY xs).take (m + 1) = (allY xs).take m ++ [yAt xs (m : Int)] := by
  unfold allY
  rw [← List.map_take, ← List.map_take, List.take_range, List.take_range, Nat.min_eq_left h, Nat.min_eq_left (Nat.le_of_lt h), List.range_succ, List.map_append]
  rfl
/-- At work: the first k are done with, none of them could go on. -/
theorem incR_cut : ∀ (ys : List Rk) (k : Nat), k ≤ ys.length → (∀ j (h : j < ys.length), j < k → ¬ ys[j].2.2 + 1 < ys[j].2.1) → incR ys = (zeroR (ys.take k) ++ (incR (ys.drop k)).1, (incR (ys.drop k)).2)
  | ys, 0, _, _ => by simp [zeroR]
  | [], k + 1, h, _ => by simp at h
  | y :: r, k + 1, hk, h => by
    have h0 := h 0 (by simp) (by omega)
    simp only [List.getElem_cons_zero] at h0
    have ih := incR_cut r k (by simpa using hk) fun j hj hjk => by
      have := h (j + 1) (by simpa using hj) (by omega)
      simpa using this
    rw [incR, if_neg h0, List.take_succ_cons, List.drop_succ_cons, ih]
    simp [zeroR]
end Go.Proofs.YtknpglgpkkhhiaaDoor

/- A range over a function whose iterator stores into cells of its own. No function of the program here. -/
namespace Go.Proofs.YtknpglgpkkhhiaaDoor.RR
set_option linter.unusedSimpArgs false
set_option linter.unusedVariables false
open Go Go.RowKit

variable {F : Fence} {n : Nat} {P : Program}

/-- A range over a function whose iterator turns cells of its own: other objects stay. -/
theorem wpIn_rangeFunc_RS {α : Type} {g : Operand} {ps : Array Tmp} {assign body : Code} {Q : Exit → Act → World → Prop} {a : Act} {w : World}
    (hro : F.round = none) (h1 : 1 ≤ n) {gf : Nat} {lb : Array Value} (hg : a.eval g = .func (.func gf) #[] lb) (hFg : F.fn gf) (eg : ∀ args w, (callFunc gf args).run P w = .ok (.enter gf args) w)
    {encs : α → Array Value} {R Kp : World → World → Prop} {L : List α} (hseq : SeqL F (n - 1) P gf lb encs R Kp L w)
    (hRa : ∀ A o, w.heap.size ≤ A.heap.size → R w A → R w (A.alloc o)) (hRr : R w w) (hRb : ∀ A B k o, R A B → w.heap.size ≤ k → o.isCells = false → A.heap[k]? = some o → B.heap[k]? = some o)
    (hKt : ∀ {A B C : World}, Kp A B → Kp B C → Kp A C) (hKb : ∀ (W : World) (l : Nat) (o o' : Obj), w.heap.size ≤ l → W.heap[l]? = some o → o.isCells = false → o.isWalk = false → Kp W (W.putObj l o')) (hps : ∀ x, (encs x).size = ps.size)
    (I : List α → World → Prop) (Ix : Code → List α → World → Prop) (hI : OwnFrom w.heap.size I) (hIx : ∀ c, OwnFrom w.heap.size (Ix c)) (hIR : Abide R I) (hIxR : ∀ c, Abide R (Ix c)) (h0 : I [] w) (Ax : α → Act → World → Prop) (hAx : ∀ x a', OwnFrom w.heap.size (fun (_ : Unit) W => Ax x a' W))
    (hassign : ∀ (l : Nat) (pre : List α) (x : α) (W : World) (K : Act → World → Prop), I pre W → pre ++ [x] <+: L → (∀ a' W', KeepsFrom w.heap.size W W' → Kp W W' → I pre W' → Ax x a' W' → K a' W') →
      assign.wpIn (F.inRound l) (n - 1 - 1) P (Exit.then K (fun _ _ _ => False)) { tmps := (ps.zip (encs x)).foldl (fun t (p, v) => t.setIfInBounds p v) a.tmps, defers := [] } W)
    (hbody : ∀ (l : Nat) (pre : List α) (x : α) (a' : Act) (W : World), I pre W → Ax x a' W → pre ++ [x] <+: L → body.wpIn (F.inRound l) (n - 1 - 1) P (ownPostG w.heap.size Kp I Ix (pre ++ [x]) W) a' W)
    (hdone : ∀ (D : Nat) (W : World), w.heap.size ≤ D → I L W → W.heap[D]? = some (.deferred (some [])) → Q .normal { a with defers := { target := .collected D, args := #[] } :: a.defers } W)
    (hstop : ∀ (D : Nat) (c : Code) (pre : List α) (W : World), w.heap.size ≤ D → pre <+: L → Ix c pre W → W.heap[D]? = some (.deferred (some [])) → c.wpIn F n P Q { a with defers := { target := .collected D, args := #[] } :: a.defers } W) :
    (Code.rangeFunc g ps assign body).wpIn F n P Q a w := by
  refine wpIn_rangeFunc ?_
  intro fn hfn
  rw [hro]
  obtain ⟨rec, hrec⟩ : ∃ rec : LoopState → Option Code → Loop, rec = fun st pe => { state := st, pending := pe, fn, tmps := a.tmps, params := ps, assign, body, defers := w.heap.size } := ⟨_, rfl⟩
  obtain ⟨W1, hW1⟩ : ∃ W1, (w.alloc (.deferred (some []))).alloc (.loop (rec .ready none)) = W1 := ⟨_, rfl⟩
  have hL1 : W1.heap[w.heap.size + 1]? = some (.loop (rec .ready none)) := by
    rw [← hW1]; have := World.alloc_heap_new (w.alloc (.deferred (some []))) (.loop (rec .ready none)); rwa [World.size_alloc] at this
  have hK1 : W1.heap[w.heap.size]? = some (.deferred (some [])) := by
    rw [← hW1]; exact (Below.heap_alloc _ _ _ (by simp)).trans (World.alloc_heap_new w _)
  have hI1 : I [] W1 := by rw [← hW1]; exact hI.alloc _ (hI.alloc _ h0)
  have hb1 : R w W1 := by
    rw [← hW1]; exact hRa _ _ (by simp) (hRa _ _ (Nat.le_refl _) hRr)
  refine ⟨w.heap.size + 1, [{ target := .collected w.heap.size, args := #[] }], W1, { target := .fn (.func gf) lb, args := #[.func (.yield (w.heap.size + 1)) #[] #[]] }, W1, gf,
    #[.func (.yield (w.heap.size + 1)) #[] #[]] ++ lb, W1, ?_, ?_, ?_, ?_, fun _ => h1, ?_⟩
  · rw [← hW1, hrec]; exact run_enterLoop_outer _ _ _ _ _
  · simp only [resolve, hg]
    simp [go_sem]
  · intro f' hf'; simp [Target.leads] at hf'; subst hf'; exact hFg
  · simp [invoke, go_sem, eg]
  · refine (hseq (w.heap.size + 1)
      (fun pre W => I pre W ∧ W.heap[w.heap.size + 1]? = some (.loop (rec .ready none)) ∧ W.heap[w.heap.size]? = some (.deferred (some [])))
      (fun pre W => ∃ c, Ix c pre W ∧ W.heap[w.heap.size + 1]? = some (.loop (rec .done (some c))) ∧ W.heap[w.heap.size]? = some (.deferred (some [])))
      W1 hb1
      (fun s A B hs hr => ⟨hIR s A B hs.1 hr, hRb A B _ _ hr (by omega) rfl hs.2.1, hRb A B _ _ hr (Nat.le_refl _) rfl hs.2.2⟩)
      (fun s A B hs hr => by
        obtain ⟨c, hc, hl, hk⟩ := hs
        exact ⟨c, hIxR c s A B hc hr, hRb A B _ _ hr (by omega) rfl hl, hRb A B _ _ hr (Nat.le_refl _) rfl hk⟩)
      ?_ ⟨hI1, hL1, hK1⟩).mono ?_
    · -- one round
      rintro pre x W hlen ⟨hi, hl, hk⟩
      have hlt : w.heap.size + 1 < W.heap.size := (Array.getElem?_eq_some_iff.1 hl).1
      have hy := run_yield (P := P) (args := encs x) hl (by rw [hrec]; exact hps x)
      rw [hrec] at hy
      refine ⟨fn, _, assign, body, hy, roundIn_of_wpIn hfn (hassign _ pre x W _ hi hlen ?_)⟩
      clear hy
      intro a' Wa hkfa hkpa hia hax
      replace hl := hkfa.same _ _ (by omega) hl rfl
      replace hk := hkfa.same _ _ (Nat.le_refl _) hk rfl
      replace hlt : w.heap.size + 1 < Wa.heap.size := (Array.getElem?_eq_some_iff.1 hl).1
      replace hi := hia
      clear hia
      revert hkpa hkfa
      generalize W = Wb
      intro hkfa hkpa
      obtain ⟨W, rfl⟩ : ∃ W, W = Wa := ⟨_, rfl⟩
      refine ⟨_, run_beginRound hl (by rw [hrec]), ?_⟩
      have hl2 : (W.putObj (w.heap.size + 1) (.loop { rec .ready none with state := .busy })).heap[w.heap.size + 1]? = some (.loop { rec .ready none with state := .busy }) := World.putObj_heap_same hlt
      have hk2 : (W.putObj (w.heap.size + 1) (.loop { rec .ready none with state := .busy })).heap[w.heap.size]? = some (.deferred (some [])) := (World.putObj_heap_other (by omega)).trans hk
      have hw2 : Kp W (W.putObj (w.heap.size + 1) (.loop { rec .ready none with state := .busy })) := hKb _ _ _ _ (by omega) hl rfl rfl
      refine wpIn_mono (hbody _ pre x a' _ (hI.putObj _ hi (by omega) hl rfl) ((hAx x a').putObj (s := ()) _ hax (by omega) hl rfl) hlen) ?_
      have fin : ∀ (jump : Option Code) (W3 : World), KeepsFrom w.heap.size (W.putObj (w.heap.size + 1) (.loop { rec .ready none with state := .busy })) W3 →
          (Instr.endRound (w.heap.size + 1) jump).run P W3 = .ok (.bool jump.isNone) (W3.putObj (w.heap.size + 1) (.loop (rec (if jump.isNone then .ready else .done) jump))) ∧
          W3.heap[w.heap.size + 1]? = some (.loop { rec .ready none with state := .busy }) ∧
          (W3.putObj (w.heap.size + 1) (.loop (rec (if jump.isNone then .ready else .done) jump))).heap[w.heap.size + 1]? = some (.loop (rec (if jump.isNone then .ready else .done) jump)) ∧
          (W3.putObj (w.heap.size + 1) (.loop (rec (if jump.isNone then .ready else .done) jump))).heap[w.heap.size]? = some (.deferred (some [])) := fun jump W3 hk3 => by
        have hl3 := hk3.same _ _ (by omega) hl2 rfl
        have := run_endRound (P := P) jump hl3
        rw [hrec] at this ⊢
        exact ⟨this, by rw [hrec] at hl3; exact hl3, World.putObj_heap_same (Array.getElem?_eq_some_iff.1 hl3).1, (World.putObj_heap_other (by omega)).trans (hk3.same _ _ (Nat.le_refl _) hk2 rfl)⟩
      rintro e a3 W3 hp
      cases e with
      | normal =>
        obtain ⟨hk3, hkp3, hi3⟩ := hp
        obtain ⟨hr, hl3, hl4, hk4⟩ := fin none W3 hk3
        exact ⟨_, _, hr, .inl ⟨rfl, ⟨hI.putObj _ hi3 (by omega) hl3 rfl, hl4, hk4⟩, hKt hkpa (hKt (hKt hw2 hkp3) (hKb _ _ _ _ (by omega) hl3 rfl rfl))⟩⟩
      | ret =>
        obtain ⟨hk3, hi3⟩ := hp
        obtain ⟨hr, hl3, hl4, hk4⟩ := fin (some .ret) W3 hk3
        exact ⟨_, _, hr, .inr ⟨rfl, .ret, (hIx _).putObj _ hi3 (by omega) hl3 rfl, hl4, hk4⟩⟩
      | exit id =>
        obtain ⟨hk3, hi3⟩ := hp
        obtain ⟨hr, hl3, hl4, hk4⟩ := fin (some (.exit id)) W3 hk3
        exact ⟨_, _, hr, .inr ⟨rfl, .exit id, (hIx _).putObj _ hi3 (by omega) hl3 rfl, hl4, hk4⟩⟩
      | goto t =>
        obtain ⟨hk3, hi3⟩ := hp
        obtain ⟨hr, hl3, hl4, hk4⟩ := fin (some (.goto t)) W3 hk3
        exact ⟨_, _, hr, .inr ⟨rfl, .goto t, (hIx _).putObj _ hi3 (by omega) hl3 rfl, hl4, hk4⟩⟩
      | panic ch => exact hp.elim
      | outgrown => exact hp.elim
    · -- behind the iterator
      rintro e W2 ⟨⟨v, rfl⟩, (⟨hi, hl, hk⟩ | ⟨pre, hSp, c, hi, hl, hk⟩)⟩
      · exact ⟨none, _, by have := run_endLoop (P := P) hl (by rw [hrec]; simp); rw [hrec] at this; exact this, hdone _ _ (Nat.le_refl _) (hI.putObj _ hi (by omega) hl rfl) ((World.putObj_heap_other (by omega)).trans hk)⟩
      · exact ⟨some c, _, by have := run_endLoop (P := P) hl (by rw [hrec]; simp); rw [hrec] at this; exact this, hstop _ c pre _ (Nat.le_refl _) hSp ((hIx c).putObj _ hi (by omega) hl rfl) ((World.putObj_heap_other (by omega)).trans hk)⟩

/-- All cells stay: what a round may do. -/
structure KC (a b : World) : Prop where
  os : b.os = a.os
  tape : b.tape = a.tape
  output : b.output = a.output
  size : a.heap.size ≤ b.heap.size
  cells : ∀ (k : Nat) (o : Obj), a.heap[k]? = some o → o.isCells = true → b.heap[k]? = some o
/-- Blocks below n0, and what is no row of cells, stay: what an iterator may do between rounds. -/
structure RI (n0 : Nat) (a b : World) : Prop where
  below : Below n0 a b
  other : ∀ (k : Nat) (o : Obj), a.heap[k]? = some o → o.isCells = false → b.heap[k]? = some o
section
variable {a b c : World} {n0 : Nat}
theorem KC.refl (a : World) : KC a a := ⟨rfl, rfl, rfl, Nat.le_refl _, fun _ _ h _ => h⟩
theorem KC.trans (h : KC a b) (k : KC b c) : KC a c := ⟨k.os.trans h.os, k.tape.trans h.tape, k.output.trans h.output, Nat.le_trans h.size k.size, fun i o h1 h2 => k.cells i o (h.cells i o h1 h2) h2⟩
theorem KC.put {l : Nat} {o o' : Obj} (h : a.heap[l]? = some o) (ho : o.isCells = false) : KC a (a.putObj l o') :=
  ⟨rfl, rfl, rfl, by simp [World.putObj], fun k q h1 h2 => by
    have hne : k ≠ l := by
      rintro rfl
      rw [h] at h1
      cases h1
      rw [ho] at h2
      cases h2
    rw [World.putObj_heap_other hne]
    exact h1⟩
theorem KC.of_bel (h : Free.Bel a b) : KC a b := ⟨h.os, h.tape, h.output, h.size, fun k o h1 _ => (h.block k (lt_of_heap h1)).trans h1⟩
theorem KC.of_grown {r : Nat} {o : Obj} (h : a.grownBy b (some r)) (hr : a.heap[r]? = some o) (ho : o.isCells = false) : KC a b :=
  ⟨h.os, h.tape, h.output, h.size, fun k q h1 h2 => (h.block k (lt_of_heap h1) (fun e => by
    cases e
    rw [hr] at h1
    cases h1
    rw [ho] at h2
    cases h2)).trans h1⟩
theorem RI.refl (n0 : Nat) (a : World) : RI n0 a a := ⟨Below.refl _ _, fun _ _ h _ => h⟩
theorem RI.trans (h : RI n0 a b) (k : RI n0 b c) : RI n0 a c := ⟨h.below.trans k.below, fun i o h1 h2 => k.other i o (h.other i o h1 h2) h2⟩
theorem RI.of_bel (h : Free.Bel a b) (hn : n0 ≤ a.heap.size) : RI n0 a b := ⟨h.mono hn, fun k o h1 _ => (h.block k (lt_of_heap h1)).trans h1⟩
theorem RI.set {g o : Nat} {v : Value} {q : Obj} (hg : n0 ≤ g) (hq : a.heap[g]? = some q) (hc : q.isCells = true) : RI n0 a (a.setCell ⟨g, o, none⟩ v) :=
  ⟨(Below.refl _ a).setCell (by simpa using hg) v, fun k p h1 h2 => by
    have hne : k ≠ g := by
      rintro rfl
      rw [hq] at h1
      cases h1
      rw [hc] at h2
      cases h2
    exact (Below.heap_setCell _ _ _ _ (by simpa using hne)).trans h1⟩
end
end Go.Proofs.YtknpglgpkkhhiaaDoor.RR

/- A key is deleted from a map. No function of the program here. -/
namespace Go.Proofs.YtknpglgpkkhhiaaDoor.ML
set_option linter.unusedSimpArgs false
set_option linter.unusedVariables false
open Go.RowKit

variable {κ : Type} {P : Program} {kt : TypeId} {kv : κ → Value} {b : Nat} {l : List (κ × Value)} {w : World} [DecidableEq κ]
def assocDel (x : κ) (l : List (κ × Value)) : List (κ × Value) := match assocI x l 0 with | none => l | some y => l.eraseIdx y.1
theorem map_eraseIdx' {α β : Type} (f : α → β) : ∀ (l : List α) (i : Nat), (l.eraseIdx i).map f = (l.map f).eraseIdx i
  | [], _ => rfl
  | _ :: _, 0 => rfl
  | a :: r, i + 1 => by simp [map_eraseIdx' f r i]
theorem MapIs.delete (K : KeyL P kt kv) {t e ty : TypeId} (ht : P.underlying t = some (.map kt e)) (h : MapIs kv b l w) (x : κ) :
    ∃ w', (Builtin.delete_ #[t, kt] ty #[.map (some b), kv x]).run P w = .ok (.tuple #[]) w' ∧ w.grownBy w' (some b) ∧ MapIs kv b (assocDel x l) w' ∧ w'.heap.size = w.heap.size := by
  obtain ⟨es, c, h1, h2, h3, h4⟩ := h
  have hf := K.find x es.toList l w h2
  have hg := MapKept.run_getObj_map (P := P) h1
  have hlt := (Array.getElem?_eq_some_iff.1 h1).1
  unfold Builtin.delete_ assocDel
  cases ha : assocI x l 0 with
  | none =>
    refine ⟨put w b (.map es c), ?_, put_grown w b _, ⟨_, _, put_same hlt, h2, h3, h4⟩, by simp [put]⟩
    simp [run_underlying ht, hg, K.check, hf, ha, MapKept.run_setObj_map _ h1, put]
  | some y =>
    obtain ⟨j, u⟩ := y
    have hm : (es.eraseIdxIfInBounds j).toList = es.toList.eraseIdx j := by
      unfold Array.eraseIdxIfInBounds
      split
      · simp
      · rw [List.eraseIdx_of_length_le (by simpa using by omega)]
    refine ⟨put w b (.map (es.eraseIdxIfInBounds j) c), ?_, put_grown w b _, ⟨_, _, put_same hlt, ?_, ?_, ?_⟩, by simp [put]⟩
    · simp [run_underlying ht, hg, K.check, hf, ha, MapKept.run_setObj_map _ h1, put]
    · rw [hm, map_eraseIdx', map_eraseIdx', h2]
    · rw [hm, map_eraseIdx']
      exact h3.sublist (List.eraseIdx_sublist _ _)
    · rw [hm]
      exact fun e he => h4 e ((List.eraseIdx_sublist _ _).subset he)
end Go.Proofs.YtknpglgpkkhhiaaDoor.ML

/- What is found behind a deletion; keys without doubles. -/
namespace Go.Proofs.YtknpglgpkkhhiaaDoor.ML
set_option linter.unusedSimpArgs false
set_option linter.unusedVariables false
variable {κ : Type} [DecidableEq κ]

def delR (x : κ) : List (κ × Value) → List (κ × Value)
  | [] => []
  | y :: r => if x = y.1 then r else y :: delR x r
theorem delR_from (x : κ) : ∀ (l : List (κ × Value)) (i : Nat), (match assocI x l i with | none => l | some y => l.eraseIdx (y.1 - i)) = delR x l
  | [], i => rfl
  | y :: r, i => by
    by_cases h : x = y.1
    · simp [assocI, delR, h]
    · have ih := delR_from x r (i + 1)
      simp only [assocI, delR, if_neg h]
      cases ha : assocI x r (i + 1) with
      | none => rw [ha] at ih; simp only at ih ⊢; rw [← ih]
      | some z =>
        obtain ⟨j, v⟩ := z
        rw [ha] at ih
        have hj := (assocI_spec x r (i + 1) j v ha).1
        simp only at ih ⊢
        rw [← ih, show j - i = (j - (i + 1)) + 1 by omega]
        rfl
theorem assocDel_eq (x : κ) (l : List (κ × Value)) : assocDel x l = delR x l := by
  have := delR_from x l 0
  unfold assocDel
  cases ha : assocI x l 0 with
  | none => rw [ha] at this; exact this
  | some y => rw [ha] at this; simpa using this
end Go.Proofs.YtknpglgpkkhhiaaDoor.ML

/- Maps whose keys are arrays of four numbers; ranges over a map that stays as it is. No function of the program here. -/
namespace Go.Proofs.YtknpglgpkkhhiaaDoor.ML
open Go
set_option linter.unusedSimpArgs false
set_option linter.unusedVariables false

abbrev Q4 := Int × Int × Int × Int
def quadV (x : Q4) : Value := .agg #[.int .i64 x.1, .int .i64 x.2.1, .int .i64 x.2.2.1, .int .i64 x.2.2.2]
section
variable {P : Program} {kt e : TypeId}
theorem eqIn_quad (hu : P.underlying kt = some (.array 4 e)) (he : P.underlying e = some (.int .i64)) (hc : P.cellsOf e = 1) (n : Nat) (x y : Q4) (w : World) :
    (Op.equalIn (n + 2) kt (quadV x) (quadV y)).run P w = .ok (decide (x = y)) w := by
  obtain ⟨a, b, a3, a4⟩ := x
  obtain ⟨c, d, c3, c4⟩ := y
  obtain ⟨i, hi⟩ := info_of_underlying he
  have pk : P.plainKey e = true := by simp [Program.plainKey, he]
  unfold quadV
  rw [Op.equalIn]
  have p0 (x y z u : Int) : (part e #[.int .i64 x, .int .i64 y, .int .i64 z, .int .i64 u] 0).run P w = .ok (.int .i64 x) w := run_part_plain w pk rfl
  have p1 (x y z u : Int) : (part e #[.int .i64 x, .int .i64 y, .int .i64 z, .int .i64 u] 1).run P w = .ok (.int .i64 y) w := run_part_plain w pk rfl
  have p2 (x y z u : Int) : (part e #[.int .i64 x, .int .i64 y, .int .i64 z, .int .i64 u] 2).run P w = .ok (.int .i64 z) w := run_part_plain w pk rfl
  have p3 (x y z u : Int) : (part e #[.int .i64 x, .int .i64 y, .int .i64 z, .int .i64 u] 3).run P w = .ok (.int .i64 u) w := run_part_plain w pk rfl
  simp [run_underlying hu, run_sizeOf w hi, hc]
  rw [show List.range' 0 4 = [0, 1, 2, 3] from rfl]
  by_cases h1 : a = c <;> by_cases h2 : b = d <;> by_cases h3 : a3 = c3 <;> by_cases h4 : a4 = c4 <;> simp [List.forIn_cons, p0, p1, p2, p3, run_equalIn_int _ _ _ _ _ _ _ he, h1, h2, h3, h4]
theorem check_quad (hu : P.underlying kt = some (.array 4 e)) (he : P.underlying e = some (.int .i64)) (hc : P.cellsOf e = 1) (q : Bool) (n : Nat) (x : Q4) (w : World) :
    (Instr.checkKey q (n + 2) kt (quadV x)).run P w = .ok () w := by
  obtain ⟨a, b, c, d⟩ := x
  obtain ⟨i, hi⟩ := info_of_underlying he
  have pk : P.plainKey e = true := by simp [Program.plainKey, he]
  unfold quadV
  rw [Instr.checkKey]
  have p0 (x y z u : Int) : (part e #[.int .i64 x, .int .i64 y, .int .i64 z, .int .i64 u] 0).run P w = .ok (.int .i64 x) w := run_part_plain w pk rfl
  have p1 (x y z u : Int) : (part e #[.int .i64 x, .int .i64 y, .int .i64 z, .int .i64 u] 1).run P w = .ok (.int .i64 y) w := run_part_plain w pk rfl
  have p2 (x y z u : Int) : (part e #[.int .i64 x, .int .i64 y, .int .i64 z, .int .i64 u] 2).run P w = .ok (.int .i64 z) w := run_part_plain w pk rfl
  have p3 (x y z u : Int) : (part e #[.int .i64 x, .int .i64 y, .int .i64 z, .int .i64 u] 3).run P w = .ok (.int .i64 u) w := run_part_plain w pk rfl
  simp [run_underlying hu]
  rw [show List.range' 0 4 = [0, 1, 2, 3] from rfl]
  have hq (x : Int) : (Instr.checkKey q (n + 1) e (.int .i64 x)).run P w = .ok () w := by
    rw [Instr.checkKey]; simp [run_underlying he]
  simp [List.forIn_cons, run_sizeOf w hi, hc, p0, p1, p2, p3, hq]
theorem quad_keys (hu : P.underlying kt = some (.array 4 e)) (he : P.underlying e = some (.int .i64)) (hc : P.cellsOf e = 1) : KeyL P kt quadV where
  check q x w := check_quad hu he hc q 9998 x w
  find x es l w h := by
    unfold Instr.findKey
    cases es with
    | nil => cases l with
      | nil => simp [run_underlying hu, Instr.findNow, assocI]
      | cons y l => cases h
    | cons e0 es =>
      simp [run_underlying hu, Instr.findNow, Instr.sameNow]
      exact findAsking_of (fun x y w => eqIn_quad hu he hc 9998 x y w) x w _ l 0 h
  stays x w := by
    unfold Instr.keyThatStays
    have : Instr.sameBits 10000 (quadV x) (quadV x) = true := by
      show Instr.sameBits (9999 + 1) (quadV x) (quadV x) = true
      simp [quadV, Instr.sameBits]
    simp [this]
end

/-! ### Sets -/
def setK {κ : Type} (L : List κ) : List (κ × Value) := L.map fun x => (x, .bool true)
section
variable {κ : Type} [DecidableEq κ]
theorem assoc_setK (x : κ) : ∀ L : List κ, assoc x (setK L) = if x ∈ L then some (.bool true) else none
  | [] => by simp [setK, assoc]
  | y :: r => by
    have ih := assoc_setK x r
    unfold setK at ih ⊢
    simp only [List.map_cons, assoc, ih, List.mem_cons]
    by_cases h : x = y
    · simp [h]
    · simp [h]
theorem setK_has (x : κ) (L : List κ) : (assoc x (setK L)).getD (.bool false) = .bool (decide (x ∈ L)) := by
  rw [assoc_setK]
  by_cases h : x ∈ L <;> simp [h]
def addK (x : κ) (L : List κ) : List κ := if x ∈ L then L else L ++ [x]
theorem mem_addK {x y : κ} {L : List κ} : y ∈ addK x L ↔ y = x ∨ y ∈ L := by
  unfold addK
  split
  · rename_i h
    exact ⟨.inr, fun e => e.elim (fun e => e ▸ h) id⟩
  · simp [or_comm]
theorem nodup_addK {x : κ} {L : List κ} (h : L.Nodup) : (addK x L).Nodup := by
  unfold addK
  split
  · exact h
  · rename_i hx
    exact List.nodup_append.2 ⟨h, by simp, fun a ha b hb => by simp at hb; subst hb; exact fun e => hx (e ▸ ha)⟩
theorem set_setK (x : κ) : ∀ L : List κ, assocSet x (.bool true) (setK L) = setK (addK x L)
  | [] => by simp [setK, assocSet, addK]
  | y :: r => by
    have ih := set_setK x r
    unfold setK addK at *
    simp only [List.map_cons, assocSet]
    by_cases h : x = y
    · simp [h]
    · simp only [h, if_false, ih, List.mem_cons, false_or]
      split <;> simp
end

/-! ### Ranges -/
/-- Block b is a map of these, block r an iterator over it that has handed out those keys. -/
def IterIs {κ : Type} (kv : κ → Value) (b : Nat) (l : List (κ × Value)) (r : Nat) (done : List κ) (w : World) : Prop :=
  ∃ es clock since seen c0, w.heap[b]? = some (.map es clock) ∧ es.toList.map (fun e => (e.key, e.val)) = l.map (fun y => (kv y.1, y.2)) ∧
    (es.toList.map (·.born)).Pairwise (· < ·) ∧ (∀ e ∈ es.toList, e.born < clock) ∧ (∀ e ∈ es.toList, e.born < since) ∧ (since ≤ c0 ∧ since ≤ clock) ∧ w.heap[r]? = some (.mapIter (some b) since seen c0) ∧
    ∀ (j : Nat) (e : MapEntry) (y : κ × Value), es.toList[j]? = some e → l[j]? = some y → (seen.contains e.born = true ↔ y.1 ∈ done)
section
variable {κ : Type} {P : Program} {kv : κ → Value} {b r : Nat} {l : List (κ × Value)} {done : List κ} {w w' : World}
theorem IterIs.map (h : IterIs kv b l r done w) : MapIs kv b l w := by
  obtain ⟨es, clock, since, seen, c0, h1, h2, h3, h4, h5, h6, h7, h8⟩ := h
  exact ⟨es, clock, h1, h2, h3, h4⟩
theorem IterIs.of_blocks (h : IterIs kv b l r done w) (hb : w'.heap[b]? = w.heap[b]?) (hr : w'.heap[r]? = w.heap[r]?) : IterIs kv b l r done w' := by
  obtain ⟨es, clock, since, seen, c0, h1, h2, h3, h4, h5, h6, h7, h8⟩ := h
  exact ⟨es, clock, since, seen, c0, hb.trans h1, h2, h3, h4, h5, h6, hr.trans h7, h8⟩
theorem IterIs.lt (h : IterIs kv b l r done w) : b < w.heap.size ∧ r < w.heap.size := by
  obtain ⟨es, clock, since, seen, c0, h1, h2, h3, h4, h5, h6, h7, h8⟩ := h
  exact ⟨(Array.getElem?_eq_some_iff.1 h1).1, (Array.getElem?_eq_some_iff.1 h7).1⟩
/-- 'range m'. -/
theorem MapIs.range {t k e : TypeId} (ht : P.underlying t = some (.map k e)) (h : MapIs kv b l w) :
    ∃ o, (Instr.range t (.map (some b))).run P w = .ok (.pointer (some ⟨w.heap.size, 0, none⟩)) (w.alloc o) ∧ IterIs kv b l w.heap.size [] (w.alloc o) := by
  obtain ⟨es, clock, h1, h2, h3, h4⟩ := h
  refine ⟨.mapIter (some b) clock #[] clock, run_range_map w t k e b es clock ht h1, es, clock, clock, #[], clock, ?_, h2, h3, h4, h4, ⟨Nat.le_refl _, Nat.le_refl _⟩, heap_alloc_new w _, fun j e y _ _ => by simp⟩
  rw [heap_alloc_old w _ (Array.getElem?_eq_some_iff.1 h1).1]
  exact h1
/-- 'next', and what stands there then. -/
theorem IterIs.next (h : IterIs kv b l r done w) (hnd : (l.map (·.1)).Nodup) (ty : TypeId) :
    ((∀ y ∈ l, y.1 ∈ done) ∧ (Instr.next (.pointer (some ⟨r, 0, none⟩)) false ty).run P w = .ok (.tuple #[.bool false]) w) ∨
    ∃ x v, (x, v) ∈ l ∧ x ∉ done ∧ ∃ w', (Instr.next (.pointer (some ⟨r, 0, none⟩)) false ty).run P w = .ok (.tuple #[.bool true, kv x, v]) w' ∧ IterIs kv b l r (x :: done) w' ∧
      (Instr.entry (.pointer (some ⟨r, 0, none⟩))).run P w' = .ok (.tuple #[kv x, v]) w' ∧ w.grownBy w' (some r) ∧ w'.heap.size = w.heap.size := by
  obtain ⟨es, clock, since, seen, c0, h1, h2, h3, h4, h5, h6, h7, h8⟩ := h
  have hlen : es.toList.length = l.length := by simpa using congrArg List.length h2
  have hbr : b ≠ r := by
    rintro rfl
    rw [h1] at h7
    cases h7
  have hnb : (es.toList.map (·.born)).Nodup := h3.imp fun h => Nat.ne_of_lt h
  rcases run_next_at (P := P) w ty r b since c0 seen es clock h7 h1 h5 h6.1 with ⟨h0, hrun⟩ | ⟨e, he, w1, hw1, hrun⟩
  · refine .inl ⟨fun y hy => ?_, hrun⟩
    obtain ⟨j, hj, hjy⟩ := List.mem_iff_getElem.1 hy
    have hj2 : j < es.toList.length := by omega
    refine (h8 j es.toList[j] y (List.getElem?_eq_getElem hj2) (by rw [List.getElem?_eq_getElem hj, hjy])).1 ?_
    cases hc : seen.contains es.toList[j].born with
    | true => rfl
    | false =>
      have hm : es.toList[j] ∈ leftOf es seen := by
        unfold leftOf
        rw [Array.mem_filter]
        exact ⟨by simp, by rw [hc]; rfl⟩
      have : 0 < (leftOf es seen).size := Array.size_pos_of_mem hm
      omega
  · have he' : e ∈ leftOf es seen := by simpa using he
    unfold leftOf at he'
    rw [Array.mem_filter] at he'
    obtain ⟨hee, hes⟩ := he'
    have hel : e ∈ es.toList := by simpa using hee
    obtain ⟨j, hj, hje⟩ := List.mem_iff_getElem.1 hel
    have hj2 : j < l.length := by omega
    have hkv : (e.key, e.val) = (kv l[j].1, l[j].2) := by
      have := congrArg (fun z => z[j]?) h2
      simp only [List.getElem?_map, List.getElem?_eq_getElem hj, List.getElem?_eq_getElem hj2, Option.map_some, Option.some.injEq, hje] at this
      exact this
    simp only [Prod.mk.injEq] at hkv
    have hejs : es.toList[j]? = some e := by rw [List.getElem?_eq_getElem hj, hje]
    have hljs : l[j]? = some l[j] := List.getElem?_eq_getElem hj2
    have hw1h : w1.heap = w.heap := by rcases hw1 with rfl | rfl <;> rfl
    have hrlt : r < w1.heap.size := by rw [hw1h]; exact (Array.getElem?_eq_some_iff.1 h7).1
    have hR : (ChangeMaps.setBlock w1 r (.mapIter (some b) since (seen.push e.born) clock)).heap[r]? = some (.mapIter (some b) since (seen.push e.born) clock) := by simp [ChangeMaps.setBlock, hrlt]
    have hO : ∀ k, k ≠ r → (ChangeMaps.setBlock w1 r (.mapIter (some b) since (seen.push e.born) clock)).heap[k]? = w.heap[k]? := fun k hk => by
      have : r ≠ k := fun e => hk e.symm
      simp [ChangeMaps.setBlock, this, hw1h]
    have hB := (hO b hbr).trans h1
    refine .inr ⟨l[j].1, l[j].2, List.getElem_mem hj2, fun hd => ?_, _, by rw [hrun, hkv.1, hkv.2], ⟨es, clock, since, seen.push e.born, clock, hB, h2, h3, h4, h5, ?_, hR, fun i e2 y2 hi hy => ?_⟩, ?_, ⟨?_, ?_, ?_, ?_, fun k hk hn => hO k fun e => hn (by rw [e])⟩, ?_⟩
    · have := (h8 j e l[j] hejs hljs).2 hd
      rw [this] at hes
      cases hes
    · exact ⟨h6.2, h6.2⟩
    · have key : e2.born = e.born ↔ y2.1 = l[j].1 := by
        constructor
        · intro hb2
          have hij : i = j := by
            have hil := (List.getElem?_eq_some_iff.1 hi)
            obtain ⟨hil1, hil2⟩ := hil
            rw [List.nodup_iff_pairwise_ne, List.pairwise_iff_getElem] at hnb
            rcases Nat.lt_trichotomy i j with h9 | h9 | h9
            · exact (hnb i j (by simpa using hil1) (by simpa using hj) h9 (by simp [hil2, hje, hb2])).elim
            · exact h9
            · exact (hnb j i (by simpa using hj) (by simpa using hil1) h9 (by simp [hil2, hje, hb2])).elim
          subst hij
          rw [hljs] at hy
          cases hy
          rfl
        · intro hb2
          have hij : i = j := by
            obtain ⟨hil1, hil2⟩ := List.getElem?_eq_some_iff.1 hy
            rw [List.nodup_iff_pairwise_ne, List.pairwise_iff_getElem] at hnd
            rcases Nat.lt_trichotomy i j with h9 | h9 | h9
            · exact (hnd i j (by simpa using hil1) (by simpa using hj2) h9 (by simp [hil2, hb2])).elim
            · exact h9
            · exact (hnd j i (by simpa using hj2) (by simpa using hil1) h9 (by simp [hil2, hb2])).elim
          subst hij
          rw [hejs] at hi
          cases hi
          rfl
      have h9 := h8 i e2 y2 hi hy
      rw [Array.contains_push, Bool.or_eq_true, beq_iff_eq, List.mem_cons, h9, key, or_comm]
    · have := run_entry_at (P := P) _ r b since seen es clock e hR hB hel hnb
      rw [hkv.1, hkv.2] at this
      exact this
    · rcases hw1 with rfl | rfl <;> rfl
    · rcases hw1 with rfl | rfl <;> rfl
    · rcases hw1 with rfl | rfl <;> rfl
    · simp [ChangeMaps.setBlock, hw1h]
    · simp [ChangeMaps.setBlock, hw1h]
end
end Go.Proofs.YtknpglgpkkhhiaaDoor.ML

/- slices.IndexFunc, slices.ContainsFunc at ricks. -/
namespace Go.Proofs.YtknpglgpkkhhiaaDoor
set_option linter.unusedSimpArgs false
set_option linter.unusedVariables false
open Go.RowKit
abbrev encR (x : Int × Int × Int) : Value := .agg #[.int .i64 x.1, .int .i64 x.2.1, .int .i64 x.2.2]
def idxR (p : Int × Int × Int → Bool) (xs : List (Int × Int × Int)) : Int := match xs.findIdx? p with | some i => (i : Int) | none => -1

set_option maxRecDepth 100000 in
set_option maxHeartbeats 2000000 in
theorem indexFuncR_any (g : Nat) (caps : Array Value) (p : Int × Int × Int → Bool) (xs : List (Int × Int × Int)) (u : Value) (w : World) (hu : RL xs u w)
    (hg : Asks g caps encR p w) :
    Calls Tryd.prog 105 #[u, .func (.func g) #[] caps] w
      fun e w' => e = .returned (.int .i64 (idxR p xs)) ∧ Below w.heap.size w w' := by
  obtain ⟨p0, cp, rfl, hm, hc⟩ := hu
  unfold maxLen at hm
  have HG := Lib.hid hg
  have HC := Lib.hid hc
  clear hg hc
  go_enter Tryd.func105, Tryd.ntmps105
  go_wp2
  go_loopw [8] (fun i wr => ∃ k : Nat, k ≤ xs.length ∧ i = .int .i64 k ∧ (∀ x ∈ xs.take k, p x = false) ∧ Below w.heap.size w wr) (fun i _ => xs.length - (intOf i).toNat)
  case atStart => exact ⟨0, Nat.zero_le _, rfl, by simp, Below.refl _ _⟩
  case round =>
    obtain ⟨k, hk, rfl, hno, hB⟩ := hrel
    by_cases hlt : k < xs.length
    · have hx : xs ≠ [] := by intro e; simp [e] at hlt
      obtain ⟨b, off, rfl, hcp⟩ := HC.out hx
      obtain ⟨d1, d2, d3⟩ := hcp k hlt
      have e1 := keepsB hB d1
      have e2 := keepsB hB d2
      have e3 := keepsB hB d3
      have hklt : (k : Int) < xs.length := by omega
      have hent := HG.out.1
      have hcall := Lib.hid (HG.out.2 wr xs[k] hB)
      have hget : Hid (xs[k]? = some xs[k]) := List.getElem?_eq_getElem hlt
      clear d1 d2 d3 hcp hx
      generalize xs[k] = x at *
      obtain ⟨x1, x2, x3⟩ := x
      have HNO := Lib.hid hno
      clear hno
      cases hp : p (x1, x2, x3)
      · have hp' := Lib.hid hp
        rw [hp] at hcall
        clear hp
        go_wp2_with fail
        refine hcall.out.mono ?_
        rintro e W1 ⟨rfl, hB1⟩
        have hB2 := hB.trans (hB1.mono hB.size)
        go_wp2_with fail
        go_roundw
        case rel =>
          refine ⟨k + 1, by omega, by go_num, ?_, hB2⟩
          rw [List.take_add_one, hget.out]
          intro y hy
          simp at hy
          rcases hy with hy | rfl
          · exact HNO.out y hy
          · exact hp'.out
        case measure => simp [intOf]; omega
      · have hp' := Lib.hid hp
        rw [hp] at hcall
        clear hp
        go_wp2_with fail
        refine hcall.out.mono ?_
        rintro e W1 ⟨rfl, hB1⟩
        have hB2 := hB.trans (hB1.mono hB.size)
        go_wp2_with fail
        go_ret
        refine ⟨?_, hB2⟩
        have : xs.findIdx? p = some k := by
          rw [List.findIdx?_eq_some_iff_getElem]
          refine ⟨hlt, ?_, ?_⟩
          · have := hget.out; rw [List.getElem?_eq_getElem hlt] at this; rw [Option.some.inj this]; exact hp'.out
          · intro j hj
            have := HNO.out xs[j] (by rw [List.mem_take_iff_getElem]; exact ⟨j, by omega, rfl⟩)
            simp [this]
        simp [idxR, this]
    · obtain rfl : k = xs.length := by omega
      go_wp2_with fail
      go_ret
      refine ⟨?_, hB⟩
      have : xs.findIdx? p = none := by
        rw [List.findIdx?_eq_none_iff]
        simpa using hno
      simp [idxR, this]

theorem containsFuncR_any (g : Nat) (caps : Array Value) (p : Int × Int × Int → Bool) (xs : List (Int × Int × Int)) (u : Value) (w : World) (hu : RL xs u w)
    (hg : Asks g caps encR p w) :
    Calls Tryd.prog 138 #[u, .func (.func g) #[] caps] w
      fun e w' => e = .returned (.bool (xs.any p)) ∧ Below w.heap.size w w' := by
  have H := Lib.hid (indexFuncR_any g caps p xs u w hu hg)
  have hv : xs.any p = decide (0 ≤ idxR p xs) := by
    unfold idxR
    cases h : xs.findIdx? p with
    | none =>
      rw [List.findIdx?_eq_none_iff] at h
      simp
      intro a c d hx
      exact h _ hx
    | some i =>
      rw [List.findIdx?_eq_some_iff_getElem] at h
      obtain ⟨hi, hp, _⟩ := h
      simp
      exact ⟨xs[i].1, xs[i].2.1, xs[i].2.2, List.getElem_mem hi, hp⟩
  rw [hv]
  generalize idxR p xs = v at *
  obtain ⟨p0, cp, rfl, _, _⟩ := hu
  clear hg hv
  go_enter Tryd.func138, Tryd.ntmps138
  go_wp2_with fail
  refine H.out.mono ?_
  rintro e W1 ⟨rfl, hB1⟩
  go_wp2_with fail
  go_ret
  exact ⟨rfl, hB1⟩

end Go.Proofs.YtknpglgpkkhhiaaDoor

/- The place of a rick. -/
namespace Go.Proofs.YtknpglgpkkhhiaaDoor
set_option linter.unusedSimpArgs false
set_option linter.unusedVariables false
open Go.RowKit

/-- r is the place of the first with the number; -1: there is none. -/
def RickIs (xs : List (Int × Int × Int)) (id r : Int) : Prop := (r = -1 ∧ ∀ x ∈ xs, x.1 ≠ id) ∨ (∃ k : Nat, ∃ h : k < xs.length, r = k ∧ xs[k].1 = id ∧ ∀ j (hj : j < k), (xs[j]'(Nat.lt_trans hj h)).1 ≠ id)
theorem RickIs.unique {xs : List (Int × Int × Int)} {id r r' : Int} (h : RickIs xs id r) (h' : RickIs xs id r') : r = r' := by
  rcases h with ⟨rfl, h⟩ | ⟨k, hk, rfl, h1, h2⟩
  · rcases h' with ⟨rfl, _⟩ | ⟨k, hk, rfl, h1, _⟩
    · rfl
    · exact absurd h1 (h _ (List.getElem_mem hk))
  · rcases h' with ⟨rfl, h⟩ | ⟨k', hk', rfl, h1', h2'⟩
    · exact absurd h1 (h _ (List.getElem_mem hk))
    · rcases Nat.lt_trichotomy k k' with h | h | h
      · exact absurd h1 (h2' k h)
      · rw [h]
      · exact absurd h1' (h2 k' h)
set_option maxRecDepth 100000 in
set_option maxHeartbeats 2000000 in
theorem rickR_any (h id : Int) (xs : List (Int × Int × Int)) (u : Value) (w : World) (hu : RL xs u w) :
    Calls Tryd.prog 88 #[.agg #[.int .i64 h, u], .int .i64 id] w fun e w' => (∃ r : Int, e = .returned (.int .i64 r) ∧ RickIs xs id r) ∧ Below w.heap.size w w' := by
  obtain ⟨p, cp, rfl, hm, hp⟩ := hu
  unfold maxLen at hm
  have HP := Lib.hid hp
  clear hp
  have hB0 : Below w.heap.size w (w.alloc (.cells #[.int .i64 h, .slice p xs.length cp] 24)) := (Below.refl _ w).alloc (Nat.le_refl _) _
  have n0 : (w.alloc (.cells #[.int .i64 h, .slice p xs.length cp] 24)).cell? ⟨w.heap.size, 1, none⟩ = some (.slice p xs.length cp) := by simp [go_sem]
  have FA : ∀ W, Free.Bel (w.alloc (.cells #[.int .i64 h, .slice p xs.length cp] 24)) W → W.cell? ⟨w.heap.size, 1, none⟩ = some (.slice p xs.length cp) := fun W hW => keepsB hW n0
  clear n0
  go_enter Tryd.func88, Tryd.ntmps88
  go_wp2_with fail
  generalize w.alloc (.cells #[.int .i64 h, .slice p xs.length cp] 24) = w1 at *
  go_loopw [5] (fun i wr => ∃ k : Nat, k ≤ xs.length ∧ i = .int .i64 k ∧ Hid (∀ j (hj : j < xs.length), j < k → xs[j].1 ≠ id) ∧ Free.Bel w1 wr) (fun i _ => xs.length - (intOf i).toNat)
  case atStart => exact ⟨0, Nat.zero_le _, rfl, fun j _ hj => by omega, Free.Bel.refl _⟩
  case round =>
    obtain ⟨k, hk, rfl, hno, hB⟩ := hrel
    have hww : Below w.heap.size w wr := hB0.trans (hB.mono hB0.size)
    by_cases hlt : k < xs.length
    · have hx : xs ≠ [] := by intro e; simp [e] at hlt
      obtain ⟨b, off, rfl, hcp⟩ := HP.out hx
      have e1 := keepsB hww (hcp k hlt).1
      have hklt : (k : Int) < xs.length := by omega
      clear hcp hx
      by_cases he : xs[k].1 = id
      · have HE := Lib.hid he
        have k1 : (xs[k].1 == id) = true := by simp [he]
        clear he
        generalize xs[k].1 = x at e1 k1
        go_wp2_with fail
        go_ret
        exact ⟨⟨_, rfl, .inr ⟨k, hlt, rfl, HE.out, fun j hj => hno.out j (by omega) hj⟩⟩, hww⟩
      · have HE := Lib.hid he
        have k1 : (xs[k].1 == id) = false := by simp [he]
        clear he
        generalize xs[k].1 = x at e1 k1
        go_wp2_with fail
        go_roundw
        case rel => exact ⟨k + 1, by omega, by go_num, fun j hj hjk => by
          rcases Nat.lt_or_ge j k with h9 | h9
          · exact hno.out j hj h9
          · obtain rfl : j = k := by omega
            exact HE.out, hB⟩
        case measure => simp [intOf]; omega
    · obtain rfl : k = xs.length := by omega
      go_wp2_with fail
      go_ret
      exact ⟨⟨_, rfl, .inl ⟨rfl, fun x hx => by
        obtain ⟨j, hj, rfl⟩ := List.mem_iff_getElem.1 hx
        exact hno.out j hj hj⟩⟩, hww⟩
theorem RickIs.some (xs : List (Int × Int × Int)) (id : Int) : ∃ r, RickIs xs id r := by
  cases hf : xs.findIdx? (fun x => x.1 == id) with
  | none =>
    rw [List.findIdx?_eq_none_iff] at hf
    exact ⟨-1, .inl ⟨rfl, fun x hx => by simpa using hf x hx⟩⟩
  | some k =>
    rw [List.findIdx?_eq_some_iff_getElem] at hf
    obtain ⟨h1, h2, h3⟩ := hf
    exact ⟨k, .inr ⟨k, h1, rfl, by simpa using h2, fun j hj => by simpa using h3 j hj⟩⟩
theorem rickR_v (h id : Int) (xs : List (Int × Int × Int)) (u : Value) (w : World) (hu : RL xs u w) (r : Int) (hr : Hid (RickIs xs id r)) :
    Calls Tryd.prog 88 #[.agg #[.int .i64 h, u], .int .i64 id] w fun e w' => e = .returned (.int .i64 r) ∧ Below w.heap.size w w' :=
  (rickR_any h id xs u w hu).mono fun e w' ⟨⟨r', h1, h2⟩, hB⟩ => ⟨by rw [h1, h2.unique hr.out], hB⟩
end Go.Proofs.YtknpglgpkkhhiaaDoor

/- The program's Check of a watch; the place of a rick. -/
namespace Go.Proofs.YtknpglgpkkhhiaaDoor
set_option linter.unusedSimpArgs false
set_option linter.unusedVariables false
open Go.RowKit

def timeB (x : Int × Int × Int) : Bool := inB 1 6 [x.2.1] && inB 0 (x.2.1 - 1) [x.2.2]
def idsB (last : Int) : List (Int × Int × Int) → Bool
  | [] => true
  | x :: r => inB (last + 1) 9999 [x.1] && idsB x.1 r
theorem risesB_parts : ∀ (last : Int) (xs : List (Int × Int × Int)), risesB last xs = (idsB last xs && xs.all timeB)
  | _, [] => rfl
  | last, x :: r => by
    simp only [risesB, idsB, List.all_cons, timeB, risesB_parts x.1 r]
    cases inB (last + 1) 9999 [x.1] <;> cases inB 1 6 [x.2.1] <;> cases inB 0 (x.2.1 - 1) [x.2.2] <;> cases idsB x.1 r <;> simp

set_option maxRecDepth 100000 in
set_option maxHeartbeats 2000000 in
theorem index1_any (x1 x2 x3 id : Int) (ab : Nat) (w : World) (h : w.cell? ⟨ab, 0, none⟩ = some (.int .i64 id)) :
    Calls Tryd.prog 106 #[.agg #[.int .i64 x1, .int .i64 x2, .int .i64 x3], .pointer (some ⟨ab, 0, none⟩)] w fun e w' => e = .returned (.bool (x1 == id)) ∧ Below w.heap.size w w' := by
  have KA : Free.Bel w (w.alloc (.cells #[.int .i64 x1, .int .i64 x2, .int .i64 x3] 47)) := belAlloc _ _
  have h1 := keepsB KA h
  go_enter Tryd.func106, Tryd.ntmps106
  go_wp2_with fail
  go_ret
  exact ⟨by simp, KA⟩

theorem idxR_is (xs : List (Int × Int × Int)) (id : Int) : RickIs xs id (idxR (fun x => x.1 == id) xs) := by
  unfold idxR
  cases hf : xs.findIdx? (fun x => x.1 == id) with
  | none =>
    rw [List.findIdx?_eq_none_iff] at hf
    exact .inl ⟨rfl, fun x hx => by simpa using hf x hx⟩
  | some k =>
    rw [List.findIdx?_eq_some_iff_getElem] at hf
    obtain ⟨h1, h2, h3⟩ := hf
    exact .inr ⟨k, h1, rfl, by simpa using h2, fun j hj => by simpa using h3 j hj⟩

set_option maxRecDepth 100000 in
set_option maxHeartbeats 2000000 in
theorem indexP_v (h id : Int) (xs : List (Int × Int × Int)) (u : Value) (w : World) (hu : RL xs u w) (r : Int) (hr : Hid (RickIs xs id r)) :
    Calls Tryd.prog 86 #[.agg #[.int .i64 h, u], .int .i64 id] w fun e w' => e = .returned (.int .i64 r) ∧ Below w.heap.size w w' := by
  have hu' := hu
  obtain ⟨p, cp, rfl, _, _⟩ := hu'
  have hB : Below w.heap.size w ((w.alloc (.cells #[.int .i64 h, .slice p xs.length cp] 24)).alloc (.cells #[.int .i64 id] 3)) := ((Below.refl _ w).alloc (Nat.le_refl _) _).alloc (by simp) _
  have H := Lib.hid (indexFuncR_any 106 #[.pointer (some ⟨w.heap.size + 1, 0, none⟩)] (fun x => x.1 == id) xs _ _ (hu.keeps hB)
    ⟨Go.Proofs.enters_of Tryd.func106 (by kernel_rfl) rfl, fun W x hW => index1_any x.1 x.2.1 x.2.2 id _ W ((hW.cell (p := ⟨w.heap.size + 1, 0, none⟩) (by simp)).trans (by simp [go_sem]))⟩)
  have hv : idxR (fun x => x.1 == id) xs = r := (idxR_is xs id).unique hr.out
  rw [hv] at H
  clear hu hv
  go_enter Tryd.func86, Tryd.ntmps86
  go_wp2_with fail
  refine H.out.mono ?_
  rintro e W1 ⟨rfl, hB1⟩
  go_wp2_with fail
  go_ret
  exact ⟨rfl, hB.trans (hB1.mono (by simp; omega))⟩

set_option maxRecDepth 100000 in
set_option maxHeartbeats 2000000 in
theorem chk31_any (x1 x2 x3 : Int) (w : World) :
    Calls Tryd.prog 139 #[.agg #[.int .i64 x1, .int .i64 x2, .int .i64 x3]] w fun e w' => e = .returned (.bool (!timeB (x1, x2, x3))) ∧ Below w.heap.size w w' := by
  have KA : Free.Bel w (w.alloc (.cells #[.int .i64 x1, .int .i64 x2, .int .i64 x3] 47)) := belAlloc _ _
  cases h1 : inB 1 6 [x2]
  · have H1 := Lib.hid h1
    have hv : timeB (x1, x2, x3) = false := by simp [timeB, h1]
    rw [hv]
    clear h1 hv
    go_enter Tryd.func139, Tryd.ntmps139
    go_wp2_with fail
    refine (in_one _ _ x2 false _ _ H1.out (by simp [go_sem])).mono ?_
    rintro e w1 ⟨rfl, hB1⟩
    go_wp2_with fail
    go_ret
    exact ⟨rfl, bt KA (bt (belAlloc _ _) hB1)⟩
  · have H1 := Lib.hid h1
    have hb : 1 ≤ x2 ∧ x2 ≤ 6 := by simpa [inB] using h1
    have hwr : IntKind.i64.wrap (x2 - 1) = x2 - 1 := IntWalk.i64_in _ (by omega)
    obtain ⟨r, hr⟩ : ∃ r, inB 0 (x2 - 1) [x3] = r := ⟨_, rfl⟩
    have hv : timeB (x1, x2, x3) = r := by simp [timeB, h1, hr]
    have HR := Lib.hid hr
    have hx1 : ∀ W, Free.Bel (w.alloc (.cells #[.int .i64 x1, .int .i64 x2, .int .i64 x3] 47)) W → W.cell? ⟨w.heap.size, 1, none⟩ = some (.int .i64 x2) ∧ W.cell? ⟨w.heap.size, 2, none⟩ = some (.int .i64 x3) := fun W hW => ⟨keepsB hW (by simp [go_sem]), keepsB hW (by simp [go_sem])⟩
    rw [hv]
    clear h1 hv hr hb
    go_enter Tryd.func139, Tryd.ntmps139
    go_wp2_with fail
    refine (in_one _ _ x2 true _ _ H1.out (by simp [go_sem])).mono ?_
    rintro e w1 ⟨rfl, hB1⟩
    have K1 : Free.Bel (w.alloc (.cells #[.int .i64 x1, .int .i64 x2, .int .i64 x3] 47)) w1 := bt (belAlloc _ _) hB1
    clear hB1
    have hB9 : Free.Bel w w1 := bt KA K1
    clear KA
    go_wp2_with fail
    refine (in_one _ _ x3 r _ _ HR.out (by simp [go_sem])).mono ?_
    rintro e w2 ⟨rfl, hB2⟩
    go_wp2_with fail
    go_ret
    exact ⟨rfl, bt hB9 (bt (belAlloc _ _) hB2)⟩

set_option maxRecDepth 100000 in
set_option maxHeartbeats 2000000 in
theorem chk3_any (h : Int) (xs : List (Int × Int × Int)) (u : Value) (w : World) (hu : RL xs u w) :
    Calls Tryd.prog 137 #[.agg #[.int .i64 h, u]] w fun e w' => e = .returned (.bool (xs.all timeB)) ∧ Below w.heap.size w w' := by
  have hu' := hu
  obtain ⟨p, cp, rfl, _, _⟩ := hu'
  have hB : Below w.heap.size w (w.alloc (.cells #[.int .i64 h, .slice p xs.length cp] 24)) := (Below.refl _ w).alloc (Nat.le_refl _) _
  have H := Lib.hid (containsFuncR_any 139 #[] (fun x => !timeB x) xs _ _ (hu.keeps hB)
    ⟨Go.Proofs.enters_of Tryd.func139 (by kernel_rfl) rfl, fun W x _ => chk31_any x.1 x.2.1 x.2.2 W⟩)
  have hv : xs.all timeB = !(xs.any fun x => !timeB x) := by
    rw [List.not_any_eq_all_not]; simp
  rw [hv]
  generalize (xs.any fun x => !timeB x) = v at *
  clear hu hv
  go_enter Tryd.func137, Tryd.ntmps137
  go_wp2_with fail
  refine H.out.mono ?_
  rintro e W1 ⟨rfl, hB1⟩
  go_wp2_with fail
  go_ret
  exact ⟨rfl, hB.trans (hB1.mono (by simp))⟩

set_option maxRecDepth 100000 in
set_option maxHeartbeats 2000000 in
theorem chk1_any (h : Int) (n : Nat) (p : Option Addr) (cp : Nat) (w : World) :
    Calls Tryd.prog 135 #[.agg #[.int .i64 h, .slice p n cp]] w fun e w' => e = .returned (.bool (inB 0 3 [h] && decide ((n : Int) ≤ 4))) ∧ Below w.heap.size w w' := by
  have KA : Free.Bel w (w.alloc (.cells #[.int .i64 h, .slice p n cp] 24)) := belAlloc _ _
  have hx1 : ∀ W, Free.Bel (w.alloc (.cells #[.int .i64 h, .slice p n cp] 24)) W → W.cell? ⟨w.heap.size, 0, none⟩ = some (.int .i64 h) ∧ W.cell? ⟨w.heap.size, 1, none⟩ = some (.slice p n cp) := fun W hW => ⟨keepsB hW (by simp [go_sem]), keepsB hW (by simp [go_sem])⟩
  obtain ⟨r, hr⟩ : ∃ r, inB 0 3 [h] = r := ⟨_, rfl⟩
  have HR := Lib.hid hr
  rw [hr]
  clear hr
  cases r
  · go_enter Tryd.func135, Tryd.ntmps135
    go_wp2_with fail
    refine (in_one _ _ h false _ _ HR.out (by simp [go_sem])).mono ?_
    rintro e w1 ⟨rfl, hB1⟩
    have K1 : Free.Bel (w.alloc (.cells #[.int .i64 h, .slice p n cp] 24)) w1 := bt (belAlloc _ _) hB1
    clear hB1
    go_wp2_with fail
    go_ret
    exact ⟨rfl, bt KA K1⟩
  · go_enter Tryd.func135, Tryd.ntmps135
    go_wp2_with fail
    refine (in_one _ _ h true _ _ HR.out (by simp [go_sem])).mono ?_
    rintro e w1 ⟨rfl, hB1⟩
    have K1 : Free.Bel (w.alloc (.cells #[.int .i64 h, .slice p n cp] 24)) w1 := bt (belAlloc _ _) hB1
    clear hB1
    go_wp2_with fail
    go_ret
    exact ⟨by simp, bt KA K1⟩

set_option maxRecDepth 100000 in
set_option maxHeartbeats 4000000 in
theorem chk2_v (h : Int) (xs : List (Int × Int × Int)) (u : Value) (w : World) (hu : RL xs u w) (r : Bool) (hr : Hid (idsB 0 xs = r)) :
    Calls Tryd.prog 136 #[.agg #[.int .i64 h, u]] w fun e w' => e = .returned (.bool r) ∧ Below w.heap.size w w' := by
  obtain ⟨p, cp, rfl, hm, hp⟩ := hu
  unfold maxLen at hm
  have HP := Lib.hid hp
  clear hp
  have hB0 : Below w.heap.size w (w.alloc (.cells #[.int .i64 h, .slice p xs.length cp] 24)) := (Below.refl _ w).alloc (Nat.le_refl _) _
  go_enter Tryd.func136, Tryd.ntmps136
  go_wp2_with fail
  have HB0 := Lib.hid hB0
  clear hB0
  generalize w.alloc (.cells #[.int .i64 h, .slice p xs.length cp] 24) = w1 at *
  go_loopw [9, 3] (fun i l wr => ∃ (k : Nat) (last : Int), k ≤ xs.length ∧ i = .int .i64 k ∧ l = .int .i64 last ∧ 0 ≤ last ∧ last ≤ 9999 ∧ Hid (idsB last (xs.drop k) = r) ∧ Free.Bel w1 wr) (fun i _ _ => xs.length - (intOf i).toNat)
  case atStart => exact ⟨0, 0, Nat.zero_le _, rfl, rfl, by omega, by omega, hr, Free.Bel.refl _⟩
  case round =>
    obtain ⟨k, last, hk, rfl, rfl, hl0, hl1, hrest, hB⟩ := hrel
    have hww : Below w.heap.size w wr := HB0.out.trans (hB.mono HB0.out.size)
    by_cases hlt : k < xs.length
    · have hx : xs ≠ [] := by intro e; simp [e] at hlt
      obtain ⟨b, off, rfl, hcp⟩ := HP.out hx
      obtain ⟨d1, d2, d3⟩ := hcp k hlt
      have e1 := keepsB hww d1
      have e2 := keepsB hww d2
      have e3 := keepsB hww d3
      have hklt : (k : Int) < xs.length := by omega
      have hst : Hid ((inB (last + 1) 9999 [xs[k].1] && idsB xs[k].1 (xs.drop (k + 1))) = r) := by
        show _ = _
        rw [← hrest.out, List.drop_eq_getElem_cons hlt]; rfl
      clear hcp hx d1 d2 d3 hrest
      generalize xs[k] = x at *
      obtain ⟨x1, x2, x3⟩ := x
      have hlw : IntKind.i64.wrap (last + 1) = last + 1 := IntWalk.i64_in _ (by omega)
      have KA : Free.Bel wr (wr.alloc (.cells #[.int .i64 x1, .int .i64 x2, .int .i64 x3] 47)) := belAlloc _ _
      have hx1 : ∀ W, Free.Bel (wr.alloc (.cells #[.int .i64 x1, .int .i64 x2, .int .i64 x3] 47)) W → W.cell? ⟨wr.heap.size, 0, none⟩ = some (.int .i64 x1) := fun W hW => keepsB hW (by simp [go_sem])
      obtain ⟨q, hq⟩ : ∃ q, inB (last + 1) 9999 [x1] = q := ⟨_, rfl⟩
      have HQ := Lib.hid hq
      rw [hq] at hst
      cases q
      · obtain rfl : r = false := by rw [← hst.out, Bool.false_and]
        clear hq
        go_wp2_with fail
        refine (in_one _ _ x1 false _ _ HQ.out (by simp [go_sem])).mono ?_
        rintro e w3 ⟨rfl, hB3⟩
        have K3 : Free.Bel (wr.alloc (.cells #[.int .i64 x1, .int .i64 x2, .int .i64 x3] 47)) w3 := bt (belAlloc _ _) hB3
        clear hB3
        go_wp2_with fail
        go_ret
        exact ⟨rfl, hww.trans ((bt KA K3).mono hww.size)⟩
      · have hnext : Hid (idsB x1 (xs.drop (k + 1)) = r) := by show _ = _; rw [← hst.out, Bool.true_and]
        have hb1 : last + 1 ≤ x1 ∧ x1 ≤ 9999 := by simpa [inB] using hq
        clear hq
        go_wp2_with fail
        refine (in_one _ _ x1 true _ _ HQ.out (by simp [go_sem])).mono ?_
        rintro e w3 ⟨rfl, hB3⟩
        have K3 : Free.Bel (wr.alloc (.cells #[.int .i64 x1, .int .i64 x2, .int .i64 x3] 47)) w3 := bt (belAlloc _ _) hB3
        clear hB3
        go_wp2_with fail
        go_roundw
        case rel => exact ⟨k + 1, x1, by omega, by go_num, rfl, by omega, by omega, hnext, bt hB (bt KA K3)⟩
        case measure => simp [intOf]; omega
    · obtain rfl : k = xs.length := by omega
      obtain rfl : r = true := by rw [← hrest.out, List.drop_length]; rfl
      go_wp2_with fail
      go_ret
      exact ⟨rfl, hww⟩
end Go.Proofs.YtknpglgpkkhhiaaDoor

/- The program's Check of a watch, over its table. -/
namespace Go.Proofs.YtknpglgpkkhhiaaDoor
set_option linter.unusedSimpArgs false
set_option linter.unusedVariables false
open Go.RowKit

abbrev chkF (n : Nat) : Value := .func (.func n) #[] #[]
/-- The table of what a watch is asked. -/
def TabR (w : World) : Prop := w.cell? ⟨0, 0, none⟩ = some (chkF 135) ∧ w.cell? ⟨0, 1, none⟩ = some (chkF 136) ∧ w.cell? ⟨0, 2, none⟩ = some (chkF 137)
theorem TabR.bel {w W : World} (h : TabR w) (hB : Free.Bel w W) : TabR W := ⟨keepsB hB h.1, keepsB hB h.2.1, keepsB hB h.2.2⟩

set_option maxRecDepth 100000 in
set_option maxHeartbeats 4000000 in
theorem checkP_v (h : Int) (xs : List (Int × Int × Int)) (u : Value) (w : World) (hT : TabR w) (hu : RL xs u w) (c : Int) (hc : Hid ((if watchB h xs = true then 0 else 70) = c)) :
    Calls Tryd.prog 36 #[.agg #[.int .i64 h, u]] w fun e w' => e = .returned (.int .i64 c) ∧ Below w.heap.size w w' := by
  have HU := Lib.hid hu
  obtain ⟨p, cp, rfl, hm, _⟩ := hu
  have hw : watchB h xs = ((inB 0 3 [h] && decide ((xs.length : Int) ≤ 4)) && (idsB 0 xs && xs.all timeB)) := by
    rw [watchB, risesB_parts, show decide (xs.length ≤ 4) = decide ((xs.length : Int) ≤ 4) by simp; omega, Bool.and_assoc]
  have HW := Lib.hid hw
  clear hw
  have hB0 : Free.Bel w (w.alloc (.cells #[.int .i64 h, .slice p xs.length cp] 24)) := belAlloc _ _
  have FA : ∀ W, Free.Bel (w.alloc (.cells #[.int .i64 h, .slice p xs.length cp] 24)) W → W.cell? ⟨0, 0, none⟩ = some (chkF 135) ∧ W.cell? ⟨0, 1, none⟩ = some (chkF 136) ∧ W.cell? ⟨0, 2, none⟩ = some (chkF 137) ∧ W.cell? ⟨w.heap.size, 0, none⟩ = some (.int .i64 h) ∧ W.cell? ⟨w.heap.size, 1, none⟩ = some (.slice p xs.length cp) := fun W hW => ⟨keepsB (bt hB0 hW) hT.1, keepsB (bt hB0 hW) hT.2.1, keepsB (bt hB0 hW) hT.2.2, keepsB hW (by simp [go_sem]), keepsB hW (by simp [go_sem])⟩
  have KR : Free.Bel (w.alloc (.cells #[.int .i64 h, .slice p xs.length cp] 24)) (w.alloc (.cells #[.int .i64 h, .slice p xs.length cp] 24)) := Free.Bel.refl _
  clear hT
  go_enter Tryd.func36, Tryd.ntmps36
  go_wp2_with fail
  have HB0 := Lib.hid hB0
  clear hB0 KR
  generalize w.alloc (.cells #[.int .i64 h, .slice p xs.length cp] 24) = w1 at *
  go_loopw [6] (fun i wr => ∃ k : Nat, k ≤ 3 ∧ i = .int .i64 k ∧ Hid ((0 < k → (inB 0 3 [h] && decide ((xs.length : Int) ≤ 4)) = true) ∧ (1 < k → idsB 0 xs = true) ∧ (2 < k → xs.all timeB = true)) ∧ Free.Bel w1 wr) (fun i _ => 3 - (intOf i).toNat)
  case atStart => exact ⟨0, by omega, rfl, ⟨fun h => by omega, fun h => by omega, fun h => by omega⟩, Free.Bel.refl _⟩
  case round =>
    obtain ⟨k, hk, rfl, hq, hB⟩ := hrel
    by_cases hlt : k < 3
    · obtain rfl | rfl | rfl : k = 0 ∨ k = 1 ∨ k = 2 := by omega
      · obtain ⟨q, hq0⟩ : ∃ q, (inB 0 3 [h] && decide ((xs.length : Int) ≤ 4)) = q := ⟨_, rfl⟩
        have HQ : Hid ((inB 0 3 [h] && decide ((xs.length : Int) ≤ 4)) = q) := hq0
        clear hq0
        have hix : ∀ W : World, (Instr.index 121 (.agg #[chkF 135, chkF 136, chkF 137]) (.int .i64 0)).run Tryd.prog W = .ok (.agg #[chkF 135]) W := fun _ => by kernel_rfl
        have KA : Free.Bel w1 (wr.alloc (.cells #[chkF 135] 120)) := bt hB (belAlloc _ _)
        have KW : Free.Bel w (wr.alloc (.cells #[chkF 135] 120)) := bt HB0.out KA
        go_wp2_with fail
        have hcon : ∀ W, Free.Bel w W → Calls Tryd.prog 135 #[.agg #[.int .i64 h, .slice p xs.length cp]] W fun e w' => e = .returned (.bool q) ∧ Below W.heap.size W w' := fun W hW => by
          have hc9 := chk1_any h xs.length p cp W
          have hv : (inB 0 3 [h] && decide ((xs.length : Int) ≤ 4)) = q := HQ.out
          rw [hv] at hc9
          exact hc9
        refine (hcon _ KW).mono ?_
        rintro e w3 ⟨rfl, hB3⟩
        clear hcon
        have K3 : Free.Bel w1 w3 := bt KA hB3
        clear hB3
        cases q
        · go_wp2_with fail
          go_ret
          obtain rfl : c = 70 := by rw [← hc.out, if_neg]; rw [HW.out, HQ.out]; simp
          exact ⟨rfl, bt HB0.out K3⟩
        · go_wp2_with fail
          go_roundw
          case rel => exact ⟨1, by omega, by go_num, ⟨(fun _ => HQ.out), (fun h => by omega), (fun h => by omega)⟩, K3⟩
          case measure => simp [intOf]
      · obtain ⟨q, hq0⟩ : ∃ q, idsB 0 xs = q := ⟨_, rfl⟩
        have HQ : Hid (idsB 0 xs = q) := hq0
        clear hq0
        have hix : ∀ W : World, (Instr.index 121 (.agg #[chkF 135, chkF 136, chkF 137]) (.int .i64 1)).run Tryd.prog W = .ok (.agg #[chkF 136]) W := fun _ => by kernel_rfl
        have KA : Free.Bel w1 (wr.alloc (.cells #[chkF 136] 120)) := bt hB (belAlloc _ _)
        have KW : Free.Bel w (wr.alloc (.cells #[chkF 136] 120)) := bt HB0.out KA
        go_wp2_with fail
        have hcon : ∀ W, Free.Bel w W → Calls Tryd.prog 136 #[.agg #[.int .i64 h, .slice p xs.length cp]] W fun e w' => e = .returned (.bool q) ∧ Below W.heap.size W w' := fun W hW => by
          have hc9 := chk2_v h xs _ W (HU.out.keeps hW) q HQ
          have hv : idsB 0 xs = q := HQ.out
          clear hv
          exact hc9
        refine (hcon _ KW).mono ?_
        rintro e w3 ⟨rfl, hB3⟩
        clear hcon
        have K3 : Free.Bel w1 w3 := bt KA hB3
        clear hB3
        cases q
        · go_wp2_with fail
          go_ret
          obtain rfl : c = 70 := by rw [← hc.out, if_neg]; rw [HW.out, HQ.out]; simp
          exact ⟨rfl, bt HB0.out K3⟩
        · go_wp2_with fail
          go_roundw
          case rel => exact ⟨2, by omega, by go_num, ⟨(fun _ => hq.out.1 (by omega)), (fun _ => HQ.out), (fun h => by omega)⟩, K3⟩
          case measure => simp [intOf]
      · obtain ⟨q, hq0⟩ : ∃ q, xs.all timeB = q := ⟨_, rfl⟩
        have HQ : Hid (xs.all timeB = q) := hq0
        clear hq0
        have hix : ∀ W : World, (Instr.index 121 (.agg #[chkF 135, chkF 136, chkF 137]) (.int .i64 2)).run Tryd.prog W = .ok (.agg #[chkF 137]) W := fun _ => by kernel_rfl
        have KA : Free.Bel w1 (wr.alloc (.cells #[chkF 137] 120)) := bt hB (belAlloc _ _)
        have KW : Free.Bel w (wr.alloc (.cells #[chkF 137] 120)) := bt HB0.out KA
        go_wp2_with fail
        have hcon : ∀ W, Free.Bel w W → Calls Tryd.prog 137 #[.agg #[.int .i64 h, .slice p xs.length cp]] W fun e w' => e = .returned (.bool q) ∧ Below W.heap.size W w' := fun W hW => by
          have hc9 := chk3_any h xs _ W (HU.out.keeps hW)
          have hv : xs.all timeB = q := HQ.out
          rw [hv] at hc9
          exact hc9
        refine (hcon _ KW).mono ?_
        rintro e w3 ⟨rfl, hB3⟩
        clear hcon
        have K3 : Free.Bel w1 w3 := bt KA hB3
        clear hB3
        cases q
        · go_wp2_with fail
          go_ret
          obtain rfl : c = 70 := by rw [← hc.out, if_neg]; rw [HW.out, HQ.out]; simp
          exact ⟨rfl, bt HB0.out K3⟩
        · go_wp2_with fail
          go_roundw
          case rel => exact ⟨3, by omega, by go_num, ⟨(fun _ => hq.out.1 (by omega)), (fun _ => hq.out.2.1 (by omega)), (fun _ => HQ.out)⟩, K3⟩
          case measure => simp [intOf]
    · obtain rfl : k = 3 := by omega
      go_wp2_with fail
      go_ret
      obtain rfl : c = 0 := by rw [← hc.out, if_pos]; rw [HW.out, hq.out.1 (by omega), hq.out.2.1 (by omega), hq.out.2.2 (by omega)]; rfl
      exact ⟨rfl, bt HB0.out hB⟩
end Go.Proofs.YtknpglgpkkhhiaaDoor

/- The reference's Turnings. -/
namespace Go.Proofs.YtknpglgpkkhhiaaDoor
set_option linter.unusedSimpArgs false
set_option linter.unusedVariables false
open Go.RowKit

end Go.Proofs.YtknpglgpkkhhiaaDoor

/- Two numbers and two chances without an error. -/
namespace Go.Proofs.YtknpglgpkkhhiaaDoor
set_option linter.unusedSimpArgs false
set_option linter.unusedVariables false
open Go.RowKit

end Go.Proofs.YtknpglgpkkhhiaaDoor

/- Rules: Good, and the reference's. -/
namespace Go.Proofs.YtknpglgpkkhhiaaDoor
set_option linter.unusedSimpArgs false
set_option linter.unusedVariables false
open Go.RowKit Go.Proofs.YtknpglgpkkhhiaaDoor.ML Go.Proofs.YtknpglgpkkhhiaaDoor.Samp

end Go.Proofs.YtknpglgpkkhhiaaDoor

/- Rules: Curve. -/
namespace Go.Proofs.YtknpglgpkkhhiaaDoor
set_option linter.unusedSimpArgs false
set_option linter.unusedVariables false
open Go.RowKit Go.Proofs.YtknpglgpkkhhiaaDoor.ML Go.Proofs.YtknpglgpkkhhiaaDoor.Samp

def cellsP (xs : List (Int × Int)) : List Value := xs.flatMap fun x => [.int .i64 x.1, .int .i64 x.2]
theorem cellsP_get (xs : List (Int × Int)) (k : Nat) (h : k < xs.length) : (cellsP xs)[k * 2]? = some (.int .i64 xs[k].1) ∧ (cellsP xs)[k * 2 + 1]? = some (.int .i64 xs[k].2) := by
  induction xs generalizing k with
  | nil => simp at h
  | cons x r ih =>
    cases k with
    | zero => simp [cellsP]
    | succ k =>
      have := ih k (by simpa using h)
      have e : cellsP (x :: r) = .int .i64 x.1 :: .int .i64 x.2 :: cellsP r := by simp [cellsP]
      rw [e, show (k + 1) * 2 = k * 2 + 1 + 1 by omega]
      simpa using this
/-- An owned row is a slice of fractions. -/
theorem PL.of_row {base : Nat} {e : TypeId} {v : Value} {n : Nat} {xs : List (Int × Int)} {w : World} (hn : xs.length = n) (hm : n ≤ maxLen) (h : w.ownsRow base e 2 v n (cellsP xs)) : PL xs v w := by
  subst hn
  rcases h.2 with ⟨rfl, h0⟩ | ⟨g, cap, cur, rfl, _, hg, _, _, _, ht⟩
  · have : xs = [] := List.eq_nil_of_length_eq_zero h0
    subst this
    exact PL.nil w
  · refine ⟨_, cap, rfl, hm, fun _ => ⟨g, 0, rfl, fun k hk => ?_⟩⟩
    have hc := h.cells (g := g) rfl
    obtain ⟨c1, c2⟩ := cellsP_get xs k hk
    have a1 := hc _ _ c1
    have a2 := hc _ _ c2
    simp only [Addr.add] at a1 a2
    refine ⟨?_, by simpa using a2⟩
    by_cases h0 : k = 0
    · subst h0; simpa using a1
    · rw [if_neg (by omega)] at a1; simpa using a1

end Go.Proofs.YtknpglgpkkhhiaaDoor

/- A rick more: where it stands. -/
namespace Go.Proofs.YtknpglgpkkhhiaaDoor
set_option linter.unusedSimpArgs false
set_option linter.unusedVariables false
open Go.RowKit

end Go.Proofs.YtknpglgpkkhhiaaDoor

/- The program's played. -/
namespace Go.Proofs.YtknpglgpkkhhiaaDoor
set_option linter.unusedSimpArgs false
set_option linter.unusedVariables false
open Go.RowKit Go.Proofs.YtknpglgpkkhhiaaDoor.Free2

def HeapIs (b : Nat) (o : Obj) (W : World) : Prop := W.heap[b]? = some o
theorem HeapIs.kept {b : Nat} {o : Obj} : ∀ a c : World, Below a.heap.size a c → HeapIs b o a → HeapIs b o c := fun a c h k => (h.block b (lt_of_heap k)).trans k
/-- The program's played at work. -/
structure PlI (w : World) (h : Int) (p : Option Addr) (n cp y0 s0 : Nat) (S : Nat → Int) (v : Value) (hs : List (Int × Int)) (W : World) : Prop where
  bel : Below w.heap.size w W
  a0 : W.heap[w.heap.size]? = some (.cells #[.int .i64 h, .slice p n cp] 24 (0, 0))
  rz : W.heap[w.heap.size + 1]? = some (.cells (arrV fun _ => 0) 109 (0, 0))
  yc : W.heap[y0]? = some (.cells #[.int .i64 h, .slice p n cp, .map none, .slice none 0 0] 144 (0, 0))
  sc : W.heap[s0]? = some (.cells (arrV S) 109 (0, 0))
  o1 : w.heap.size + 1 < y0
  o2 : y0 < s0
  own : W.ownsRow (s0 + 1) 104 2 v hs.length (cellsP hs)
section
variable {w W W' : World} {h : Int} {p : Option Addr} {n cp y0 s0 : Nat} {S : Nat → Int} {v : Value} {hs : List (Int × Int)}
theorem PlI.step (H : PlI w h p n cp y0 s0 S v hs W) (hB : Free.Bel W W') : PlI w h p n cp y0 s0 S v hs W' :=
  ⟨H.bel.trans (hB.mono H.bel.size), (hB.block _ (lt_of_heap H.a0)).trans H.a0, (hB.block _ (lt_of_heap H.rz)).trans H.rz, (hB.block _ (lt_of_heap H.yc)).trans H.yc, (hB.block _ (lt_of_heap H.sc)).trans H.sc, H.o1, H.o2, bel_row H.own hB⟩
theorem PlI.set {S' : Nat → Int} (H : PlI w h p n cp y0 s0 S v hs W) : PlI w h p n cp y0 s0 S' v hs ((((W.setCell ⟨s0, 0, none⟩ (.int .i64 (S' 0))).setCell ⟨s0, 1, none⟩ (.int .i64 (S' 1))).setCell ⟨s0, 2, none⟩ (.int .i64 (S' 2))).setCell ⟨s0, 3, none⟩ (.int .i64 (S' 3))) := by
  have o1 := H.o1
  have o2 := H.o2
  refine ⟨(((H.bel.setCell (by simp; omega) _).setCell (by simp; omega) _).setCell (by simp; omega) _).setCell (by simp; omega) _, ?_, ?_, ?_, four_heap H.sc, o1, o2, ownsRow_setCell_below (ownsRow_setCell_below (ownsRow_setCell_below (ownsRow_setCell_below H.own (by simp) _) (by simp) _) (by simp) _) (by simp) _⟩
  · exact heap_other (heap_other (heap_other (heap_other H.a0 (by simp; omega)) (by simp; omega)) (by simp; omega)) (by simp; omega)
  · exact heap_other (heap_other (heap_other (heap_other H.rz (by simp; omega)) (by simp; omega)) (by simp; omega)) (by simp; omega)
  · exact heap_other (heap_other (heap_other (heap_other H.yc (by simp; omega)) (by simp; omega)) (by simp; omega)) (by simp; omega)
end
def PlayedP (h : Int) (xs : List Rk) (ds : List (List Int)) (e : Ending) (w' : World) : Prop :=
  (watchB h xs = false ∧ ∃ S, e = .returned (.tuple #[.pointer none, stV S, .slice none 0 0, .int .i64 70])) ∨
  (watchB h xs = true ∧ validB h xs ds = false ∧ ∃ S, e = .returned (.tuple #[.pointer none, stV S, .slice none 0 0, .int .i64 72])) ∨
  (watchB h xs = true ∧ validB h xs ds = true ∧ ∃ yb v, e = .returned (.tuple #[.pointer (some ⟨yb, 0, none⟩), stV (waits (endR xs ds)), v, .int .i64 0]) ∧ PL (heatR 0 xs ds) v w')

end Go.Proofs.YtknpglgpkkhhiaaDoor

/- A region that draws its order and makes rows, appends to them and takes them up again: what each row holds until it is taken. -/
namespace Go.Proofs.YtknpglgpkkhhiaaDoor
set_option linter.unusedSimpArgs false
set_option linter.unusedVariables false
open Go.RowKit Go.Proofs.YtknpglgpkkhhiaaDoor.Free2

/-- Operation i yields a row of n elements with these cells; operation j takes it. -/
structure JE where
  i : Nat
  j : Nat
  n : Nat
  cs : List Value
/-- Blocks below s0, but one, stay. -/
structure RZ (s0 rb : Nat) (a b : World) : Prop where
  os : b.os = a.os
  tape : b.tape = a.tape
  output : b.output = a.output
  size : a.heap.size ≤ b.heap.size
  block : ∀ k, k < s0 → k ≠ rb → b.heap[k]? = a.heap[k]?
structure JR (base : Nat) (e : TypeId) (sz : Nat) (L : List JE) (X : XT) (w : World) : Prop where
  nv : X 1000 = none
  size : base ≤ w.heap.size
  row : ∀ a ∈ L, X a.j = none → ∀ v, X a.i = some v → w.ownsRow base e sz v a.n a.cs
  ne : ∀ a ∈ L, ∀ b ∈ L, a.i ≠ b.i → X a.j = none → X b.j = none → ∀ v u, X a.i = some v → X b.i = some u → ∀ k, u.ownBlock = some k → Off v k
section
variable {base s0 rb : Nat} {e : TypeId} {sz : Nat} {L : List JE} {X : XT} {w w' a b c : World}
theorem RZ.refl (s0 rb : Nat) (a : World) : RZ s0 rb a a := ⟨rfl, rfl, rfl, Nat.le_refl _, fun _ _ _ => rfl⟩
theorem RZ.trans (a b c : World) (h : RZ s0 rb a b) (k : RZ s0 rb b c) : RZ s0 rb a c := ⟨k.os.trans h.os, k.tape.trans h.tape, k.output.trans h.output, Nat.le_trans h.size k.size, fun i hi hn => (k.block i hi hn).trans (h.block i hi hn)⟩
theorem RZ.of_below (h : Below s0 a b) : RZ s0 rb a b := ⟨h.os, h.tape, h.output, h.size, fun k hk _ => h.block k hk⟩
theorem RZ.of_bel (h : Free.Bel a b) (hs : s0 ≤ a.heap.size) : RZ s0 rb a b := .of_below (h.mono hs)
theorem RZ.set {o : Nat} {v : Value} : RZ s0 rb a (a.setCell ⟨rb, o, none⟩ v) := ⟨rfl, rfl, rfl, by simp, fun k _ hn => Below.heap_setCell _ _ _ _ (by simpa using hn)⟩
theorem RZ.cell (h : RZ s0 rb a b) {p : Addr} {v : Value} (hv : a.cell? p = some v) (hs : p.block < s0) (hn : p.block ≠ rb) : b.cell? p = some v := (World.cell?_of_block (h.block _ hs hn)).trans hv
theorem RZ.below {w0 : World} {s : Nat} (h0 : Below s w0 a) (h : RZ s0 rb a b) (hs : s ≤ s0) (hr : s ≤ rb) : Below s w0 b :=
  ⟨h.os.trans h0.os, h.tape.trans h0.tape, h.output.trans h0.output, Nat.le_trans h0.size h.size, fun k hk => (h.block k (by omega) (by omega)).trans (h0.block k hk)⟩
theorem row_block {base : Nat} {e : TypeId} {size n : Nat} {v : Value} {xs : List Value} (ho : a.ownsRow base e size v n xs) (h : ∀ k, v.ownBlock = some k → k < a.heap.size → b.heap[k]? = a.heap[k]?) : b.ownsRow base e size v n xs := by
  obtain ⟨h3, h4⟩ := ho
  refine ⟨h3, h4.imp id ?_⟩
  rintro ⟨g, cap, cur, rfl, hb, hg, r⟩
  exact ⟨g, cap, cur, rfl, hb, (h g rfl (lt_of_heap hg)).trans hg, r⟩
theorem JR.start (hs : base ≤ w.heap.size) : JR base e sz L (fun _ => none) w := ⟨rfl, hs, fun _ _ _ _ h => (by cases h), fun _ _ _ _ _ _ _ _ _ h => (by cases h)⟩
theorem JR.skip (h : JR base e sz L X w) (n : Nat) (v : Value) (hn : ∀ x ∈ L, n ≠ x.i ∧ n ≠ x.j) (h9 : n ≠ 1000) : JR base e sz L (upd X n v) w :=
  ⟨(upd_other X v h9.symm).trans h.nv, h.size, fun x hx => by rw [upd_other _ _ (hn x hx).1.symm, upd_other _ _ (hn x hx).2.symm]; exact h.row x hx,
   fun x hx y hy => by rw [upd_other _ _ (hn x hx).1.symm, upd_other _ _ (hn x hx).2.symm, upd_other _ _ (hn y hy).1.symm, upd_other _ _ (hn y hy).2.symm]; exact h.ne x hx y hy⟩
theorem JR.bel (h : JR base e sz L X w) (hB : Free.Bel w w') : JR base e sz L X w' :=
  ⟨h.nv, Nat.le_trans h.size hB.size, fun x hx h1 v h2 => bel_row (h.row x hx h1 v h2) hB, h.ne⟩
/-- A store into a block that no row lies in. -/
theorem JR.blocks (h : JR base e sz L X w) (hs : w.heap.size ≤ w'.heap.size) (hb : ∀ k, base ≤ k → k < w.heap.size → w'.heap[k]? = w.heap[k]?) : JR base e sz L X w' :=
  ⟨h.nv, Nat.le_trans h.size hs, fun x hx h1 v h2 => row_block (h.row x hx h1 v h2) fun k hk hl => hb k (by
    rcases (h.row x hx h1 v h2).2 with ⟨rfl, _⟩ | ⟨g, cap, cur, rfl, hg, _⟩
    · simp [Value.ownBlock] at hk
    · simp [Value.ownBlock] at hk; omega) hl, h.ne⟩
theorem JR.new (h : JR base e sz L X w) (x : JE) (hx : x ∈ L) (hd : ∀ y ∈ L, y.j ≠ x.i ∧ (y.i = x.i → y = x)) {v : Value} (hB : Free.Bel w w') (ho : w'.ownsRow w.heap.size e sz v x.n x.cs) (h9 : x.i ≠ 1000) : JR base e sz L (upd X x.i v) w' := by
  refine ⟨(upd_other X v h9.symm).trans h.nv, Nat.le_trans h.size hB.size, fun y hy h1 u h2 => ?_, fun y hy z hz hyz h1 h2 u t h3 h4 k hk => ?_⟩
  · rw [upd_other _ _ (hd y hy).1] at h1
    by_cases hyx : y.i = x.i
    · have := (hd y hy).2 hyx
      subst this
      rw [upd_same] at h2
      cases h2
      exact row_mono ho h.size
    · rw [upd_other _ _ hyx] at h2
      exact bel_row (h.row y hy h1 u h2) hB
  · rw [upd_other _ _ (hd y hy).1] at h1
    rw [upd_other _ _ (hd z hz).1] at h2
    have hkr : ∀ (z : JE), z ∈ L → X z.j = none → ∀ t, X z.i = some t → ∀ k, t.ownBlock = some k → k < w.heap.size := by
      intro z hz h2 t h4 k hk
      rcases (h.row z hz h2 t h4).2 with ⟨rfl, _⟩ | ⟨g, cap, cur, rfl, hg, hgg, _⟩
      · simp [Value.ownBlock] at hk
      · have := lt_of_heap hgg
        simp [Value.ownBlock] at hk; omega
    by_cases hyx : y.i = x.i
    · have hzx : z.i ≠ x.i := fun e => hyz (hyx.trans e.symm)
      rw [hyx, upd_same] at h3
      cases h3
      rw [upd_other _ _ hzx] at h4
      exact off_base ho (hkr z hz h2 t h4 k hk)
    · rw [upd_other _ _ hyx] at h3
      by_cases hzx : z.i = x.i
      · rw [hzx, upd_same] at h4
        cases h4
        refine off_new (h.row y hy h1 u h3) ?_
        rcases ho.2 with ⟨rfl, _⟩ | ⟨g, cap, cur, rfl, hg, _⟩
        · simp [Value.ownBlock] at hk
        · simp [Value.ownBlock] at hk; omega
      · rw [upd_other _ _ hzx] at h4
        exact h.ne y hy z hz hyz h1 h2 u t h3 h4 k hk
/-- Row x is taken by the operation that yields row y. -/
theorem JR.take (h : JR base e sz L X w) (x y : JE) (hx : x ∈ L) (hy : y ∈ L) (hxy : x.j = y.i) (hd : ∀ z ∈ L, (z.i = y.i → z = y) ∧ (z.i = x.i → z = x) ∧ z.i ≠ z.j) (hyj : y.j ≠ y.i) {v v' : Value} (hv : X x.i = some v) (hn : X y.i = none) (hR : RowK v w v' w') (ho : w'.ownsRow base e sz v' y.n y.cs) (h9 : y.i ≠ 1000) :
    JR base e sz L (upd X y.i v') w' := by
  have hold : ∀ z ∈ L, z.i ≠ y.i → (upd X y.i v') z.j = none → ∀ u, (upd X y.i v') z.i = some u → X z.j = none ∧ X z.i = some u ∧ z.i ≠ x.i := by
    intro z hz hzy h1 u h2
    have hj : z.j ≠ y.i := by intro e; rw [e, upd_same] at h1; cases h1
    rw [upd_other _ _ hj] at h1
    rw [upd_other _ _ hzy] at h2
    refine ⟨h1, h2, fun e => ?_⟩
    have := (hd z hz).2.1 e
    subst this
    exact hj hxy
  have hxj : X x.j = none := by rw [hxy]; exact hn
  have hoff : ∀ z ∈ L, z.i ≠ x.i → X z.j = none → ∀ u, X z.i = some u → ∀ k, u.ownBlock = some k → Off v k ∧ k < w.heap.size := by
    intro z hz hzx h1 u h2 k hk
    refine ⟨h.ne x hx z hz (Ne.symm hzx) hxj h1 v u hv h2 k hk, ?_⟩
    rcases (h.row z hz h1 u h2).2 with ⟨rfl, _⟩ | ⟨g, cap, cur, rfl, hg, hgg, _⟩
    · simp [Value.ownBlock] at hk
    · have := lt_of_heap hgg
      simp [Value.ownBlock] at hk; omega
  refine ⟨(upd_other X v' h9.symm).trans h.nv, Nat.le_trans h.size hR.size, fun z hz h1 u h2 => ?_, fun z hz t ht hzt h1 h2 u s h3 h4 k hk => ?_⟩
  · by_cases hzy : z.i = y.i
    · have := (hd z hz).1 hzy
      subst this
      rw [upd_same] at h2
      cases h2
      exact ho
    · obtain ⟨g1, g2, g3⟩ := hold z hz hzy h1 u h2
      exact row_block (h.row z hz g1 u g2) fun k hk hl => (hR.keep k hl (hoff z hz g3 g1 u g2 k hk).1).2
  · by_cases hzy : z.i = y.i
    · have hty : t.i ≠ y.i := fun e => hzt (hzy.trans e.symm)
      obtain ⟨g1, g2, g3⟩ := hold t ht hty h2 s h4
      rw [hzy, upd_same] at h3
      cases h3
      obtain ⟨o1, o2⟩ := hoff t ht g3 g1 s g2 k hk
      exact hR.off o1 o2
    · obtain ⟨g1, g2, g3⟩ := hold z hz hzy h1 u h3
      by_cases hty : t.i = y.i
      · rw [hty, upd_same] at h4
        cases h4
        intro hu
        obtain ⟨o1, o2⟩ := hoff z hz g3 g1 u g2 k hu
        exact hR.off o1 o2 hk
      · obtain ⟨f1, f2, f3⟩ := hold t ht hty h2 s h4
        exact h.ne z hz t ht hzt g1 f1 u s g2 f2 k hk
end

section
variable {P : Program}
/-- An append, whatever is appended, in a region that draws its order. -/
theorem yields_append_row {K : Value → World → Prop} {ev : Operand → Value} (w : World) (o : Oper) (s x : Operand) (t : TypeId) (ho : o.op = .call { callee := .builtin .append, args := #[s, x], argTypes := #[t, t] })
    (base : Nat) (e : TypeId) (i : TypeInfo) (z : Value) (size bytes : Nat) (ht : P.underlying t = some (.slice e)) (hi : P.info? e = some i) (hz : i.zero = some z)
    (hsize : i.size = size) (hby : i.bytes = bytes) (hzs : z.cells.size = size) (hsz : 0 < size)
    (v : Value) (n : Nat) (xs : List Value) (hs : ev s = v) (hown : w.ownsRow base e size v n xs)
    (p : Option Addr) (m c : Nat) (news : List Value) (hx : ev x = .slice p m c) (hl : news.length = m * size) (hp : ∀ ad, p = some ad → ∀ j u, news[j]? = some u → w.cell? (ad.add j) = some u) (hnil : p = none → m = 0 ∧ c = 0) (h1 : ∀ u ∈ news, u.oneCell' = true)
    (h63 : n + m ≤ maxLen) (hbytes : (n + m) * bytes ≤ 140737488355328) (hbase : base ≤ w.heap.size)
    (h : ∀ v' w', w'.ownsRow base e size v' (n + m) (xs ++ news) → RowK v w v' w' → K v' w') : Free.Yields P K ((execOp ev o).run P w) := by
  by_cases hm : m = 0
  · subst hm
    have hn : news = [] := List.eq_nil_of_length_eq_zero (by simpa using hl)
    subst hn
    have hrun : (Builtin.append_ #[t, t] o.type #[v, .slice p 0 c]).run P w = .ok v w := by
      cases hpc : p with
      | none =>
        obtain ⟨_, rfl⟩ := hnil hpc
        exact run_append_owned_none (P := P) (w := w) base t o.type e i size ht hi _ n _ hown
      | some ad =>
        rcases hown.2 with ⟨rfl, rfl⟩ | ⟨g, cap, cur, rfl, hbg, hg, hnc, hcm, hcs, htake⟩
        · simp [Builtin.append_, run_underlying ht, sizeOf, typeInfo, hi, Builtin.lenOf, Builtin.firstCells, loadCells, loadCellsFrom]
        · subst hsize
          have hle : n * i.size ≤ cur.size := by rw [hcs]; exact Nat.mul_le_mul_right _ hnc
          have hr := run_append_room (P := P) w t o.type e i ht hi g n cap cur hg ad 0 c [] (by simp) (by simp) (by simp) (by omega) (by simpa using hle)
          rw [hr]
          have hq : (cur.toList.take (n * i.size) ++ [] ++ cur.toList.drop (n * i.size + ([] : List Value).length)).toArray = cur := by simp
          rw [hq, setRow_self w g cur e (0, 0) hg]
          rfl
    unfold execOp
    simp only [ho, resolve, invoke, builtin, Sem.run_bind, Sem.run_pure, Result.andThen_ok, List.map_toArray, List.map_cons, List.map_nil, hs, hx, hrun]
    exact h v w (by simpa using hown) (RowK.refl _ _)
  · obtain ⟨ad, rfl⟩ : ∃ ad, p = some ad := by
      cases hpc : p with
      | none => exact absurd (hnil hpc).1 hm
      | some ad => exact ⟨ad, rfl⟩
    obtain ⟨v', w', hr, h2, h3⟩ := run_append_row (P := P) w base t o.type e i z size bytes ht hi hz hsize hby hzs hsz v n xs hown ad m c news (by omega) hl (hp ad rfl) h1 h63 hbytes hbase
    unfold execOp
    simp only [ho, resolve, invoke, builtin, Sem.run_bind, Sem.run_pure, Result.andThen_ok, List.map_toArray, List.map_cons, List.map_nil, hs, hx, hr]
    exact h v' w' h2 h3
end

/-- Rows, a value built of the last of them (operation ib), and a store (operation is) into a block that was there. -/
structure JS (base : Nat) (e : TypeId) (sz : Nat) (L : List JE) (il ib is rb : Nat) (mk : Value → Value) (z : Obj) (cont : Value → Obj) (X : XT) (w : World) : Prop where
  jr : JR base e sz L X w
  bld : ∀ v, X ib = some v → ∃ u, X il = some u ∧ v = mk u
  st0 : X is = none → w.heap[rb]? = some z
  st1 : X is ≠ none → ∃ u, X il = some u ∧ w.heap[rb]? = some (cont u)
  rbs : rb < base
section
variable {base s0 : Nat} {e : TypeId} {sz il ib is rb : Nat} {L : List JE} {mk : Value → Value} {z : Obj} {cont : Value → Obj} {X : XT} {w w' : World}
theorem JS.start (hs : base ≤ w.heap.size) (hr : rb < base) (hz : w.heap[rb]? = some z) : JS base e sz L il ib is rb mk z cont (fun _ => none) w := ⟨.start hs, fun v h => (by cases h), fun _ => hz, fun h => absurd rfl h, hr⟩
theorem JS.skip (h : JS base e sz L il ib is rb mk z cont X w) (n : Nat) (v : Value) (hn : ∀ x ∈ L, n ≠ x.i ∧ n ≠ x.j) (h1 : n ≠ il) (h2 : n ≠ ib) (h3 : n ≠ is) (h9 : n ≠ 1000 := by simp) : JS base e sz L il ib is rb mk z cont (upd X n v) w :=
  ⟨h.jr.skip n v hn h9, by rw [upd_other _ _ h1.symm, upd_other _ _ h2.symm]; exact h.bld, by rw [upd_other _ _ h3.symm]; exact h.st0, by rw [upd_other _ _ h3.symm, upd_other _ _ h1.symm]; exact h.st1, h.rbs⟩
theorem JS.bel (h : JS base e sz L il ib is rb mk z cont X w) (hB : Free.Bel w w') : JS base e sz L il ib is rb mk z cont X w' :=
  ⟨h.jr.bel hB, h.bld, fun hx => (hB.block _ (by have := h.rbs; have := h.jr.size; omega)).trans (h.st0 hx), fun hx => let ⟨u, h1, h2⟩ := h.st1 hx; ⟨u, h1, (hB.block _ (by have := h.rbs; have := h.jr.size; omega)).trans h2⟩, h.rbs⟩
theorem JS.new (h : JS base e sz L il ib is rb mk z cont X w) (x : JE) (hx : x ∈ L) (hd : ∀ y ∈ L, y.j ≠ x.i ∧ (y.i = x.i → y = x)) (h1 : x.i ≠ il) (h2 : x.i ≠ ib) (h3 : x.i ≠ is) {v : Value} (hB : Free.Bel w w') (ho : w'.ownsRow w.heap.size e sz v x.n x.cs) (h9 : x.i ≠ 1000 := by simp) : JS base e sz L il ib is rb mk z cont (upd X x.i v) w' :=
  ⟨h.jr.new x hx hd hB ho h9, by rw [upd_other _ _ h1.symm, upd_other _ _ h2.symm]; exact h.bld, fun hx => by
    rw [upd_other _ _ h3.symm] at hx
    exact (h.bel hB).st0 hx, fun hx => by
    rw [upd_other _ _ h3.symm] at hx
    rw [upd_other _ _ h1.symm]
    exact (h.bel hB).st1 hx, h.rbs⟩
theorem JS.take (h : JS base e sz L il ib is rb mk z cont X w) (x y : JE) (hx : x ∈ L) (hy : y ∈ L) (hxy : x.j = y.i) (hd : ∀ z ∈ L, (z.i = y.i → z = y) ∧ (z.i = x.i → z = x) ∧ z.i ≠ z.j) (hyj : y.j ≠ y.i) (h2 : y.i ≠ ib) (h3 : y.i ≠ is) {v v' : Value} (hv : X x.i = some v) (hn : X y.i = none) (hR : RowK v w v' w') (ho : w'.ownsRow base e sz v' y.n y.cs) (h9 : y.i ≠ 1000 := by simp) :
    JS base e sz L il ib is rb mk z cont (upd X y.i v') w' := by
  have hxj : X x.j = none := by rw [hxy]; exact hn
  have hrb : w'.heap[rb]? = w.heap[rb]? := (hR.keep rb (by have := h.rbs; have := h.jr.size; omega) (off_base (h.jr.row x hx hxj v hv) h.rbs)).2
  have hup : ∀ u, X il = some u → (upd X y.i v') il = some u := by
    intro u hu
    by_cases e : il = y.i
    · rw [e, hn] at hu; cases hu
    · rw [upd_other _ _ e]; exact hu
  refine ⟨h.jr.take x y hx hy hxy hd hyj hv hn hR ho h9, fun u hu => ?_, fun hu => ?_, fun hu => ?_, h.rbs⟩
  · rw [upd_other _ _ h2.symm] at hu
    obtain ⟨t, h4, h5⟩ := h.bld u hu
    exact ⟨t, hup t h4, h5⟩
  · rw [upd_other _ _ h3.symm] at hu
    exact hrb.trans (h.st0 hu)
  · rw [upd_other _ _ h3.symm] at hu
    obtain ⟨t, h4, h5⟩ := h.st1 hu
    exact ⟨t, hup t h4, hrb.trans h5⟩
theorem JS.build (h : JS base e sz L il ib is rb mk z cont X w) (hn : ∀ x ∈ L, ib ≠ x.i ∧ ib ≠ x.j) (h1 : ib ≠ il) (h3 : ib ≠ is) {u : Value} (h9 : ib ≠ 1000 := by simp) (hu : X il = some u) : JS base e sz L il ib is rb mk z cont (upd X ib (mk u)) w :=
  ⟨h.jr.skip ib _ hn h9, fun v hv => by rw [upd_same] at hv; cases hv; exact ⟨u, by rw [upd_other _ _ h1.symm]; exact hu, rfl⟩, by rw [upd_other _ _ h3.symm]; exact h.st0, by rw [upd_other _ _ h3.symm, upd_other _ _ h1.symm]; exact h.st1, h.rbs⟩
theorem JS.store (h : JS base e sz L il ib is rb mk z cont X w) (hn : ∀ x ∈ L, is ≠ x.i ∧ is ≠ x.j) (h1 : is ≠ il) (h2 : is ≠ ib) {u y : Value} (h9 : is ≠ 1000 := by simp) (hu : X il = some u) (hs : w.heap.size ≤ w'.heap.size) (hb : w'.heap[rb]? = some (cont u)) (ho : ∀ k, k ≠ rb → w'.heap[k]? = w.heap[k]?) : JS base e sz L il ib is rb mk z cont (upd X is y) w' :=
  ⟨(h.jr.blocks hs fun k hk hl => ho k (by have := h.rbs; omega)).skip is y hn h9, by rw [upd_other _ _ h2.symm, upd_other _ _ h1.symm]; exact h.bld, fun hx => (by rw [upd_same] at hx; cases hx), fun _ => ⟨u, by rw [upd_other _ _ h1.symm]; exact hu, hb⟩, h.rbs⟩
end
end Go.Proofs.YtknpglgpkkhhiaaDoor

