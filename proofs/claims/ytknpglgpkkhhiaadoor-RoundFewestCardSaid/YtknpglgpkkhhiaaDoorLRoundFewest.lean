/- For every input the law RoundFewest returns true, and its arguments read behind the call as they read before; what a watch is asked lies in the table as the program's text lays it (tied). Condition: that table. -/
/- A watch made by a call in a region that draws its order, and kept in a box made there too. -/
import Derived.Test.YtknpglgpkkhhiaaDoorB8
import Derived.Deep.DeepCutAuto
import Derived.Test.YtknpglgpkkhhiaaDoorProg
import Derived.ChangeShapes
namespace Go.Proofs.YtknpglgpkkhhiaaDoor
set_option linter.unusedSimpArgs false
set_option linter.unusedVariables false
open Go.RowKit Go.Proofs.YtknpglgpkkhhiaaDoor.Free2 Go.Proofs.YtknpglgpkkhhiaaDoor.ML RR

/-- Blocks below n0 stay, and later ones but cells of one type. -/
structure RQt (t : TypeId) (n0 : Nat) (a b : World) : Prop where
  below : Below n0 a b
  other : ∀ (k : Nat) (o : Obj), a.heap[k]? = some o → (∀ c f, o ≠ .cells c t f) → b.heap[k]? = some o
section
variable {a b c : World} {n0 : Nat} {t : TypeId}
theorem RQt.refl (t : TypeId) (n0 : Nat) (a : World) : RQt t n0 a a := ⟨Below.refl _ _, fun _ _ h _ => h⟩
theorem RQt.trans (h : RQt t n0 a b) (k : RQt t n0 b c) : RQt t n0 a c := ⟨h.below.trans k.below, fun i o h1 h2 => k.other i o (h.other i o h1 h2) h2⟩
theorem RQt.of_bel (h : Free.Bel a b) (hn : n0 ≤ a.heap.size) : RQt t n0 a b := ⟨h.mono hn, fun k o h1 _ => (h.block k (lt_of_heap h1)).trans h1⟩
theorem RQt.set {g o : Nat} {v : Value} {cs : Array Value} {f : Nat × Nat} (hg : n0 ≤ g) (hq : a.heap[g]? = some (.cells cs t f)) : RQt t n0 a (a.setCell ⟨g, o, none⟩ v) :=
  ⟨(Below.refl _ a).setCell (by simpa using hg) v, fun k p h1 h2 => by
    have hne : k ≠ g := by
      rintro rfl
      rw [hq] at h1
      cases h1
      exact h2 _ _ rfl
    exact (Below.heap_setCell _ _ _ _ (by simpa using hne)).trans h1⟩
theorem RQt.row {base : Nat} {e : TypeId} {size n : Nat} {v : Value} {xs : List Value} (h : RQt t n0 a b) (ht : e ≠ t) (ho : a.ownsRow base e size v n xs) : b.ownsRow base e size v n xs :=
  own_typed ho fun k c f hk => h.other k _ hk fun c' f' e' => by cases e'; exact ht rfl
end
/-- Operation al makes a box of two cells, operation st stores in it what operation ex gave. -/
structure JK (t : TypeId) (s0 ex al st : Nat) (X : XT) (W : World) : Prop where
  ord : X st ≠ none → X ex ≠ none ∧ X al ≠ none
  size : s0 ≤ W.heap.size
  new : ∀ v, X al = some v → ∃ b, v = .pointer (some ⟨b, 0, none⟩) ∧ s0 ≤ b ∧ (X st = none → ∃ x y, W.heap[b]? = some (.cells #[x, y] t (0, 0))) ∧ (X st ≠ none → ∃ x y, X ex = some (.agg #[x, y]) ∧ W.heap[b]? = some (.cells #[x, y] t (0, 0)))
section
variable {t : TypeId} {s0 ex al st : Nat} {X : XT} {W W' : World}
theorem JK.start (hs : s0 ≤ W.heap.size) : JK t s0 ex al st (fun _ => none) W := ⟨fun h => absurd rfl h, hs, fun v h => (by cases h)⟩
theorem JK.bel (H : JK t s0 ex al st X W) (hB : Free.Bel W W') : JK t s0 ex al st X W' :=
  ⟨H.ord, Nat.le_trans H.size hB.size, fun v hv => by
    obtain ⟨b, h1, h2, h3, h4⟩ := H.new v hv
    exact ⟨b, h1, h2, fun h => let ⟨x, y, h5⟩ := h3 h; ⟨x, y, (hB.block _ (lt_of_heap h5)).trans h5⟩, fun h => let ⟨x, y, h5, h6⟩ := h4 h; ⟨x, y, h5, (hB.block _ (lt_of_heap h6)).trans h6⟩⟩⟩
theorem JK.skip (H : JK t s0 ex al st X W) (n : Nat) (v : Value) (h1 : n ≠ al) (h2 : n ≠ st) (h3 : n = ex → X ex = none) : JK t s0 ex al st (upd X n v) W := by
  have e1 := upd_other X v (Ne.symm h1)
  have e2 := upd_other X v (Ne.symm h2)
  refine ⟨fun h => ?_, H.size, fun u hu => ?_⟩
  · rw [e2] at h
    refine ⟨?_, by rw [e1]; exact (H.ord h).2⟩
    by_cases e : n = ex
    · subst e; rw [upd_same]; simp
    · rw [upd_other _ _ (Ne.symm e)]; exact (H.ord h).1
  · rw [e1] at hu
    obtain ⟨b, a1, a2, a3, a4⟩ := H.new u hu
    refine ⟨b, a1, a2, fun h => a3 (by rwa [e2] at h), fun h => ?_⟩
    rw [e2] at h
    by_cases e : n = ex
    · exact absurd (h3 e) (H.ord h).1
    · rw [upd_other _ _ (Ne.symm e)]; exact a4 h
theorem JK.made (H : JK t s0 ex al st X W) (hst : X al = none) {b : Nat} {x y : Value} (hB : Free.Bel W W') (hb : s0 ≤ b) (hh : W'.heap[b]? = some (.cells #[x, y] t (0, 0))) (hne : al ≠ st) : JK t s0 ex al st (upd X al (.pointer (some ⟨b, 0, none⟩))) W' := by
  have hs : X st = none := by
    cases h : X st with
    | none => rfl
    | some v => exact absurd hst (H.ord (by rw [h]; simp)).2
  have e2 := upd_other X (.pointer (some ⟨b, 0, none⟩)) (Ne.symm hne)
  refine ⟨fun h => absurd hs (by rwa [e2] at h), Nat.le_trans H.size hB.size, fun u hu => ?_⟩
  rw [upd_same] at hu
  cases hu
  exact ⟨b, rfl, hb, fun _ => ⟨x, y, hh⟩, fun h => absurd hs (by rwa [e2] at h)⟩
theorem JK.put (H : JK t s0 ex al st X W) (hst : X st = none) {b : Nat} {x y v : Value} (hal : X al = some (.pointer (some ⟨b, 0, none⟩))) (hex : X ex = some (.agg #[x, y])) (n1 : al ≠ st) (n2 : ex ≠ st) : JK t s0 ex al st (upd X st v) ((W.setCell ⟨b, 0, none⟩ x).setCell ⟨b, 1, none⟩ y) := by
  have e1 := upd_other X v n1
  have e2 := upd_other X v n2
  refine ⟨fun _ => ⟨by rw [e2, hex]; simp, by rw [e1, hal]; simp⟩, by simpa using H.size, fun u hu => ?_⟩
  rw [e1, hal] at hu
  cases hu
  obtain ⟨b', h1, h2, h3, _⟩ := H.new _ hal
  cases h1
  obtain ⟨x0, y0, h5⟩ := h3 hst
  refine ⟨b, rfl, h2, fun h => (by rw [upd_same] at h; cases h), fun _ => ⟨x, y, by rw [e2]; exact hex, ?_⟩⟩
  have h6 := heap_setCell_same (o := 1) y (heap_setCell_same (o := 0) x h5)
  simpa using h6
end
end Go.Proofs.YtknpglgpkkhhiaaDoor

/- Days on which nothing is turned. -/
namespace Go.Proofs.YtknpglgpkkhhiaaDoor
set_option linter.unusedSimpArgs false
set_option linter.unusedVariables false

theorem endR_rep (xs : List Rk) (n : Nat) : endR xs (List.replicate (n + 1) []) = endR (dayR [] xs) (List.replicate n []) := rfl
theorem heat_idle : ∀ (n : Nat) (m : Int) (xs : List Rk), (heatR m xs (List.replicate n [])).isEmpty = true ↔ ∀ k, 0 < k → k ≤ n → coolB (endR xs (List.replicate k [])) = true
  | 0, m, xs => ⟨fun _ k h0 h1 => by omega, fun _ => rfl⟩
  | n + 1, m, xs => by
    have h1 : coolB (dayR [] xs) = true ↔ hotR (m + 1) (dayR [] xs) = [] := by
      rw [hotR_nil, coolB, List.all_eq_true]
      simp
    rw [List.replicate_succ, heatR, List.isEmpty_iff, List.append_eq_nil_iff, ← h1, ← List.isEmpty_iff, heat_idle n (m + 1) (dayR [] xs)]
    constructor
    · rintro ⟨h2, h3⟩ k h0 hk
      match k, h0 with
      | 1, _ => exact h2
      | j + 2, _ => exact h3 (j + 1) (by omega) (by omega)
    · intro h2
      exact ⟨h2 1 (by omega) (by omega), fun k h0 hk => h2 (k + 1) (by omega) (by omega)⟩
theorem turn_nil {h : Int} {xs : List Rk} (hw : watchB h xs = true) : turnB h xs [] = true := by
  have := (watchB_iff.1 hw).1
  simp [turnB, turnF]
  omega
theorem ask_idle {h : Int} {xs : List Rk} (hw : watchB h xs = true) {n : Nat} (hn : n ≤ 60) : askE h xs (List.replicate n []) = 0 := by
  refine askE_zero.2 ⟨hw, ?_⟩
  unfold validB
  rw [Bool.and_eq_true, List.all_eq_true]
  refine ⟨by simpa using hn, fun d hd => ?_⟩
  rw [(List.mem_replicate.1 hd).2]
  exact turn_nil hw
theorem watch_idle {h : Int} : ∀ (n : Nat) {xs : List Rk}, watchB h xs = true → (∀ k, 0 < k → k ≤ n → coolB (endR xs (List.replicate k [])) = true) → watchB h (endR xs (List.replicate n [])) = true
  | 0, xs, hw, _ => hw
  | n + 1, xs, hw, hc => by
    rw [endR_rep]
    exact watch_idle n (watch_day hw (hc 1 (by omega) (by omega))) fun k h0 hk => hc (k + 1) (by omega) (by omega)
theorem aft_idle {h : Int} {xs : List Rk} (hw : watchB h xs = true) {n : Nat} (hn : n ≤ 60) (hc : ∀ k, 0 < k → k ≤ n → coolB (endR xs (List.replicate k [])) = true) : aftE h xs (List.replicate n []) = 0 ∧ aftH h xs (List.replicate n []) = h ∧ aftL h xs (List.replicate n []) = endR xs (List.replicate n []) := by
  have h1 : aftE h xs (List.replicate n []) = 0 := by
    unfold aftE
    rw [if_pos (ask_idle hw hn), if_pos ((heat_idle n 0 xs).2 hc)]
  exact ⟨h1, by rw [aftH, if_pos h1], by rw [aftL, if_pos h1]⟩
theorem aft_hot {h : Int} {xs : List Rk} (hw : watchB h xs = true) {n : Nat} (hn : n ≤ 60) (hc : ¬ ∀ k, 0 < k → k ≤ n → coolB (endR xs (List.replicate k [])) = true) : aftE h xs (List.replicate n []) = 73 := by
  unfold aftE
  rw [if_pos (ask_idle hw hn), if_neg (fun h9 => hc ((heat_idle n 0 xs).1 h9))]
/-- The spare days are few. -/
theorem spare_few {h : Int} {xs : List Rk} (hw : watchB h xs = true) (hx : xs ≠ []) {n : Nat} (H : SpareIs h xs n) : n ≤ 5 := by
  obtain ⟨x, hm⟩ := List.exists_mem_of_ne_nil xs hx
  obtain ⟨_, _, h1, h6, h0, h2⟩ := watchB_ok hw x hm
  rcases Nat.lt_or_ge n 6 with h9 | h9
  · omega
  · have hk := (H.1 (x.2.1 - x.2.2).toNat (by omega) (by omega)).1
    rw [endR_idle, coolB, List.all_eq_true] at hk
    have := hk _ (List.mem_map.2 ⟨x, hm, rfl⟩)
    simp at this
    omega
/-- Nothing is turned today just if a day is spare. -/
theorem spare_today {h : Int} {xs : List Rk} (hw : watchB h xs = true) (he : everB h xs = true) {n : Nat} (H : SpareIs h xs n) : stepE h xs = [] ↔ 0 < n := by
  obtain ⟨hf, hd, hc, hev⟩ := ever_step he
  constructor
  · intro h0
    rw [h0] at hc hev
    rcases Nat.eq_zero_or_pos n with hn | hn
    · subst hn
      exact absurd ⟨hc, hev⟩ H.2
    · exact hn
  · intro hn
    obtain ⟨h1, h2⟩ := H.1 1 (by omega) (by omega)
    have hm : ([] : List Int) ∈ daysL h xs := (mem_daysL hw).2 (turn_nil hw)
    rcases find_first (daysL_sorted hw) hf hm (by rw [Bool.and_eq_true]; exact ⟨h1, h2⟩) with h3 | h3
    · exact h3.symm
    · have : beforeL (stepE h xs) [] = false := by
        unfold beforeL
        cases stepE h xs with
        | nil => rfl
        | cons a r => simp
      rw [this] at h3
      cases h3
end Go.Proofs.YtknpglgpkkhhiaaDoor

/- The fewest hands and the moistest cake: plain law. -/
namespace Go.Proofs.YtknpglgpkkhhiaaDoor
set_option linter.unusedSimpArgs false
set_option linter.unusedVariables false

theorem ever_hands {h k : Int} {xs : List Rk} (hw : watchB h xs = true) (h0 : 0 ≤ k) (h3 : k ≤ 3) (j : Int) (hj : k ≤ j) (hj3 : j ≤ 3) (he : everB k xs = true) : everB j xs = true :=
  ever_dom hj (watch_hands hw h0 h3) (watch_hands hw (by omega) hj3) (Dom.refl xs) he
theorem few_facts {h : Int} {xs : List Rk} (hw : watchB h xs = true) {n c : Int} (H : FewIs xs n c) : 0 ≤ n ∧ n ≤ 3 ∧ ((c = 8 ∧ n = 0 ∧ everB 3 xs = false) ∨ (c = 0 ∧ everB 3 xs = true ∧ everB n xs = true ∧ (0 < n → everB (n - 1) xs = false) ∧ everB h xs = decide (n ≤ h))) := by
  rcases H with ⟨rfl, rfl, h1⟩ | ⟨rfl, h0, h3, h1, h2⟩
  · exact ⟨by decide, by decide, .inl ⟨rfl, rfl, h1 3 (by decide) (by decide)⟩⟩
  · refine ⟨h0, h3, .inr ⟨rfl, ever_hands hw h0 h3 3 h3 (by decide) h1, h1, fun hp => h2 (n - 1) (by omega) (by omega), ?_⟩⟩
    have hh := (watchB_iff.1 hw).1
    by_cases hn : n ≤ h
    · rw [decide_eq_true hn]
      exact ever_hands hw h0 h3 h hn hh.2 h1
    · rw [decide_eq_false hn]
      exact h2 h hh.1 (by omega)
theorem few_none {n c : Int} (H : FewIs [] n c) : n = 0 ∧ c = 0 := by
  have he : everB 0 [] = true := ever_many (h := 0) (xs := []) (by decide +kernel) (by simp)
  rcases H with ⟨_, _, h1⟩ | ⟨rfl, h0, h3, _, h2⟩
  · rw [h1 0 (by decide) (by decide)] at he; cases he
  · refine ⟨?_, rfl⟩
    by_cases h9 : 0 < n
    · rw [h2 0 (by decide) h9] at he; cases he
    · omega
theorem moist_get (xs : List Rk) (i : Nat) (n : Int) (j : Nat) (hj : j < xs.length) : (moistR xs i n)[j]? = some (if i = j then (xs[j].1, n, xs[j].2.2) else xs[j]) := by
  rw [moistR, List.getElem?_set]
  by_cases e : i = j
  · subst e
    simp [hj]
  · simp [e, hj]
theorem dom_moist (xs : List Rk) (i : Nat) {n m : Int} (hnm : n ≤ m) : Dom (moistR xs i n) (moistR xs i m) := by
  intro y hy
  obtain ⟨j, hj⟩ := List.mem_iff_getElem?.1 hy
  have hj' : j < xs.length := by
    have := (List.getElem?_eq_some_iff.1 hj).1
    simpa [moistR] using this
  rw [moist_get xs i m j hj'] at hj
  refine ⟨_, List.mem_iff_getElem?.2 ⟨j, moist_get xs i n j hj'⟩, ?_⟩
  rw [← Option.some.inj hj]
  split <;> simp [hnm]
theorem moist_facts {h : Int} {xs : List Rk} (hw : watchB h xs = true) {i : Nat} (hi : i < xs.length) {n c : Int} (H : MoistIs h xs i n c) : (c = 8 ∧ n = 0 ∧ everB h (moistR xs i 6) = false) ∨ (c = 0 ∧ (xs.getD i (0, 0, 0)).2.2 + 1 ≤ n ∧ n ≤ 6 ∧ everB h (moistR xs i n) = true ∧ ((xs.getD i (0, 0, 0)).2.2 < n - 1 → everB h (moistR xs i (n - 1)) = false)) := by
  have hx := watchB_ok hw _ (List.getElem_mem hi)
  have hg : xs.getD i (0, 0, 0) = xs[i] := by simp [hi]
  unfold okR at hx
  rcases H with ⟨rfl, rfl, h1⟩ | ⟨rfl, h0, h3, h1, h2⟩
  · exact .inl ⟨rfl, rfl, h1 6 (by rw [hg]; omega) (by decide)⟩
  · exact .inr ⟨rfl, h0, h3, h1, fun hp => h2 (n - 1) (by omega) (by omega)⟩
end Go.Proofs.YtknpglgpkkhhiaaDoor

/- The index of a rick of a valid watch. -/
namespace Go.Proofs.YtknpglgpkkhhiaaDoor
set_option linter.unusedSimpArgs false
set_option linter.unusedVariables false

theorem watch_pair {h : Int} {xs : List Rk} (hw : watchB h xs = true) : (xs.map (·.1)).Pairwise (· < ·) := rises_pairG (watchB_iff.1 hw).2.2
/-- The rick with this index is the first one with its Id. -/
theorem rick_at {h : Int} {xs : List Rk} (hw : watchB h xs = true) {i : Nat} (hi : i < xs.length) : RickIs xs xs[i].1 i := by
  refine .inr ⟨i, hi, rfl, rfl, fun j hj => ?_⟩
  have := List.pairwise_iff_getElem.1 (watch_pair hw) j i (by rw [List.length_map]; omega) (by simpa using hi) hj
  simp only [List.getElem_map] at this
  omega
end Go.Proofs.YtknpglgpkkhhiaaDoor

/- RoundFewest: with the fewest hands it can go on, with one less it cannot; likewise with the moistest cake. -/
namespace Go.Proofs.YtknpglgpkkhhiaaDoor
set_option linter.unusedSimpArgs false
set_option linter.unusedVariables false
open Go.RowKit Go.Proofs.YtknpglgpkkhhiaaDoor.Free2 Go.Proofs.YtknpglgpkkhhiaaDoor.ML RR

theorem least_ex (p : Int → Prop) (a : Int) : ∀ m : Nat, (∀ k, a ≤ k → k < a + m → ¬ p k) ∨ ∃ n, a ≤ n ∧ n < a + m ∧ p n ∧ ∀ k, a ≤ k → k < n → ¬ p k
  | 0 => .inl fun k h1 h2 => by omega
  | m + 1 => by
    rcases least_ex p a m with h | ⟨n, h1, h2, h3, h4⟩
    · by_cases hp : p (a + m)
      · exact .inr ⟨a + m, by omega, by omega, hp, fun k k1 k2 => h k k1 k2⟩
      · refine .inl fun k k1 k2 => ?_
        by_cases e : k = a + m
        · subst e; exact hp
        · exact h k k1 (by omega)
    · exact .inr ⟨n, h1, by omega, h3, h4⟩
theorem few_ex (xs : List Rk) : ∃ n c, FewIs xs n c := by
  rcases least_ex (fun k => everB k xs = true) 0 4 with h | ⟨n, h1, h2, h3, h4⟩
  · exact ⟨0, 8, .inl ⟨rfl, rfl, fun k k1 k2 => by simpa using h k k1 (by omega)⟩⟩
  · exact ⟨n, 0, .inr ⟨rfl, h1, by omega, h3, fun k k1 k2 => by simpa using h4 k k1 k2⟩⟩
theorem moist_ex (h : Int) {xs : List Rk} (hw : watchB h xs = true) {i : Nat} (hi : i < xs.length) : ∃ n c, MoistIs h xs i n c := by
  have hx := watchB_ok hw _ (List.getElem_mem hi)
  have hg : xs.getD i (0, 0, 0) = xs[i] := by simp [hi]
  unfold okR at hx
  rcases least_ex (fun k => everB h (moistR xs i k) = true) (xs[i].2.2 + 1) (6 - xs[i].2.2).toNat with h | ⟨n, h1, h2, h3, h4⟩
  · exact ⟨0, 8, .inl ⟨rfl, rfl, fun k k1 k2 => by rw [hg] at k1; simpa using h k k1 (by omega)⟩⟩
  · exact ⟨n, 0, .inr ⟨rfl, by rw [hg]; exact h1, by omega, h3, fun k k1 k2 => by rw [hg] at k1; simpa using h4 k k1 k2⟩⟩
theorem can_at (h : Int) (xs : List Rk) (u : Value) (w : World) (hT : TabR w) (hu : RL xs u w) (hw : watchB h xs = true) (r : Bool) (hr : Hid (everB h xs = r)) :
    Calls Tryd.prog 32 #[.agg #[.int .i64 h, u]] w fun e w' => e = .returned (.tuple #[.bool r, .int .i64 0]) ∧ Below w.heap.size w w' :=
  canP_v h xs u w hT hu 0 r (by rw [hw, hr.out]; exact ⟨rfl, rfl⟩)
theorem row_moist {base g n cap : Nat} {xs : List Rk} {i : Nat} {a : Int} {w : World} (h : w.ownsRow base 47 3 (.slice (some ⟨g, 0, none⟩) n cap) n (cellsR (moistR xs i a))) (hi : i < xs.length) (v : Int) :
    (w.setCell ⟨g, i * 3 + 1, none⟩ (.int .i64 v)).ownsRow base 47 3 (.slice (some ⟨g, 0, none⟩) n cap) n (cellsR (moistR xs i v)) := by
  have h1 := rick_storeE h i (by rw [moistR_length]; exact hi) v
  rw [moistR_get xs i hi, moistR_set xs i hi a v] at h1
  exact h1
theorem few_at (h : Int) (xs : List Rk) (u : Value) (w : World) (hT : TabR w) (hu : RL xs u w) (hw : watchB h xs = true) (n c : Int) (hF : Hid (FewIs xs n c)) :
    Calls Tryd.prog 49 #[.agg #[.int .i64 h, u]] w fun e w' => e = .returned (.tuple #[.int .i64 n, .int .i64 c]) ∧ Below w.heap.size w w' := by
  refine (fewestP_any h xs u w hT hu).mono fun e w' ⟨h1, h2⟩ => ⟨?_, h2⟩
  rcases h1 with ⟨h9, _⟩ | ⟨_, n', c', hf, h9⟩
  · rw [hw] at h9; cases h9
  · obtain ⟨rfl, rfl⟩ := hf.unique hF.out
    exact h9
theorem moist_at (h : Int) (xs : List Rk) (u : Value) (w : World) (hT : TabR w) (hu : RL xs u w) (hz : NZ u) (hw : watchB h xs = true) (i : Nat) (hi : i < xs.length) (id : Int) (hid : xs[i].1 = id) (n c : Int) (hF : Hid (MoistIs h xs i n c)) :
    Calls Tryd.prog 51 #[.agg #[.int .i64 h, u], .int .i64 id] w fun e w' => e = .returned (.tuple #[.int .i64 n, .int .i64 c]) ∧ Below w.heap.size w w' := by
  subst hid
  refine (moistP_any h _ xs u w hT hu hz (i : Int) (rick_at hw hi)).mono fun e w' ⟨h1, h2⟩ => ⟨?_, h2⟩
  rcases h1 with ⟨h9, _⟩ | ⟨_, h9, _⟩ | ⟨_, _, n', c', hf, h9⟩
  · rw [hw] at h9; cases h9
  · omega
  · obtain ⟨rfl, rfl⟩ := hf.unique hF.out
    exact h9
set_option maxRecDepth 100000 in
set_option maxHeartbeats 32000000 in
theorem fewL_walk (h : Int) (xs : List Rk) (q : Int) (u : Value) (w : World) (hT : TabR w) (hu : RL xs u w) (hz : NZ u) (hq0 : 0 ≤ q) (hq1 : q ≤ 255) :
    Calls Tryd.prog 11 #[.agg #[.int .i64 h, u], .int .u8 q] w fun e w' => e = .returned (.bool true) ∧ Below w.heap.size w w' := by
  have HNZ := Lib.hid hz
  have HTX := Lib.hid (fun (W : World) (hW : Below w.heap.size w W) => hT.bel hW)
  have HUX := Lib.hid (fun (W : World) (hW : Below w.heap.size w W) => hu.keeps hW)
  obtain ⟨p, cp, rfl, hm, hp⟩ := hu
  have HP := Lib.hid hp
  have HKX := Lib.hid (fun (W : World) (hW : Below w.heap.size w W) (a : Addr) (v : Value) (hv : w.cell? a = some v) => keepsB hW hv)
  clear hm hp hz hT
  have hB0 : Below w.heap.size w (w.alloc (.cells #[.int .i64 h, .slice p xs.length cp] 24)) := (Below.refl _ w).alloc (Nat.le_refl _) _
  have c0_0 : (w.alloc (.cells #[.int .i64 h, .slice p xs.length cp] 24)).cell? ⟨w.heap.size, 0, none⟩ = some (.int .i64 h) := by simp [go_sem]
  have c0_1 : (w.alloc (.cells #[.int .i64 h, .slice p xs.length cp] 24)).cell? ⟨w.heap.size, 1, none⟩ = some (.slice p xs.length cp) := by simp [go_sem]
  have HTB := Lib.hid (HTX.out _ hB0)
  go_enter Tryd.func11, Tryd.ntmps11
  go_wp2_with fail
  refine (alive_any _ HTB.out).mono ?_
  rintro e w1 ⟨rfl, hB1⟩
  have hBz : Below w.heap.size w w1 := hB0.trans (hB1.mono (by simp))
  have hzz : w.heap.size ≤ w1.heap.size := hBz.size
  have hzn : w.heap.size + 1 ≤ w1.heap.size := by have := hB1.size; simp at this; omega
  have kc0_0 := keepsB hB1 c0_0
  have kc0_1 := keepsB hB1 c0_1
  clear hB0 hB1 HTB c0_0 c0_1
  generalize hbb : w.heap.size = bb at *
  have HBB := Lib.hid hbb
  clear hbb
  have HB_w1 := Lib.hid (show Below bb w w1 from hBz)
  have hz_w1 : bb ≤ w1.heap.size := hzz
  have FA : ∀ W, Free.Bel w1 W → W.cell? ⟨bb, 0, none⟩ = some (.int .i64 h) ∧ W.cell? ⟨bb, 1, none⟩ = some (.slice p xs.length cp) ∧ Hid (TabR W) ∧ Hid (RL xs (.slice p xs.length cp) W) ∧ bb + 1 ≤ W.heap.size ∧ bb ≤ W.heap.size := fun W hW => ⟨keepsB hW kc0_0, keepsB hW kc0_1, Lib.hid (HTX.out W (hBz.trans (hW.mono hzz))), Lib.hid (HUX.out W (hBz.trans (hW.mono hzz))), Nat.le_trans hzn hW.size, Nat.le_trans hz_w1 hW.size⟩
  have KR : Free.Bel w1 w1 := Free.Bel.refl _
  clear hBz hzz kc0_0 kc0_1 hzn
  go_wp2_with fail
  cases hw : watchB h xs with
  | false =>
    refine (ready_v h xs _ w1 (FA w1 (Free.Bel.refl _)).2.2.2.1.out false (Lib.hid hw)).mono ?_
    rintro e w2 ⟨rfl, hB⟩
    have HB_w2 := Lib.hid (HB_w1.out.trans ((hB).mono hz_w1))
    have hz_w2 : bb ≤ w2.heap.size := Nat.le_trans hz_w1 (hB).size
    have FN := fun (W : World) (hW : Free.Bel w2 W) => FA W (bt (hB) hW)
    clear FA HB_w1 hz_w1 KR
    have FA := FN
    clear FN
    have KR := Free.Bel.refl w2
    clear hB
    go_wp2_with fail
    go_ret
    have hbb := HBB.out
    subst hbb
    exact ⟨rfl, HB_w2.out⟩
  | true =>
    have HW := Lib.hid hw
    refine (ready_v h xs _ w1 (FA w1 (Free.Bel.refl _)).2.2.2.1.out true (Lib.hid hw)).mono ?_
    rintro e w3 ⟨rfl, hB⟩
    have HB_w3 := Lib.hid (HB_w1.out.trans ((hB).mono hz_w1))
    have hz_w3 : bb ≤ w3.heap.size := Nat.le_trans hz_w1 (hB).size
    have FN := fun (W : World) (hW : Free.Bel w3 W) => FA W (bt (hB) hW)
    clear FA HB_w1 hz_w1 KR
    have FA := FN
    clear FN
    have KR := Free.Bel.refl w3
    clear hB
    clear hw
    go_wp2_with fail
    obtain ⟨n, c, hFI⟩ := few_ex xs
    have HFI := Lib.hid hFI
    have HFF := Lib.hid (few_facts HW.out hFI)
    clear hFI
    refine (few_at h xs _ w3 (FA w3 (Free.Bel.refl _)).2.2.1.out (FA w3 (Free.Bel.refl _)).2.2.2.1.out HW.out n c HFI).mono ?_
    rintro e w4 ⟨rfl, hB⟩
    have HB_w4 := Lib.hid (HB_w3.out.trans ((hB).mono hz_w3))
    have hz_w4 : bb ≤ w4.heap.size := Nat.le_trans hz_w3 (hB).size
    have FN := fun (W : World) (hW : Free.Bel w4 W) => FA W (bt (hB) hW)
    clear FA HB_w3 hz_w3 KR
    have FA := FN
    clear FN
    have KR := Free.Bel.refl w4
    clear hB
    have hn0 : ¬ n < 0 := by have := HFF.out.1; omega
    have hn3 : ¬ 3 < n := by have := HFF.out.2.1; omega
    have hn0b : decide (n < 0) = false := decide_eq_false hn0
    have hn3b : decide (3 < n) = false := decide_eq_false hn3
    go_wp2_with fail
    have hF : ∀ W, Below w4.heap.size w4.drew W → Free.Bel w4 W := fun W hW => (show Below w4.heap.size w4 W from ((Below.refl _ w4).drew).trans hW)
    refine Free2.wp_free (R := Below w4.heap.size) (J := LL w4.heap.size [⟨3, 6, (.cells #[.int .i64 0, .slice none 0 0] 24), (.cells #[.int .i64 h, .slice p xs.length cp] 24)⟩, ⟨4, 7, (.cells #[.int .i64 0, .slice none 0 0] 24), (.cells #[.int .i64 h, .slice p xs.length cp] 24)⟩, ⟨5, 8, (.cells #[.int .i64 0, .slice none 0 0] 24), (.cells #[.int .i64 h, .slice p xs.length cp] 24)⟩]) (by kernel_rfl) (by kernel_rfl) (Below.refl _) (fun _ _ _ => Below.trans) (LL.start (Nat.le_refl _)) ?_
    refine Free2.Chain.ex ?_ 0 rfl [] [2] (by kernel_rfl) (by kernel_rfl) rfl (Below.refl _) (fun X W v h => LL.skip h 0 v (by simp)) ?_ ?_
    rotate_left
    · (intro ev W hb hR hO hD; have hS := hF W hR; obtain ⟨hb1, hb2, hb3⟩ := hb; simp only [Free.AllDeps, Free.AllOuts, Free.At, al1, al2, al3, al4, al5, and_true] at hO hD; go_simp; rfl)
    simp only [an1, an2]
    refine Free2.Chain.ex ?_ 1 rfl [] [2] (by kernel_rfl) (by kernel_rfl) rfl (Below.refl _) (fun X W v h => LL.skip h 1 v (by simp)) ?_ ?_
    rotate_left
    · (intro ev W hb hR hO hD; have hS := hF W hR; obtain ⟨hb1, hb2, hb3⟩ := hb; simp only [Free.AllDeps, Free.AllOuts, Free.At, al1, al2, al3, al4, al5, and_true] at hO hD; go_simp; rfl)
    simp only [an1, an2]
    refine Free2.Chain.ex ?_ 2 rfl [] [2] (by kernel_rfl) (by kernel_rfl) rfl (Below.refl _) (fun X W v h => LL.skip h 2 v (by simp)) ?_ ?_
    rotate_left
    · (intro ev W hb hR hO hD; have hS := hF W hR; obtain ⟨hb1, hb2, hb3⟩ := hb; simp only [Free.AllDeps, Free.AllOuts, Free.At, al1, al2, al3, al4, al5, and_true] at hO hD; go_simp; rfl)
    simp only [an1, an2]
    refine Free2.Chain.pr (fun v _ => ∃ b, v = ptr b) 3 rfl [] [] (by kernel_rfl) (by kernel_rfl) rfl (fun _ _ _ _ h => h) ?_ ?_
    · (intro ev W X hb hR hO hD hj hx hax; have hS := hF W hR; obtain ⟨hb1, hb2, hb3⟩ := hb; simp only [Free.AllDeps, Free.AllOuts, Free.At, al1, al2, al3, al4, al5, and_true] at hO hD; simp only [Free2.AllX, and_true] at hax; go_simp; exact ⟨(Below.refl _ W).alloc hj.size _, ⟨_, rfl⟩, hj.new ⟨3, 6, (.cells #[.int .i64 0, .slice none 0 0] 24), (.cells #[.int .i64 h, .slice p xs.length cp] 24)⟩ (by simp) (by simp) hx⟩)
    simp only [an1, an2]
    refine Free2.Chain.pr (fun v _ => ∃ b, v = ptr b) 4 rfl [] [] (by kernel_rfl) (by kernel_rfl) rfl (fun _ _ _ _ h => h) ?_ ?_
    · (intro ev W X hb hR hO hD hj hx hax; have hS := hF W hR; obtain ⟨hb1, hb2, hb3⟩ := hb; simp only [Free.AllDeps, Free.AllOuts, Free.At, al1, al2, al3, al4, al5, and_true] at hO hD; simp only [Free2.AllX, and_true] at hax; go_simp; exact ⟨(Below.refl _ W).alloc hj.size _, ⟨_, rfl⟩, hj.new ⟨4, 7, (.cells #[.int .i64 0, .slice none 0 0] 24), (.cells #[.int .i64 h, .slice p xs.length cp] 24)⟩ (by simp) (by simp) hx⟩)
    simp only [an1, an2]
    refine Free2.Chain.pr (fun v _ => ∃ b, v = ptr b) 5 rfl [] [] (by kernel_rfl) (by kernel_rfl) rfl (fun _ _ _ _ h => h) ?_ ?_
    · (intro ev W X hb hR hO hD hj hx hax; have hS := hF W hR; obtain ⟨hb1, hb2, hb3⟩ := hb; simp only [Free.AllDeps, Free.AllOuts, Free.At, al1, al2, al3, al4, al5, and_true] at hO hD; simp only [Free2.AllX, and_true] at hax; go_simp; exact ⟨(Below.refl _ W).alloc hj.size _, ⟨_, rfl⟩, hj.new ⟨5, 8, (.cells #[.int .i64 0, .slice none 0 0] 24), (.cells #[.int .i64 h, .slice p xs.length cp] 24)⟩ (by simp) (by simp) hx⟩)
    simp only [an1, an2]
    refine Free2.Chain.pr (fun _ _ => True) 6 rfl [(3, 8), (0, 43), (0, 43), (3, 8), (4, 9), (5, 10)] [] (by kernel_rfl) (by kernel_rfl) rfl (fun _ _ _ _ h => h) ?_ ?_
    · (intro ev W X hb hR hO hD hj hx hax; have hS := hF W hR; obtain ⟨hb1, hb2, hb3⟩ := hb; simp only [Free.AllDeps, Free.AllOuts, Free.At, al1, al2, al3, al4, al5, and_true] at hO hD; simp only [Free2.AllX, and_true] at hax; obtain ⟨b, hb9, hs0, hbl⟩ := hj.at_ ⟨3, 6, (.cells #[.int .i64 0, .slice none 0 0] 24), (.cells #[.int .i64 h, .slice p xs.length cp] 24)⟩ (by simp) hax.1 hx; have hX := hax.1; rw [hb9] at hX; have hp := hj.puts ⟨3, 6, (.cells #[.int .i64 0, .slice none 0 0] 24), (.cells #[.int .i64 h, .slice p xs.length cp] 24)⟩ (by simp) (by simp) hX hs0 hbl [(0, .int .i64 h), (1, .slice p xs.length cp)] rfl; have q0 : W.cell? ⟨b, 0, none⟩ = some (.int .i64 0) := cell_of_heap (o := 0) hbl rfl; have q1 : W.cell? ⟨b, 1, none⟩ = some (.slice none 0 0) := cell_of_heap (o := 1) hbl rfl; have p0 : ∀ o, W.frozen? ⟨b, o, none⟩ = false := fun o => frozen_of_heap (o := o) hbl; go_simp; exact ⟨(hp undef).1, (hp _).2⟩)
    simp only [an1, an2]
    refine Free2.Chain.pr (fun _ _ => True) 7 rfl [(4, 9), (1, 44), (0, 43), (1, 44), (3, 8), (4, 9), (5, 10)] [] (by kernel_rfl) (by kernel_rfl) rfl (fun _ _ _ _ h => h) ?_ ?_
    · (intro ev W X hb hR hO hD hj hx hax; have hS := hF W hR; obtain ⟨hb1, hb2, hb3⟩ := hb; simp only [Free.AllDeps, Free.AllOuts, Free.At, al1, al2, al3, al4, al5, and_true] at hO hD; simp only [Free2.AllX, and_true] at hax; obtain ⟨b, hb9, hs0, hbl⟩ := hj.at_ ⟨4, 7, (.cells #[.int .i64 0, .slice none 0 0] 24), (.cells #[.int .i64 h, .slice p xs.length cp] 24)⟩ (by simp) hax.1 hx; have hX := hax.1; rw [hb9] at hX; have hp := hj.puts ⟨4, 7, (.cells #[.int .i64 0, .slice none 0 0] 24), (.cells #[.int .i64 h, .slice p xs.length cp] 24)⟩ (by simp) (by simp) hX hs0 hbl [(0, .int .i64 h), (1, .slice p xs.length cp)] rfl; have q0 : W.cell? ⟨b, 0, none⟩ = some (.int .i64 0) := cell_of_heap (o := 0) hbl rfl; have q1 : W.cell? ⟨b, 1, none⟩ = some (.slice none 0 0) := cell_of_heap (o := 1) hbl rfl; have p0 : ∀ o, W.frozen? ⟨b, o, none⟩ = false := fun o => frozen_of_heap (o := o) hbl; go_simp; exact ⟨(hp undef).1, (hp _).2⟩)
    simp only [an1, an2]
    refine Free2.Chain.pr (fun _ _ => True) 8 rfl [(5, 10), (2, 45), (0, 43), (1, 44), (2, 45), (3, 8), (4, 9), (5, 10)] [] (by kernel_rfl) (by kernel_rfl) rfl (fun _ _ _ _ h => h) ?_ ?_
    · (intro ev W X hb hR hO hD hj hx hax; have hS := hF W hR; obtain ⟨hb1, hb2, hb3⟩ := hb; simp only [Free.AllDeps, Free.AllOuts, Free.At, al1, al2, al3, al4, al5, and_true] at hO hD; simp only [Free2.AllX, and_true] at hax; obtain ⟨b, hb9, hs0, hbl⟩ := hj.at_ ⟨5, 8, (.cells #[.int .i64 0, .slice none 0 0] 24), (.cells #[.int .i64 h, .slice p xs.length cp] 24)⟩ (by simp) hax.1 hx; have hX := hax.1; rw [hb9] at hX; have hp := hj.puts ⟨5, 8, (.cells #[.int .i64 0, .slice none 0 0] 24), (.cells #[.int .i64 h, .slice p xs.length cp] 24)⟩ (by simp) (by simp) hX hs0 hbl [(0, .int .i64 h), (1, .slice p xs.length cp)] rfl; have q0 : W.cell? ⟨b, 0, none⟩ = some (.int .i64 0) := cell_of_heap (o := 0) hbl rfl; have q1 : W.cell? ⟨b, 1, none⟩ = some (.slice none 0 0) := cell_of_heap (o := 1) hbl rfl; have p0 : ∀ o, W.frozen? ⟨b, o, none⟩ = false := fun o => frozen_of_heap (o := o) hbl; go_simp; exact ⟨(hp undef).1, (hp _).2⟩)
    simp only [an1, an2]
    intro ys w5 hR hV hX
    obtain ⟨X, hj, hxx⟩ := hX
    obtain ⟨b1, hp_b1, hs_b1, hl_b1⟩ := hj.done ⟨3, 6, (.cells #[.int .i64 0, .slice none 0 0] 24), (.cells #[.int .i64 h, .slice p xs.length cp] 24)⟩ (by simp) (hxx 3 (show (3 : Nat) < 9 by decide)) (hxx 6 (show (6 : Nat) < 9 by decide))
    obtain ⟨b2, hp_b2, hs_b2, hl_b2⟩ := hj.done ⟨4, 7, (.cells #[.int .i64 0, .slice none 0 0] 24), (.cells #[.int .i64 h, .slice p xs.length cp] 24)⟩ (by simp) (hxx 4 (show (4 : Nat) < 9 by decide)) (hxx 7 (show (7 : Nat) < 9 by decide))
    obtain ⟨b3, hp_b3, hs_b3, hl_b3⟩ := hj.done ⟨5, 8, (.cells #[.int .i64 0, .slice none 0 0] 24), (.cells #[.int .i64 h, .slice p xs.length cp] 24)⟩ (by simp) (hxx 5 (show (5 : Nat) < 9 by decide)) (hxx 8 (show (8 : Nat) < 9 by decide))
    simp only [Free.AllV, Free.At, List.length_cons, List.length_nil, Nat.reduceAdd, List.getElem?_cons_succ, List.getElem?_cons_zero, true_and, and_true] at hV
    simp only [Free.putsFrom, Act.put, Nat.zero_add, Nat.reduceAdd, hV, hp_b1, hp_b2, hp_b3, List.setIfInBounds_toArray, List.set_cons_succ, List.set_cons_zero]
    have hN := hF w5 hR
    have hg_b1 : bb + 1 ≤ b1 := Nat.le_trans (FA w4 (Free.Bel.refl _)).2.2.2.2.1 hs_b1
    have hg_b2 : bb + 1 ≤ b2 := Nat.le_trans (FA w4 (Free.Bel.refl _)).2.2.2.2.1 hs_b2
    have hg_b3 : bb + 1 ≤ b3 := Nat.le_trans (FA w4 (Free.Bel.refl _)).2.2.2.2.1 hs_b3
    have hne_b1_b2 : b1 ≠ b2 := fun h9 => hj.ne ⟨3, 6, (.cells #[.int .i64 0, .slice none 0 0] 24), (.cells #[.int .i64 h, .slice p xs.length cp] 24)⟩ (by simp) ⟨4, 7, (.cells #[.int .i64 0, .slice none 0 0] 24), (.cells #[.int .i64 h, .slice p xs.length cp] 24)⟩ (by simp) (show (3 : Nat) ≠ 4 by decide) _ (hxx 3 (show (3 : Nat) < 9 by decide)) (by rw [hxx 4 (show (4 : Nat) < 9 by decide), hp_b1, hp_b2, h9])
    have hne_b1_b3 : b1 ≠ b3 := fun h9 => hj.ne ⟨3, 6, (.cells #[.int .i64 0, .slice none 0 0] 24), (.cells #[.int .i64 h, .slice p xs.length cp] 24)⟩ (by simp) ⟨5, 8, (.cells #[.int .i64 0, .slice none 0 0] 24), (.cells #[.int .i64 h, .slice p xs.length cp] 24)⟩ (by simp) (show (3 : Nat) ≠ 5 by decide) _ (hxx 3 (show (3 : Nat) < 9 by decide)) (by rw [hxx 5 (show (5 : Nat) < 9 by decide), hp_b1, hp_b3, h9])
    have hne_b2_b3 : b2 ≠ b3 := fun h9 => hj.ne ⟨4, 7, (.cells #[.int .i64 0, .slice none 0 0] 24), (.cells #[.int .i64 h, .slice p xs.length cp] 24)⟩ (by simp) ⟨5, 8, (.cells #[.int .i64 0, .slice none 0 0] 24), (.cells #[.int .i64 h, .slice p xs.length cp] 24)⟩ (by simp) (show (4 : Nat) ≠ 5 by decide) _ (hxx 4 (show (4 : Nat) < 9 by decide)) (by rw [hxx 5 (show (5 : Nat) < 9 by decide), hp_b2, hp_b3, h9])
    have HB_w5 := Lib.hid (HB_w4.out.trans ((hN).mono hz_w4))
    have hz_w5 : bb ≤ w5.heap.size := Nat.le_trans hz_w4 (hN).size
    have FN := fun (W : World) (hW : Free.Bel w5 W) => And.intro (keepsB hW (cell_of_heap (o := 0) hl_b1 rfl)) (And.intro (keepsB hW (cell_of_heap (o := 1) hl_b1 rfl)) (And.intro ((hW.frozen (p := ⟨b1, 0, none⟩) (lt_of_heap hl_b1)).trans (frozen_of_heap (o := 0) hl_b1)) (And.intro ((hW.frozen (p := ⟨b1, 1, none⟩) (lt_of_heap hl_b1)).trans (frozen_of_heap (o := 1) hl_b1)) (And.intro (keepsB hW (cell_of_heap (o := 0) hl_b2 rfl)) (And.intro (keepsB hW (cell_of_heap (o := 1) hl_b2 rfl)) (And.intro ((hW.frozen (p := ⟨b2, 0, none⟩) (lt_of_heap hl_b2)).trans (frozen_of_heap (o := 0) hl_b2)) (And.intro ((hW.frozen (p := ⟨b2, 1, none⟩) (lt_of_heap hl_b2)).trans (frozen_of_heap (o := 1) hl_b2)) (And.intro (keepsB hW (cell_of_heap (o := 0) hl_b3 rfl)) (And.intro (keepsB hW (cell_of_heap (o := 1) hl_b3 rfl)) (And.intro ((hW.frozen (p := ⟨b3, 0, none⟩) (lt_of_heap hl_b3)).trans (frozen_of_heap (o := 0) hl_b3)) (And.intro ((hW.frozen (p := ⟨b3, 1, none⟩) (lt_of_heap hl_b3)).trans (frozen_of_heap (o := 1) hl_b3)) (FA W (bt (hN) hW)))))))))))))
    clear FA HB_w4 hz_w4 KR
    have FA := FN
    clear FN
    have KR := Free.Bel.refl w5
    clear hR hF hj hxx hV hN hp_b1 hs_b1 hl_b1 hp_b2 hs_b2 hl_b2 hp_b3 hs_b3 hl_b3
    go_wp2_with fail
    have hGB : bb ≤ b1 := by omega
    have HB_w6 := Lib.hid (show Below bb w (w5.setCell ⟨b1, 0, none⟩ (.int .i64 3)) from (HB_w5.out).setCell (p := ⟨b1, 0, none⟩) hGB _)
    obtain ⟨a0, a1, a2, a3, a4, a5, a6, a7, a8, a9, a10, a11, a12, a13, a14, a15, a16, a17⟩ := FA w5 (Free.Bel.refl _)
    have n_0 : (w5.setCell ⟨b1, 0, none⟩ (.int .i64 3)).cell? ⟨b1, 0, none⟩ = some (.int .i64 3) := by simp [go_sem, a0]
    have n_1 : (w5.setCell ⟨b1, 0, none⟩ (.int .i64 3)).cell? ⟨b1, 1, none⟩ = some (.slice p xs.length cp) := by simp [go_sem, a1]
    have n_2 : (w5.setCell ⟨b1, 0, none⟩ (.int .i64 3)).frozen? ⟨b1, 0, none⟩ = false := by simp [go_sem, a2]
    have l_3 : b1 < (w5.setCell ⟨b1, 0, none⟩ (.int .i64 3)).heap.size := by have := lt_of_cell (w := w5) (p := ⟨b1, 0, none⟩) (by assumption); simpa using this
    have n_4 : (w5.setCell ⟨b1, 0, none⟩ (.int .i64 3)).frozen? ⟨b1, 1, none⟩ = false := by simp [go_sem, a3]
    have l_5 : b1 < (w5.setCell ⟨b1, 0, none⟩ (.int .i64 3)).heap.size := by have := lt_of_cell (w := w5) (p := ⟨b1, 0, none⟩) (by assumption); simpa using this
    have e_6 : b2 ≠ b1 := by omega
    have n_7 : (w5.setCell ⟨b1, 0, none⟩ (.int .i64 3)).cell? ⟨b2, 0, none⟩ = some (.int .i64 h) := by simp [go_sem, e_6, a4]
    have e_8 : b2 ≠ b1 := by omega
    have n_9 : (w5.setCell ⟨b1, 0, none⟩ (.int .i64 3)).cell? ⟨b2, 1, none⟩ = some (.slice p xs.length cp) := by simp [go_sem, e_8, a5]
    have n_10 : (w5.setCell ⟨b1, 0, none⟩ (.int .i64 3)).frozen? ⟨b2, 0, none⟩ = false := by simp [go_sem, a6]
    have l_11 : b2 < (w5.setCell ⟨b1, 0, none⟩ (.int .i64 3)).heap.size := by have := lt_of_cell (w := w5) (p := ⟨b2, 0, none⟩) (by assumption); simpa using this
    have n_12 : (w5.setCell ⟨b1, 0, none⟩ (.int .i64 3)).frozen? ⟨b2, 1, none⟩ = false := by simp [go_sem, a7]
    have l_13 : b2 < (w5.setCell ⟨b1, 0, none⟩ (.int .i64 3)).heap.size := by have := lt_of_cell (w := w5) (p := ⟨b2, 0, none⟩) (by assumption); simpa using this
    have e_14 : b3 ≠ b1 := by omega
    have n_15 : (w5.setCell ⟨b1, 0, none⟩ (.int .i64 3)).cell? ⟨b3, 0, none⟩ = some (.int .i64 h) := by simp [go_sem, e_14, a8]
    have e_16 : b3 ≠ b1 := by omega
    have n_17 : (w5.setCell ⟨b1, 0, none⟩ (.int .i64 3)).cell? ⟨b3, 1, none⟩ = some (.slice p xs.length cp) := by simp [go_sem, e_16, a9]
    have n_18 : (w5.setCell ⟨b1, 0, none⟩ (.int .i64 3)).frozen? ⟨b3, 0, none⟩ = false := by simp [go_sem, a10]
    have l_19 : b3 < (w5.setCell ⟨b1, 0, none⟩ (.int .i64 3)).heap.size := by have := lt_of_cell (w := w5) (p := ⟨b3, 0, none⟩) (by assumption); simpa using this
    have n_20 : (w5.setCell ⟨b1, 0, none⟩ (.int .i64 3)).frozen? ⟨b3, 1, none⟩ = false := by simp [go_sem, a11]
    have l_21 : b3 < (w5.setCell ⟨b1, 0, none⟩ (.int .i64 3)).heap.size := by have := lt_of_cell (w := w5) (p := ⟨b3, 0, none⟩) (by assumption); simpa using this
    have e_22 : bb ≠ b1 := by omega
    have n_23 : (w5.setCell ⟨b1, 0, none⟩ (.int .i64 3)).cell? ⟨bb, 0, none⟩ = some (.int .i64 h) := by simp [go_sem, e_22, a12]
    have e_24 : bb ≠ b1 := by omega
    have n_25 : (w5.setCell ⟨b1, 0, none⟩ (.int .i64 3)).cell? ⟨bb, 1, none⟩ = some (.slice p xs.length cp) := by simp [go_sem, e_24, a13]
    have n_26 : bb + 1 ≤ (w5.setCell ⟨b1, 0, none⟩ (.int .i64 3)).heap.size := by simpa using a16
    have n_27 : bb ≤ (w5.setCell ⟨b1, 0, none⟩ (.int .i64 3)).heap.size := by simpa using a17
    have hz_w6 : bb ≤ (w5.setCell ⟨b1, 0, none⟩ (.int .i64 3)).heap.size := by simpa using hz_w5
    generalize (w5.setCell ⟨b1, 0, none⟩ (.int .i64 3)) = w6 at *
    have FN := fun (W : World) (hW : Free.Bel w6 W) => And.intro (keepsB hW n_0) (And.intro (keepsB hW n_1) (And.intro ((hW.frozen (p := ⟨b1, 0, none⟩) l_3).trans n_2) (And.intro ((hW.frozen (p := ⟨b1, 1, none⟩) l_5).trans n_4) (And.intro (keepsB hW n_7) (And.intro (keepsB hW n_9) (And.intro ((hW.frozen (p := ⟨b2, 0, none⟩) l_11).trans n_10) (And.intro ((hW.frozen (p := ⟨b2, 1, none⟩) l_13).trans n_12) (And.intro (keepsB hW n_15) (And.intro (keepsB hW n_17) (And.intro ((hW.frozen (p := ⟨b3, 0, none⟩) l_19).trans n_18) (And.intro ((hW.frozen (p := ⟨b3, 1, none⟩) l_21).trans n_20) (And.intro (keepsB hW n_23) (And.intro (keepsB hW n_25) (And.intro (Lib.hid (HTX.out W (HB_w6.out.trans (hW.mono hz_w6)))) (And.intro (Lib.hid (HUX.out W (HB_w6.out.trans (hW.mono hz_w6)))) (And.intro (Nat.le_trans n_26 hW.size) (Nat.le_trans n_27 hW.size)))))))))))))))))
    clear FA KR HB_w5 hz_w5 hGB a0 a1 a2 a3 a4 a5 a6 a7 a8 a9 a10 a11 a12 a13 a14 a15 a16 a17 n_0 n_1 n_2 l_3 n_4 l_5 e_6 n_7 e_8 n_9 n_10 l_11 n_12 l_13 e_14 n_15 e_16 n_17 n_18 l_19 n_20 l_21 e_22 n_23 e_24 n_25 n_26 n_27
    have FA := FN
    clear FN
    have KR : Free.Bel w6 w6 := Free.Bel.refl _
    obtain ⟨r3, hr3⟩ : ∃ r, everB 3 xs = r := ⟨_, rfl⟩
    have HR3 := Lib.hid hr3
    clear hr3
    refine (can_at (3) xs _ w6 (FA w6 (Free.Bel.refl _)).2.2.2.2.2.2.2.2.2.2.2.2.2.2.1.out (FA w6 (Free.Bel.refl _)).2.2.2.2.2.2.2.2.2.2.2.2.2.2.2.1.out (watch_hands HW.out (by decide) (by decide)) r3 HR3).mono ?_
    rintro e w7 ⟨rfl, hB⟩
    have HB_w7 := Lib.hid (HB_w6.out.trans ((hB).mono hz_w6))
    have hz_w7 : bb ≤ w7.heap.size := Nat.le_trans hz_w6 (hB).size
    have FN := fun (W : World) (hW : Free.Bel w7 W) => FA W (bt (hB) hW)
    clear FA HB_w6 hz_w6 KR
    have FA := FN
    clear FN
    have KR := Free.Bel.refl w7
    clear hB
    go_upto_region 8 with fail
    go_cut [75] (fun s75 W => s75 = .bool false ∧ Free.Bel w7 W)
    case first =>
      rcases HFF.out.2.2 with ⟨h1, h2, h3⟩ | ⟨h1, h2, h3, h4, h5⟩
      · have hHa := Lib.hid (And.intro h1 (And.intro h2 h3))
        obtain rfl : c = 8 := h1
        obtain rfl : n = 0 := h2
        obtain rfl : r3 = false := HR3.out.symm.trans h3
        clear h3
        go_wp2_with fail
        go_meet
        exact ⟨rfl, (Free.Bel.refl _)⟩
      · have hHb := Lib.hid (And.intro h1 (And.intro h2 (And.intro h3 (And.intro h4 h5))))
        obtain rfl : c = 0 := h1
        obtain rfl : r3 = true := HR3.out.symm.trans h2
        clear h2 h3 h4 h5
        go_wp2_with fail
        go_meet
        exact ⟨rfl, (Free.Bel.refl _)⟩
    obtain ⟨rfl, hN⟩ := hcut
    obtain ⟨w8, hwc⟩ : ∃ x, x = wc := ⟨_, rfl⟩
    subst hwc
    have HB_w8 := Lib.hid (HB_w7.out.trans ((hN).mono hz_w7))
    have hz_w8 : bb ≤ w8.heap.size := Nat.le_trans hz_w7 (hN).size
    have FN := fun (W : World) (hW : Free.Bel w8 W) => FA W (bt (hN) hW)
    clear FA HB_w7 hz_w7 KR
    have FA := FN
    clear FN
    have KR := Free.Bel.refl w8
    clear hN
    go_upto_if 77 with fail
    go_cut [] (fun W => Below bb w W ∧ W.cell? ⟨bb, 0, none⟩ = some (.int .i64 h) ∧ W.cell? ⟨bb, 1, none⟩ = some (.slice p xs.length cp) ∧ bb + 1 ≤ W.heap.size ∧ bb ≤ W.heap.size)
    case first =>
      rcases HFF.out.2.2 with ⟨h1, h2, h3⟩ | ⟨h1, h2, h3, h4, h5⟩
      · have hHa := Lib.hid (And.intro h1 (And.intro h2 h3))
        obtain rfl : c = 8 := h1
        obtain rfl : n = 0 := h2
        obtain rfl : r3 = false := HR3.out.symm.trans h3
        clear h3
        go_wp2_with fail
        go_meet
        exact ⟨HB_w8.out, (FA w8 (Free.Bel.refl _)).2.2.2.2.2.2.2.2.2.2.2.2.1, (FA w8 (Free.Bel.refl _)).2.2.2.2.2.2.2.2.2.2.2.2.2.1, (FA w8 (Free.Bel.refl _)).2.2.2.2.2.2.2.2.2.2.2.2.2.2.2.2.1, (FA w8 (Free.Bel.refl _)).2.2.2.2.2.2.2.2.2.2.2.2.2.2.2.2.2⟩
      · have hHb := Lib.hid (And.intro h1 (And.intro h2 (And.intro h3 (And.intro h4 h5))))
        obtain rfl : c = 0 := h1
        obtain rfl : r3 = true := HR3.out.symm.trans h2
        clear h2 h3 h4 h5
        rcases Int.lt_or_le 0 n with h0 | h0
        · have hM : max 0 (n - 1) = n - 1 := by omega
          have hnw : IntKind.i64.wrap (n - 1) = n - 1 := IntWalk.i64_in _ (by omega)
          obtain ⟨mm, hmm⟩ : ∃ x, max 0 (n - 1) = x := ⟨_, rfl⟩
          have HMM := Lib.hid (hmm.symm.trans hM)
          clear hM
          go_wp2_with fail
          have hGB : bb ≤ b2 := by omega
          have HB_w9 := Lib.hid (show Below bb w (w8.setCell ⟨b2, 0, none⟩ (.int .i64 n)) from (HB_w8.out).setCell (p := ⟨b2, 0, none⟩) hGB _)
          obtain ⟨a0, a1, a2, a3, a4, a5, a6, a7, a8, a9, a10, a11, a12, a13, a14, a15, a16, a17⟩ := FA w8 (Free.Bel.refl _)
          have e_0 : b1 ≠ b2 := by omega
          have n_1 : (w8.setCell ⟨b2, 0, none⟩ (.int .i64 n)).cell? ⟨b1, 0, none⟩ = some (.int .i64 3) := by simp [go_sem, e_0, a0]
          have e_2 : b1 ≠ b2 := by omega
          have n_3 : (w8.setCell ⟨b2, 0, none⟩ (.int .i64 n)).cell? ⟨b1, 1, none⟩ = some (.slice p xs.length cp) := by simp [go_sem, e_2, a1]
          have n_4 : (w8.setCell ⟨b2, 0, none⟩ (.int .i64 n)).frozen? ⟨b1, 0, none⟩ = false := by simp [go_sem, a2]
          have l_5 : b1 < (w8.setCell ⟨b2, 0, none⟩ (.int .i64 n)).heap.size := by have := lt_of_cell (w := w8) (p := ⟨b1, 0, none⟩) (by assumption); simpa using this
          have n_6 : (w8.setCell ⟨b2, 0, none⟩ (.int .i64 n)).frozen? ⟨b1, 1, none⟩ = false := by simp [go_sem, a3]
          have l_7 : b1 < (w8.setCell ⟨b2, 0, none⟩ (.int .i64 n)).heap.size := by have := lt_of_cell (w := w8) (p := ⟨b1, 0, none⟩) (by assumption); simpa using this
          have n_8 : (w8.setCell ⟨b2, 0, none⟩ (.int .i64 n)).cell? ⟨b2, 0, none⟩ = some (.int .i64 n) := by simp [go_sem, a4]
          have n_9 : (w8.setCell ⟨b2, 0, none⟩ (.int .i64 n)).cell? ⟨b2, 1, none⟩ = some (.slice p xs.length cp) := by simp [go_sem, a5]
          have n_10 : (w8.setCell ⟨b2, 0, none⟩ (.int .i64 n)).frozen? ⟨b2, 0, none⟩ = false := by simp [go_sem, a6]
          have l_11 : b2 < (w8.setCell ⟨b2, 0, none⟩ (.int .i64 n)).heap.size := by have := lt_of_cell (w := w8) (p := ⟨b2, 0, none⟩) (by assumption); simpa using this
          have n_12 : (w8.setCell ⟨b2, 0, none⟩ (.int .i64 n)).frozen? ⟨b2, 1, none⟩ = false := by simp [go_sem, a7]
          have l_13 : b2 < (w8.setCell ⟨b2, 0, none⟩ (.int .i64 n)).heap.size := by have := lt_of_cell (w := w8) (p := ⟨b2, 0, none⟩) (by assumption); simpa using this
          have e_14 : b3 ≠ b2 := by omega
          have n_15 : (w8.setCell ⟨b2, 0, none⟩ (.int .i64 n)).cell? ⟨b3, 0, none⟩ = some (.int .i64 h) := by simp [go_sem, e_14, a8]
          have e_16 : b3 ≠ b2 := by omega
          have n_17 : (w8.setCell ⟨b2, 0, none⟩ (.int .i64 n)).cell? ⟨b3, 1, none⟩ = some (.slice p xs.length cp) := by simp [go_sem, e_16, a9]
          have n_18 : (w8.setCell ⟨b2, 0, none⟩ (.int .i64 n)).frozen? ⟨b3, 0, none⟩ = false := by simp [go_sem, a10]
          have l_19 : b3 < (w8.setCell ⟨b2, 0, none⟩ (.int .i64 n)).heap.size := by have := lt_of_cell (w := w8) (p := ⟨b3, 0, none⟩) (by assumption); simpa using this
          have n_20 : (w8.setCell ⟨b2, 0, none⟩ (.int .i64 n)).frozen? ⟨b3, 1, none⟩ = false := by simp [go_sem, a11]
          have l_21 : b3 < (w8.setCell ⟨b2, 0, none⟩ (.int .i64 n)).heap.size := by have := lt_of_cell (w := w8) (p := ⟨b3, 0, none⟩) (by assumption); simpa using this
          have e_22 : bb ≠ b2 := by omega
          have n_23 : (w8.setCell ⟨b2, 0, none⟩ (.int .i64 n)).cell? ⟨bb, 0, none⟩ = some (.int .i64 h) := by simp [go_sem, e_22, a12]
          have e_24 : bb ≠ b2 := by omega
          have n_25 : (w8.setCell ⟨b2, 0, none⟩ (.int .i64 n)).cell? ⟨bb, 1, none⟩ = some (.slice p xs.length cp) := by simp [go_sem, e_24, a13]
          have n_26 : bb + 1 ≤ (w8.setCell ⟨b2, 0, none⟩ (.int .i64 n)).heap.size := by simpa using a16
          have n_27 : bb ≤ (w8.setCell ⟨b2, 0, none⟩ (.int .i64 n)).heap.size := by simpa using a17
          have hz_w9 : bb ≤ (w8.setCell ⟨b2, 0, none⟩ (.int .i64 n)).heap.size := by simpa using hz_w8
          generalize (w8.setCell ⟨b2, 0, none⟩ (.int .i64 n)) = w9 at *
          have FN := fun (W : World) (hW : Free.Bel w9 W) => And.intro (keepsB hW n_1) (And.intro (keepsB hW n_3) (And.intro ((hW.frozen (p := ⟨b1, 0, none⟩) l_5).trans n_4) (And.intro ((hW.frozen (p := ⟨b1, 1, none⟩) l_7).trans n_6) (And.intro (keepsB hW n_8) (And.intro (keepsB hW n_9) (And.intro ((hW.frozen (p := ⟨b2, 0, none⟩) l_11).trans n_10) (And.intro ((hW.frozen (p := ⟨b2, 1, none⟩) l_13).trans n_12) (And.intro (keepsB hW n_15) (And.intro (keepsB hW n_17) (And.intro ((hW.frozen (p := ⟨b3, 0, none⟩) l_19).trans n_18) (And.intro ((hW.frozen (p := ⟨b3, 1, none⟩) l_21).trans n_20) (And.intro (keepsB hW n_23) (And.intro (keepsB hW n_25) (And.intro (Lib.hid (HTX.out W (HB_w9.out.trans (hW.mono hz_w9)))) (And.intro (Lib.hid (HUX.out W (HB_w9.out.trans (hW.mono hz_w9)))) (And.intro (Nat.le_trans n_26 hW.size) (Nat.le_trans n_27 hW.size)))))))))))))))))
          clear FA KR HB_w8 hz_w8 hGB a0 a1 a2 a3 a4 a5 a6 a7 a8 a9 a10 a11 a12 a13 a14 a15 a16 a17 e_0 n_1 e_2 n_3 n_4 l_5 n_6 l_7 n_8 n_9 n_10 l_11 n_12 l_13 e_14 n_15 e_16 n_17 n_18 l_19 n_20 l_21 e_22 n_23 e_24 n_25 n_26 n_27
          have FA := FN
          clear FN
          have KR : Free.Bel w9 w9 := Free.Bel.refl _
          have hGB : bb ≤ b3 := by omega
          have HB_w10 := Lib.hid (show Below bb w (w9.setCell ⟨b3, 0, none⟩ (.int .i64 mm)) from (HB_w9.out).setCell (p := ⟨b3, 0, none⟩) hGB _)
          obtain ⟨a0, a1, a2, a3, a4, a5, a6, a7, a8, a9, a10, a11, a12, a13, a14, a15, a16, a17⟩ := FA w9 (Free.Bel.refl _)
          have e_0 : b1 ≠ b3 := by omega
          have n_1 : (w9.setCell ⟨b3, 0, none⟩ (.int .i64 mm)).cell? ⟨b1, 0, none⟩ = some (.int .i64 3) := by simp [go_sem, e_0, a0]
          have e_2 : b1 ≠ b3 := by omega
          have n_3 : (w9.setCell ⟨b3, 0, none⟩ (.int .i64 mm)).cell? ⟨b1, 1, none⟩ = some (.slice p xs.length cp) := by simp [go_sem, e_2, a1]
          have n_4 : (w9.setCell ⟨b3, 0, none⟩ (.int .i64 mm)).frozen? ⟨b1, 0, none⟩ = false := by simp [go_sem, a2]
          have l_5 : b1 < (w9.setCell ⟨b3, 0, none⟩ (.int .i64 mm)).heap.size := by have := lt_of_cell (w := w9) (p := ⟨b1, 0, none⟩) (by assumption); simpa using this
          have n_6 : (w9.setCell ⟨b3, 0, none⟩ (.int .i64 mm)).frozen? ⟨b1, 1, none⟩ = false := by simp [go_sem, a3]
          have l_7 : b1 < (w9.setCell ⟨b3, 0, none⟩ (.int .i64 mm)).heap.size := by have := lt_of_cell (w := w9) (p := ⟨b1, 0, none⟩) (by assumption); simpa using this
          have e_8 : b2 ≠ b3 := by omega
          have n_9 : (w9.setCell ⟨b3, 0, none⟩ (.int .i64 mm)).cell? ⟨b2, 0, none⟩ = some (.int .i64 n) := by simp [go_sem, e_8, a4]
          have e_10 : b2 ≠ b3 := by omega
          have n_11 : (w9.setCell ⟨b3, 0, none⟩ (.int .i64 mm)).cell? ⟨b2, 1, none⟩ = some (.slice p xs.length cp) := by simp [go_sem, e_10, a5]
          have n_12 : (w9.setCell ⟨b3, 0, none⟩ (.int .i64 mm)).frozen? ⟨b2, 0, none⟩ = false := by simp [go_sem, a6]
          have l_13 : b2 < (w9.setCell ⟨b3, 0, none⟩ (.int .i64 mm)).heap.size := by have := lt_of_cell (w := w9) (p := ⟨b2, 0, none⟩) (by assumption); simpa using this
          have n_14 : (w9.setCell ⟨b3, 0, none⟩ (.int .i64 mm)).frozen? ⟨b2, 1, none⟩ = false := by simp [go_sem, a7]
          have l_15 : b2 < (w9.setCell ⟨b3, 0, none⟩ (.int .i64 mm)).heap.size := by have := lt_of_cell (w := w9) (p := ⟨b2, 0, none⟩) (by assumption); simpa using this
          have n_16 : (w9.setCell ⟨b3, 0, none⟩ (.int .i64 mm)).cell? ⟨b3, 0, none⟩ = some (.int .i64 mm) := by simp [go_sem, a8]
          have n_17 : (w9.setCell ⟨b3, 0, none⟩ (.int .i64 mm)).cell? ⟨b3, 1, none⟩ = some (.slice p xs.length cp) := by simp [go_sem, a9]
          have n_18 : (w9.setCell ⟨b3, 0, none⟩ (.int .i64 mm)).frozen? ⟨b3, 0, none⟩ = false := by simp [go_sem, a10]
          have l_19 : b3 < (w9.setCell ⟨b3, 0, none⟩ (.int .i64 mm)).heap.size := by have := lt_of_cell (w := w9) (p := ⟨b3, 0, none⟩) (by assumption); simpa using this
          have n_20 : (w9.setCell ⟨b3, 0, none⟩ (.int .i64 mm)).frozen? ⟨b3, 1, none⟩ = false := by simp [go_sem, a11]
          have l_21 : b3 < (w9.setCell ⟨b3, 0, none⟩ (.int .i64 mm)).heap.size := by have := lt_of_cell (w := w9) (p := ⟨b3, 0, none⟩) (by assumption); simpa using this
          have e_22 : bb ≠ b3 := by omega
          have n_23 : (w9.setCell ⟨b3, 0, none⟩ (.int .i64 mm)).cell? ⟨bb, 0, none⟩ = some (.int .i64 h) := by simp [go_sem, e_22, a12]
          have e_24 : bb ≠ b3 := by omega
          have n_25 : (w9.setCell ⟨b3, 0, none⟩ (.int .i64 mm)).cell? ⟨bb, 1, none⟩ = some (.slice p xs.length cp) := by simp [go_sem, e_24, a13]
          have n_26 : bb + 1 ≤ (w9.setCell ⟨b3, 0, none⟩ (.int .i64 mm)).heap.size := by simpa using a16
          have n_27 : bb ≤ (w9.setCell ⟨b3, 0, none⟩ (.int .i64 mm)).heap.size := by simpa using a17
          have hz_w10 : bb ≤ (w9.setCell ⟨b3, 0, none⟩ (.int .i64 mm)).heap.size := by simpa using hz_w9
          generalize (w9.setCell ⟨b3, 0, none⟩ (.int .i64 mm)) = w10 at *
          have FN := fun (W : World) (hW : Free.Bel w10 W) => And.intro (keepsB hW n_1) (And.intro (keepsB hW n_3) (And.intro ((hW.frozen (p := ⟨b1, 0, none⟩) l_5).trans n_4) (And.intro ((hW.frozen (p := ⟨b1, 1, none⟩) l_7).trans n_6) (And.intro (keepsB hW n_9) (And.intro (keepsB hW n_11) (And.intro ((hW.frozen (p := ⟨b2, 0, none⟩) l_13).trans n_12) (And.intro ((hW.frozen (p := ⟨b2, 1, none⟩) l_15).trans n_14) (And.intro (keepsB hW n_16) (And.intro (keepsB hW n_17) (And.intro ((hW.frozen (p := ⟨b3, 0, none⟩) l_19).trans n_18) (And.intro ((hW.frozen (p := ⟨b3, 1, none⟩) l_21).trans n_20) (And.intro (keepsB hW n_23) (And.intro (keepsB hW n_25) (And.intro (Lib.hid (HTX.out W (HB_w10.out.trans (hW.mono hz_w10)))) (And.intro (Lib.hid (HUX.out W (HB_w10.out.trans (hW.mono hz_w10)))) (And.intro (Nat.le_trans n_26 hW.size) (Nat.le_trans n_27 hW.size)))))))))))))))))
          clear FA KR HB_w9 hz_w9 hGB a0 a1 a2 a3 a4 a5 a6 a7 a8 a9 a10 a11 a12 a13 a14 a15 a16 a17 e_0 n_1 e_2 n_3 n_4 l_5 n_6 l_7 e_8 n_9 e_10 n_11 n_12 l_13 n_14 l_15 n_16 n_17 n_18 l_19 n_20 l_21 e_22 n_23 e_24 n_25 n_26 n_27
          have FA := FN
          clear FN
          have KR : Free.Bel w10 w10 := Free.Bel.refl _
          clear hmm
          go_wp2_with fail
          obtain ⟨r4, hr4⟩ : ∃ r, everB mm xs = r := ⟨_, rfl⟩
          have HR4 := Lib.hid hr4
          clear hr4
          refine (can_at (n) xs _ w10 (FA w10 (Free.Bel.refl _)).2.2.2.2.2.2.2.2.2.2.2.2.2.2.1.out (FA w10 (Free.Bel.refl _)).2.2.2.2.2.2.2.2.2.2.2.2.2.2.2.1.out (watch_hands HW.out (by omega) (by omega)) true (Lib.hid hHb.out.2.2.1)).mono ?_
          rintro e w11 ⟨rfl, hB⟩
          have HB_w11 := Lib.hid (HB_w10.out.trans ((hB).mono hz_w10))
          have hz_w11 : bb ≤ w11.heap.size := Nat.le_trans hz_w10 (hB).size
          have FN := fun (W : World) (hW : Free.Bel w11 W) => FA W (bt (hB) hW)
          clear FA HB_w10 hz_w10 KR
          have FA := FN
          clear FN
          have KR := Free.Bel.refl w11
          clear hB
          go_wp2_with fail
          refine (can_at (mm) xs _ w11 (FA w11 (Free.Bel.refl _)).2.2.2.2.2.2.2.2.2.2.2.2.2.2.1.out (FA w11 (Free.Bel.refl _)).2.2.2.2.2.2.2.2.2.2.2.2.2.2.2.1.out (watch_hands HW.out (by have := HMM.out; omega) (by have := HMM.out; omega)) r4 HR4).mono ?_
          rintro e w12 ⟨rfl, hB⟩
          have HB_w12 := Lib.hid (HB_w11.out.trans ((hB).mono hz_w11))
          have hz_w12 : bb ≤ w12.heap.size := Nat.le_trans hz_w11 (hB).size
          have FN := fun (W : World) (hW : Free.Bel w12 W) => FA W (bt (hB) hW)
          clear FA HB_w11 hz_w11 KR
          have FA := FN
          clear FN
          have KR := Free.Bel.refl w12
          clear hB
          go_wp2_with fail
          refine (can_at (h) xs _ w12 (FA w12 (Free.Bel.refl _)).2.2.2.2.2.2.2.2.2.2.2.2.2.2.1.out (FA w12 (Free.Bel.refl _)).2.2.2.2.2.2.2.2.2.2.2.2.2.2.2.1.out HW.out (decide (n ≤ h)) (Lib.hid hHb.out.2.2.2.2)).mono ?_
          rintro e w13 ⟨rfl, hB⟩
          have HB_w13 := Lib.hid (HB_w12.out.trans ((hB).mono hz_w12))
          have hz_w13 : bb ≤ w13.heap.size := Nat.le_trans hz_w12 (hB).size
          have FN := fun (W : World) (hW : Free.Bel w13 W) => FA W (bt (hB) hW)
          clear FA HB_w12 hz_w12 KR
          have FA := FN
          clear FN
          have KR := Free.Bel.refl w13
          clear hB
          obtain rfl : r4 = false := by have h9 := hHb.out.2.2.2.1 h0; rw [← HMM.out, HR4.out] at h9; exact h9
          go_wp2_with fail
          go_meet
          exact ⟨HB_w13.out, (FA w13 (Free.Bel.refl _)).2.2.2.2.2.2.2.2.2.2.2.2.1, (FA w13 (Free.Bel.refl _)).2.2.2.2.2.2.2.2.2.2.2.2.2.1, (FA w13 (Free.Bel.refl _)).2.2.2.2.2.2.2.2.2.2.2.2.2.2.2.2.1, (FA w13 (Free.Bel.refl _)).2.2.2.2.2.2.2.2.2.2.2.2.2.2.2.2.2⟩
        · have hM : max 0 (n - 1) = 0 := by omega
          have hnw : IntKind.i64.wrap (n - 1) = n - 1 := IntWalk.i64_in _ (by omega)
          have h00 : ¬ 0 < n := by omega
          obtain ⟨mm, hmm⟩ : ∃ x, max 0 (n - 1) = x := ⟨_, rfl⟩
          have HMM := Lib.hid (hmm.symm.trans hM)
          clear hM
          go_wp2_with fail
          have hGB : bb ≤ b2 := by omega
          have HB_w14 := Lib.hid (show Below bb w (w8.setCell ⟨b2, 0, none⟩ (.int .i64 n)) from (HB_w8.out).setCell (p := ⟨b2, 0, none⟩) hGB _)
          obtain ⟨a0, a1, a2, a3, a4, a5, a6, a7, a8, a9, a10, a11, a12, a13, a14, a15, a16, a17⟩ := FA w8 (Free.Bel.refl _)
          have e_0 : b1 ≠ b2 := by omega
          have n_1 : (w8.setCell ⟨b2, 0, none⟩ (.int .i64 n)).cell? ⟨b1, 0, none⟩ = some (.int .i64 3) := by simp [go_sem, e_0, a0]
          have e_2 : b1 ≠ b2 := by omega
          have n_3 : (w8.setCell ⟨b2, 0, none⟩ (.int .i64 n)).cell? ⟨b1, 1, none⟩ = some (.slice p xs.length cp) := by simp [go_sem, e_2, a1]
          have n_4 : (w8.setCell ⟨b2, 0, none⟩ (.int .i64 n)).frozen? ⟨b1, 0, none⟩ = false := by simp [go_sem, a2]
          have l_5 : b1 < (w8.setCell ⟨b2, 0, none⟩ (.int .i64 n)).heap.size := by have := lt_of_cell (w := w8) (p := ⟨b1, 0, none⟩) (by assumption); simpa using this
          have n_6 : (w8.setCell ⟨b2, 0, none⟩ (.int .i64 n)).frozen? ⟨b1, 1, none⟩ = false := by simp [go_sem, a3]
          have l_7 : b1 < (w8.setCell ⟨b2, 0, none⟩ (.int .i64 n)).heap.size := by have := lt_of_cell (w := w8) (p := ⟨b1, 0, none⟩) (by assumption); simpa using this
          have n_8 : (w8.setCell ⟨b2, 0, none⟩ (.int .i64 n)).cell? ⟨b2, 0, none⟩ = some (.int .i64 n) := by simp [go_sem, a4]
          have n_9 : (w8.setCell ⟨b2, 0, none⟩ (.int .i64 n)).cell? ⟨b2, 1, none⟩ = some (.slice p xs.length cp) := by simp [go_sem, a5]
          have n_10 : (w8.setCell ⟨b2, 0, none⟩ (.int .i64 n)).frozen? ⟨b2, 0, none⟩ = false := by simp [go_sem, a6]
          have l_11 : b2 < (w8.setCell ⟨b2, 0, none⟩ (.int .i64 n)).heap.size := by have := lt_of_cell (w := w8) (p := ⟨b2, 0, none⟩) (by assumption); simpa using this
          have n_12 : (w8.setCell ⟨b2, 0, none⟩ (.int .i64 n)).frozen? ⟨b2, 1, none⟩ = false := by simp [go_sem, a7]
          have l_13 : b2 < (w8.setCell ⟨b2, 0, none⟩ (.int .i64 n)).heap.size := by have := lt_of_cell (w := w8) (p := ⟨b2, 0, none⟩) (by assumption); simpa using this
          have e_14 : b3 ≠ b2 := by omega
          have n_15 : (w8.setCell ⟨b2, 0, none⟩ (.int .i64 n)).cell? ⟨b3, 0, none⟩ = some (.int .i64 h) := by simp [go_sem, e_14, a8]
          have e_16 : b3 ≠ b2 := by omega
          have n_17 : (w8.setCell ⟨b2, 0, none⟩ (.int .i64 n)).cell? ⟨b3, 1, none⟩ = some (.slice p xs.length cp) := by simp [go_sem, e_16, a9]
          have n_18 : (w8.setCell ⟨b2, 0, none⟩ (.int .i64 n)).frozen? ⟨b3, 0, none⟩ = false := by simp [go_sem, a10]
          have l_19 : b3 < (w8.setCell ⟨b2, 0, none⟩ (.int .i64 n)).heap.size := by have := lt_of_cell (w := w8) (p := ⟨b3, 0, none⟩) (by assumption); simpa using this
          have n_20 : (w8.setCell ⟨b2, 0, none⟩ (.int .i64 n)).frozen? ⟨b3, 1, none⟩ = false := by simp [go_sem, a11]
          have l_21 : b3 < (w8.setCell ⟨b2, 0, none⟩ (.int .i64 n)).heap.size := by have := lt_of_cell (w := w8) (p := ⟨b3, 0, none⟩) (by assumption); simpa using this
          have e_22 : bb ≠ b2 := by omega
          have n_23 : (w8.setCell ⟨b2, 0, none⟩ (.int .i64 n)).cell? ⟨bb, 0, none⟩ = some (.int .i64 h) := by simp [go_sem, e_22, a12]
          have e_24 : bb ≠ b2 := by omega
          have n_25 : (w8.setCell ⟨b2, 0, none⟩ (.int .i64 n)).cell? ⟨bb, 1, none⟩ = some (.slice p xs.length cp) := by simp [go_sem, e_24, a13]
          have n_26 : bb + 1 ≤ (w8.setCell ⟨b2, 0, none⟩ (.int .i64 n)).heap.size := by simpa using a16
          have n_27 : bb ≤ (w8.setCell ⟨b2, 0, none⟩ (.int .i64 n)).heap.size := by simpa using a17
          have hz_w14 : bb ≤ (w8.setCell ⟨b2, 0, none⟩ (.int .i64 n)).heap.size := by simpa using hz_w8
          generalize (w8.setCell ⟨b2, 0, none⟩ (.int .i64 n)) = w14 at *
          have FN := fun (W : World) (hW : Free.Bel w14 W) => And.intro (keepsB hW n_1) (And.intro (keepsB hW n_3) (And.intro ((hW.frozen (p := ⟨b1, 0, none⟩) l_5).trans n_4) (And.intro ((hW.frozen (p := ⟨b1, 1, none⟩) l_7).trans n_6) (And.intro (keepsB hW n_8) (And.intro (keepsB hW n_9) (And.intro ((hW.frozen (p := ⟨b2, 0, none⟩) l_11).trans n_10) (And.intro ((hW.frozen (p := ⟨b2, 1, none⟩) l_13).trans n_12) (And.intro (keepsB hW n_15) (And.intro (keepsB hW n_17) (And.intro ((hW.frozen (p := ⟨b3, 0, none⟩) l_19).trans n_18) (And.intro ((hW.frozen (p := ⟨b3, 1, none⟩) l_21).trans n_20) (And.intro (keepsB hW n_23) (And.intro (keepsB hW n_25) (And.intro (Lib.hid (HTX.out W (HB_w14.out.trans (hW.mono hz_w14)))) (And.intro (Lib.hid (HUX.out W (HB_w14.out.trans (hW.mono hz_w14)))) (And.intro (Nat.le_trans n_26 hW.size) (Nat.le_trans n_27 hW.size)))))))))))))))))
          clear FA KR HB_w8 hz_w8 hGB a0 a1 a2 a3 a4 a5 a6 a7 a8 a9 a10 a11 a12 a13 a14 a15 a16 a17 e_0 n_1 e_2 n_3 n_4 l_5 n_6 l_7 n_8 n_9 n_10 l_11 n_12 l_13 e_14 n_15 e_16 n_17 n_18 l_19 n_20 l_21 e_22 n_23 e_24 n_25 n_26 n_27
          have FA := FN
          clear FN
          have KR : Free.Bel w14 w14 := Free.Bel.refl _
          have hGB : bb ≤ b3 := by omega
          have HB_w15 := Lib.hid (show Below bb w (w14.setCell ⟨b3, 0, none⟩ (.int .i64 mm)) from (HB_w14.out).setCell (p := ⟨b3, 0, none⟩) hGB _)
          obtain ⟨a0, a1, a2, a3, a4, a5, a6, a7, a8, a9, a10, a11, a12, a13, a14, a15, a16, a17⟩ := FA w14 (Free.Bel.refl _)
          have e_0 : b1 ≠ b3 := by omega
          have n_1 : (w14.setCell ⟨b3, 0, none⟩ (.int .i64 mm)).cell? ⟨b1, 0, none⟩ = some (.int .i64 3) := by simp [go_sem, e_0, a0]
          have e_2 : b1 ≠ b3 := by omega
          have n_3 : (w14.setCell ⟨b3, 0, none⟩ (.int .i64 mm)).cell? ⟨b1, 1, none⟩ = some (.slice p xs.length cp) := by simp [go_sem, e_2, a1]
          have n_4 : (w14.setCell ⟨b3, 0, none⟩ (.int .i64 mm)).frozen? ⟨b1, 0, none⟩ = false := by simp [go_sem, a2]
          have l_5 : b1 < (w14.setCell ⟨b3, 0, none⟩ (.int .i64 mm)).heap.size := by have := lt_of_cell (w := w14) (p := ⟨b1, 0, none⟩) (by assumption); simpa using this
          have n_6 : (w14.setCell ⟨b3, 0, none⟩ (.int .i64 mm)).frozen? ⟨b1, 1, none⟩ = false := by simp [go_sem, a3]
          have l_7 : b1 < (w14.setCell ⟨b3, 0, none⟩ (.int .i64 mm)).heap.size := by have := lt_of_cell (w := w14) (p := ⟨b1, 0, none⟩) (by assumption); simpa using this
          have e_8 : b2 ≠ b3 := by omega
          have n_9 : (w14.setCell ⟨b3, 0, none⟩ (.int .i64 mm)).cell? ⟨b2, 0, none⟩ = some (.int .i64 n) := by simp [go_sem, e_8, a4]
          have e_10 : b2 ≠ b3 := by omega
          have n_11 : (w14.setCell ⟨b3, 0, none⟩ (.int .i64 mm)).cell? ⟨b2, 1, none⟩ = some (.slice p xs.length cp) := by simp [go_sem, e_10, a5]
          have n_12 : (w14.setCell ⟨b3, 0, none⟩ (.int .i64 mm)).frozen? ⟨b2, 0, none⟩ = false := by simp [go_sem, a6]
          have l_13 : b2 < (w14.setCell ⟨b3, 0, none⟩ (.int .i64 mm)).heap.size := by have := lt_of_cell (w := w14) (p := ⟨b2, 0, none⟩) (by assumption); simpa using this
          have n_14 : (w14.setCell ⟨b3, 0, none⟩ (.int .i64 mm)).frozen? ⟨b2, 1, none⟩ = false := by simp [go_sem, a7]
          have l_15 : b2 < (w14.setCell ⟨b3, 0, none⟩ (.int .i64 mm)).heap.size := by have := lt_of_cell (w := w14) (p := ⟨b2, 0, none⟩) (by assumption); simpa using this
          have n_16 : (w14.setCell ⟨b3, 0, none⟩ (.int .i64 mm)).cell? ⟨b3, 0, none⟩ = some (.int .i64 mm) := by simp [go_sem, a8]
          have n_17 : (w14.setCell ⟨b3, 0, none⟩ (.int .i64 mm)).cell? ⟨b3, 1, none⟩ = some (.slice p xs.length cp) := by simp [go_sem, a9]
          have n_18 : (w14.setCell ⟨b3, 0, none⟩ (.int .i64 mm)).frozen? ⟨b3, 0, none⟩ = false := by simp [go_sem, a10]
          have l_19 : b3 < (w14.setCell ⟨b3, 0, none⟩ (.int .i64 mm)).heap.size := by have := lt_of_cell (w := w14) (p := ⟨b3, 0, none⟩) (by assumption); simpa using this
          have n_20 : (w14.setCell ⟨b3, 0, none⟩ (.int .i64 mm)).frozen? ⟨b3, 1, none⟩ = false := by simp [go_sem, a11]
          have l_21 : b3 < (w14.setCell ⟨b3, 0, none⟩ (.int .i64 mm)).heap.size := by have := lt_of_cell (w := w14) (p := ⟨b3, 0, none⟩) (by assumption); simpa using this
          have e_22 : bb ≠ b3 := by omega
          have n_23 : (w14.setCell ⟨b3, 0, none⟩ (.int .i64 mm)).cell? ⟨bb, 0, none⟩ = some (.int .i64 h) := by simp [go_sem, e_22, a12]
          have e_24 : bb ≠ b3 := by omega
          have n_25 : (w14.setCell ⟨b3, 0, none⟩ (.int .i64 mm)).cell? ⟨bb, 1, none⟩ = some (.slice p xs.length cp) := by simp [go_sem, e_24, a13]
          have n_26 : bb + 1 ≤ (w14.setCell ⟨b3, 0, none⟩ (.int .i64 mm)).heap.size := by simpa using a16
          have n_27 : bb ≤ (w14.setCell ⟨b3, 0, none⟩ (.int .i64 mm)).heap.size := by simpa using a17
          have hz_w15 : bb ≤ (w14.setCell ⟨b3, 0, none⟩ (.int .i64 mm)).heap.size := by simpa using hz_w14
          generalize (w14.setCell ⟨b3, 0, none⟩ (.int .i64 mm)) = w15 at *
          have FN := fun (W : World) (hW : Free.Bel w15 W) => And.intro (keepsB hW n_1) (And.intro (keepsB hW n_3) (And.intro ((hW.frozen (p := ⟨b1, 0, none⟩) l_5).trans n_4) (And.intro ((hW.frozen (p := ⟨b1, 1, none⟩) l_7).trans n_6) (And.intro (keepsB hW n_9) (And.intro (keepsB hW n_11) (And.intro ((hW.frozen (p := ⟨b2, 0, none⟩) l_13).trans n_12) (And.intro ((hW.frozen (p := ⟨b2, 1, none⟩) l_15).trans n_14) (And.intro (keepsB hW n_16) (And.intro (keepsB hW n_17) (And.intro ((hW.frozen (p := ⟨b3, 0, none⟩) l_19).trans n_18) (And.intro ((hW.frozen (p := ⟨b3, 1, none⟩) l_21).trans n_20) (And.intro (keepsB hW n_23) (And.intro (keepsB hW n_25) (And.intro (Lib.hid (HTX.out W (HB_w15.out.trans (hW.mono hz_w15)))) (And.intro (Lib.hid (HUX.out W (HB_w15.out.trans (hW.mono hz_w15)))) (And.intro (Nat.le_trans n_26 hW.size) (Nat.le_trans n_27 hW.size)))))))))))))))))
          clear FA KR HB_w14 hz_w14 hGB a0 a1 a2 a3 a4 a5 a6 a7 a8 a9 a10 a11 a12 a13 a14 a15 a16 a17 e_0 n_1 e_2 n_3 n_4 l_5 n_6 l_7 e_8 n_9 e_10 n_11 n_12 l_13 n_14 l_15 n_16 n_17 n_18 l_19 n_20 l_21 e_22 n_23 e_24 n_25 n_26 n_27
          have FA := FN
          clear FN
          have KR : Free.Bel w15 w15 := Free.Bel.refl _
          clear hmm
          go_wp2_with fail
          obtain ⟨r4, hr4⟩ : ∃ r, everB mm xs = r := ⟨_, rfl⟩
          have HR4 := Lib.hid hr4
          clear hr4
          refine (can_at (n) xs _ w15 (FA w15 (Free.Bel.refl _)).2.2.2.2.2.2.2.2.2.2.2.2.2.2.1.out (FA w15 (Free.Bel.refl _)).2.2.2.2.2.2.2.2.2.2.2.2.2.2.2.1.out (watch_hands HW.out (by omega) (by omega)) true (Lib.hid hHb.out.2.2.1)).mono ?_
          rintro e w16 ⟨rfl, hB⟩
          have HB_w16 := Lib.hid (HB_w15.out.trans ((hB).mono hz_w15))
          have hz_w16 : bb ≤ w16.heap.size := Nat.le_trans hz_w15 (hB).size
          have FN := fun (W : World) (hW : Free.Bel w16 W) => FA W (bt (hB) hW)
          clear FA HB_w15 hz_w15 KR
          have FA := FN
          clear FN
          have KR := Free.Bel.refl w16
          clear hB
          go_wp2_with fail
          refine (can_at (mm) xs _ w16 (FA w16 (Free.Bel.refl _)).2.2.2.2.2.2.2.2.2.2.2.2.2.2.1.out (FA w16 (Free.Bel.refl _)).2.2.2.2.2.2.2.2.2.2.2.2.2.2.2.1.out (watch_hands HW.out (by have := HMM.out; omega) (by have := HMM.out; omega)) r4 HR4).mono ?_
          rintro e w17 ⟨rfl, hB⟩
          have HB_w17 := Lib.hid (HB_w16.out.trans ((hB).mono hz_w16))
          have hz_w17 : bb ≤ w17.heap.size := Nat.le_trans hz_w16 (hB).size
          have FN := fun (W : World) (hW : Free.Bel w17 W) => FA W (bt (hB) hW)
          clear FA HB_w16 hz_w16 KR
          have FA := FN
          clear FN
          have KR := Free.Bel.refl w17
          clear hB
          go_wp2_with fail
          refine (can_at (h) xs _ w17 (FA w17 (Free.Bel.refl _)).2.2.2.2.2.2.2.2.2.2.2.2.2.2.1.out (FA w17 (Free.Bel.refl _)).2.2.2.2.2.2.2.2.2.2.2.2.2.2.2.1.out HW.out (decide (n ≤ h)) (Lib.hid hHb.out.2.2.2.2)).mono ?_
          rintro e w18 ⟨rfl, hB⟩
          have HB_w18 := Lib.hid (HB_w17.out.trans ((hB).mono hz_w17))
          have hz_w18 : bb ≤ w18.heap.size := Nat.le_trans hz_w17 (hB).size
          have FN := fun (W : World) (hW : Free.Bel w18 W) => FA W (bt (hB) hW)
          clear FA HB_w17 hz_w17 KR
          have FA := FN
          clear FN
          have KR := Free.Bel.refl w18
          clear hB
          go_wp2_with fail
          go_meet
          exact ⟨HB_w18.out, (FA w18 (Free.Bel.refl _)).2.2.2.2.2.2.2.2.2.2.2.2.1, (FA w18 (Free.Bel.refl _)).2.2.2.2.2.2.2.2.2.2.2.2.2.1, (FA w18 (Free.Bel.refl _)).2.2.2.2.2.2.2.2.2.2.2.2.2.2.2.2.1, (FA w18 (Free.Bel.refl _)).2.2.2.2.2.2.2.2.2.2.2.2.2.2.2.2.2⟩
    obtain ⟨hBc, c0, c1, c2, c3⟩ := hcut
    obtain ⟨w19, hwc⟩ : ∃ x, x = wc := ⟨_, rfl⟩
    subst hwc
    clear FA KR HB_w8 hz_w8
    have HB_w19 := Lib.hid hBc
    have hz_w19 : bb ≤ w19.heap.size := by have := c2; omega
    have FA : ∀ W, Free.Bel w19 W → W.cell? ⟨bb, 0, none⟩ = some (.int .i64 h) ∧ W.cell? ⟨bb, 1, none⟩ = some (.slice p xs.length cp) ∧ bb + 1 ≤ W.heap.size ∧ bb ≤ W.heap.size ∧ Hid (TabR W) ∧ Hid (RL xs (.slice p xs.length cp) W) := fun W hW => ⟨keepsB hW c0, keepsB hW c1, Nat.le_trans c2 hW.size, Nat.le_trans c3 hW.size, Lib.hid (HTX.out W (HB_w19.out.trans (hW.mono hz_w19))), Lib.hid (HUX.out W (HB_w19.out.trans (hW.mono hz_w19)))⟩
    have KR : Free.Bel w19 w19 := Free.Bel.refl _
    clear hBc c0 c1 c2 c3
    by_cases hx : xs = []
    · have hn9 : n = 0 := (few_none (hx ▸ HFI.out)).1
      have hl9 : ((xs.length : Int) == 0) = true := by rw [hx]; rfl
      have hn8 : (n == 0) = true := by rw [hn9]; rfl
      clear hx hn9
      go_wp2_with fail
      go_ret
      have hbb := HBB.out
      subst hbb
      exact ⟨rfl, HB_w19.out⟩
    have hl9 : ((xs.length : Int) == 0) = false := by cases xs with | nil => exact absurd rfl hx | cons _ _ => simp; omega
    obtain ⟨b9, off, rfl, hcp⟩ := HP.out hx
    have HCP := Lib.hid hcp
    clear hcp
    have hl0 : 0 < (xs.length : Int) := by cases xs with | nil => exact absurd rfl hx | cons _ _ => simp only [List.length_cons]; omega
    have hm0 := Int.emod_nonneg q (show (xs.length : Int) ≠ 0 by omega)
    have hm1 := Int.emod_lt_of_pos q hl0
    obtain ⟨k, hk9⟩ : ∃ k : Nat, q % (xs.length : Int) = k := ⟨_, (Int.toNat_of_nonneg hm0).symm⟩
    rw [hk9] at hm1
    have hkl : k < xs.length := by omega
    have HKL := Lib.hid hkl
    have cq : IntKind.i64.wrap q = q := IntWalk.i64_in _ (by omega)
    have dk : q.tmod xs.length = k := by rw [Int.tmod_eq_emod_of_nonneg (by omega), hk9]
    have hl4 : xs.length ≤ 4 := (watchB_iff.1 HW.out).2.1
    have ek : IntKind.i64.wrap (k : Int) = k := IntWalk.i64_in _ (by omega)
    have hln : ¬ ((xs.length : Int) = 0) := by omega
    have hkn : ¬ ((k : Int) < 0) := by omega
    have hki : (k : Int) < xs.length := by omega
    clear hm0 hm1 hk9 hl0
    clear hx
    go_wp2_with fail
    obtain ⟨x1, x2, x3, hx9, d0, d1, d2⟩ : ∃ y1 y2 y3, xs[k]'(HKL.out) = (y1, y2, y3) ∧ w.cell? ⟨b9, off + k * 3, none⟩ = some (.int .i64 y1) ∧ w.cell? ⟨b9, off + k * 3 + 1, none⟩ = some (.int .i64 y2) ∧ w.cell? ⟨b9, off + k * 3 + 2, none⟩ = some (.int .i64 y3) := ⟨_, _, _, rfl, HCP.out k HKL.out⟩
    have hb9 : b9 < bb := by have h9 := lt_of_cell d0; have h8 := HBB.out; simp only at h9; omega
    have HX9 := Lib.hid hx9
    clear hx9
    have FN : ∀ W, Free.Bel w19 W → W.cell? ⟨bb, 0, none⟩ = some (.int .i64 h) ∧ W.cell? ⟨bb, 1, none⟩ = some (.slice (some ⟨b9, off, none⟩) xs.length cp) ∧ bb + 1 ≤ W.heap.size ∧ bb ≤ W.heap.size ∧ Hid (TabR W) ∧ Hid (RL xs (.slice (some ⟨b9, off, none⟩) xs.length cp) W) ∧ W.cell? ⟨b9, off + k * 3, none⟩ = some (.int .i64 x1) ∧ W.cell? ⟨b9, off + k * 3 + 1, none⟩ = some (.int .i64 x2) ∧ W.cell? ⟨b9, off + k * 3 + 2, none⟩ = some (.int .i64 x3) := fun W hW => by
      obtain ⟨a0, a1, a2, a3, a4, a5⟩ := FA W hW
      exact ⟨a0, a1, a2, a3, a4, a5, HKX.out W (HB_w19.out.trans (hW.mono hz_w19)) _ _ d0, HKX.out W (HB_w19.out.trans (hW.mono hz_w19)) _ _ d1, HKX.out W (HB_w19.out.trans (hW.mono hz_w19)) _ _ d2⟩
    clear FA
    have FA := FN
    clear FN
    clear d0 d1 d2
    obtain ⟨m, cm, hMI⟩ := moist_ex h HW.out HKL.out
    have HMI := Lib.hid hMI
    have HMF := Lib.hid (moist_facts HW.out HKL.out hMI)
    clear hMI
    have HMO := Lib.hid (fun (W : World) (hS : Free.Bel w19 W) => moist_at h xs _ W (FA W hS).2.2.2.2.1.out (FA W hS).2.2.2.2.2.1.out HNZ.out HW.out k HKL.out x1 (by rw [HX9.out]) m cm HMI)
    have hF : ∀ W, Free.Bel w19.drew W → Free.Bel w19 W := fun W hW => bt (Bel.drewT (Free.Bel.refl _)) hW
    refine Free.wp_free (R := Free.Bel) (by kernel_rfl) (by kernel_rfl) Free.Bel.refl Free.Bel.trans ?_
    refine Free.Chain.ex ?_ [] [2] (by kernel_rfl) (by kernel_rfl) rfl Free.Bel.refl ?_ ?_
    rotate_left 2
    simp only [an1, an2]
    refine Free.Chain.ex ?_ [] [2] (by kernel_rfl) (by kernel_rfl) rfl Free.Bel.refl ?_ ?_
    rotate_left 2
    simp only [an1, an2]
    refine Free.Chain.ex ?_ [(1, 145)] [] (by kernel_rfl) (by kernel_rfl) rfl Free.Bel.refl ?_ ?_
    rotate_left 2
    simp only [an1, an2]
    refine Free.Chain.ex ?_ [] [19] (by kernel_rfl) (by kernel_rfl) rfl Free.Bel.refl ?_ ?_
    rotate_left 2
    simp only [an1, an2]
    refine Free.Chain.ex ?_ [(2, 146), (3, 147)] [] (by kernel_rfl) (by kernel_rfl) rfl Free.Bel.refl ?_ ?_
    rotate_left 2
    simp only [an1, an2]
    refine Free.Chain.ex ?_ [(4, 148)] [] (by kernel_rfl) (by kernel_rfl) rfl Free.Bel.refl ?_ ?_
    rotate_left 2
    simp only [an1, an2]
    refine Free.Chain.ex ?_ [(5, 149)] [] (by kernel_rfl) (by kernel_rfl) rfl Free.Bel.refl ?_ ?_
    rotate_left 2
    simp only [an1, an2]
    rotate_left
    iterate 7 (rotate_left; intro ev W hb hR hO hD; have hS := hF W hR; obtain ⟨hb1, hb2, hb3⟩ := hb; simp only [Free.AllDeps, Free.AllOuts, Free.At, al1, al2, al3, al4, al5, and_true] at hO hD; go_simp; rfl)
    refine Free.Chain.pr (fun v _ => v = .tuple #[.int .i64 m, .int .i64 cm]) [(0, 144), (6, 150)] [] (by kernel_rfl) (by kernel_rfl) rfl (fun _ _ _ _ h => h) ?_ ?_
    · (intro ev W hb hR hO hD; have hS := hF W hR; obtain ⟨hb1, hb2, hb3⟩ := hb; simp only [Free.AllDeps, Free.AllOuts, Free.At, al1, al2, al3, al4, al5, and_true] at hO hD; go_simp; refine yields_enter ?_; (with_reducible refine (HMO.out W hS).mono ?_); rintro e W2 ⟨rfl, hB2⟩; exact ⟨_, rfl, hB2, rfl⟩)
    simp only [an1, an2]
    refine Free.Chain.ex ?_ [(7, 151)] [] (by kernel_rfl) (by kernel_rfl) rfl Free.Bel.refl ?_ ?_
    rotate_left 2
    simp only [an1, an2]
    refine Free.Chain.ex ?_ [(8, 143)] [] (by kernel_rfl) (by kernel_rfl) rfl Free.Bel.refl ?_ ?_
    rotate_left 2
    simp only [an1, an2]
    refine Free.Chain.ex ?_ [(8, 143)] [] (by kernel_rfl) (by kernel_rfl) rfl Free.Bel.refl ?_ ?_
    rotate_left 2
    simp only [an1, an2]
    refine Free.Chain.ex ?_ [(9, 152), (7, 151), (0, 144), (1, 145), (2, 146), (3, 147), (4, 148), (5, 149), (6, 150), (7, 151), (8, 143), (9, 152)] [] (by kernel_rfl) (by kernel_rfl) rfl Free.Bel.refl ?_ ?_
    rotate_left 2
    simp only [an1, an2]
    refine Free.Chain.ex ?_ [(10, 153), (11, 20), (0, 144), (1, 145), (2, 146), (3, 147), (4, 148), (5, 149), (6, 150), (7, 151), (8, 143), (9, 152), (10, 153), (11, 20)] [] (by kernel_rfl) (by kernel_rfl) rfl Free.Bel.refl ?_ ?_
    rotate_left 2
    simp only [an1, an2]
    rotate_left
    iterate 5 (rotate_left; intro ev W hb hR hO hD; have hS := hF W hR; obtain ⟨hb1, hb2, hb3⟩ := hb; simp only [Free.AllDeps, Free.AllOuts, Free.At, al1, al2, al3, al4, al5, and_true] at hO hD; go_simp; rfl)
    intro ys w20 hR hV
    simp only [Free.AllV, Free.At, List.length_cons, List.length_nil, Nat.reduceAdd, List.getElem?_cons_succ, List.getElem?_cons_zero, true_and, and_true] at hV
    simp only [Free.putsFrom, Act.put, Nat.zero_add, Nat.reduceAdd, hV, List.setIfInBounds_toArray, List.set_cons_succ, List.set_cons_zero]
    have hN := hF w20 hR
    clear hR hF
    have HB_w20 := Lib.hid (HB_w19.out.trans ((hN).mono hz_w19))
    have hz_w20 : bb ≤ w20.heap.size := Nat.le_trans hz_w19 (hN).size
    have FN := fun (W : World) (hW : Free.Bel w20 W) => FA W (bt (hN) hW)
    clear FA HB_w19 hz_w19 KR
    have FA := FN
    clear FN
    have KR := Free.Bel.refl w20
    clear hN hV
    go_wp2_with fail
    clear HMO
    refine (twin_any h xs _ w20 (FA w20 (Free.Bel.refl _)).2.2.2.2.2.1.out HNZ.out (by omega)).mono ?_
    rintro e w21 ⟨v1, rfl, hr1, hB⟩
    obtain ⟨g1, c1, rfl, hg1, hgs⟩ : ∃ g c, v1 = .slice (some ⟨g, 0, none⟩) xs.length c ∧ w20.heap.size ≤ g ∧ g < w21.heap.size := by
      rcases hr1.2 with ⟨_, h9⟩ | ⟨g, cap, cur, h9, h8, h7, _⟩
      · omega
      · exact ⟨g, cap, h9, h8, lt_of_heap h7⟩
    have hr2 := row_mono hr1 (base' := bb) hz_w20
    have hr3 : w21.ownsRow bb 47 3 (.slice (some ⟨g1, 0, none⟩) xs.length c1) xs.length (cellsR (moistR xs k x2)) := by
      have h9 := moistR_self xs k HKL.out
      rw [HX9.out] at h9
      rw [h9]
      exact hr2
    have hgb : bb + 1 ≤ g1 := Nat.le_trans (FA w20 (Free.Bel.refl _)).2.2.1 hg1
    have HB_w21 := Lib.hid (HB_w20.out.trans ((hB).mono hz_w20))
    have hz_w21 : bb ≤ w21.heap.size := Nat.le_trans hz_w20 (hB).size
    have FN := fun (W : World) (hW : Free.Bel w21 W) => And.intro (Lib.hid (bel_row hr3 hW)) (FA W (bt (hB) hW))
    clear FA HB_w20 hz_w20 KR
    have FA := FN
    clear FN
    have KR := Free.Bel.refl w21
    clear hB hr1 hr2 hr3 hg1
    have KA0 : Free.Bel w21 (w21.alloc (.cells #[.int .i64 h, .slice (some ⟨g1, 0, none⟩) xs.length c1] 24)) := Bel.allocT (Free.Bel.refl _) _
    go_upto_region 22 with fail
    clear KA0
    have hN : Free.Bel w21 (w21.alloc (.cells #[.int .i64 h, .slice (some ⟨g1, 0, none⟩) xs.length c1] 24)) := (Bel.allocT (Free.Bel.refl w21) _)
    have n_g210_0 : (w21.alloc (.cells #[.int .i64 h, .slice (some ⟨g1, 0, none⟩) xs.length c1] 24)).cell? ⟨w21.heap.size, 0, none⟩ = some (.int .i64 h) := by simp [go_sem]
    have n_g210_1 : (w21.alloc (.cells #[.int .i64 h, .slice (some ⟨g1, 0, none⟩) xs.length c1] 24)).cell? ⟨w21.heap.size, 1, none⟩ = some (.slice (some ⟨g1, 0, none⟩) xs.length c1) := by simp [go_sem]
    generalize (w21.alloc (.cells #[.int .i64 h, .slice (some ⟨g1, 0, none⟩) xs.length c1] 24)) = w22 at *
    obtain ⟨g210, hgz⟩ : ∃ x, x = w21.heap.size := ⟨_, rfl⟩
    rw [← hgz] at n_g210_0 n_g210_1 ⊢
    have hgx : g1 ≠ g210 := by omega
    clear hgs
    clear hgz
    have HB_w22 := Lib.hid (HB_w21.out.trans ((hN).mono hz_w21))
    have hz_w22 : bb ≤ w22.heap.size := Nat.le_trans hz_w21 (hN).size
    have FN := fun (W : World) (hW : Free.Bel w22 W) => And.intro (keepsB hW n_g210_0) (And.intro (keepsB hW n_g210_1) (FA W (bt (hN) hW)))
    clear FA HB_w21 hz_w21 KR
    have FA := FN
    clear FN
    have KR := Free.Bel.refl w22
    clear hN n_g210_0 n_g210_1
    have hrw := ((FA w22 (Free.Bel.refl _)).2.2.1).out
    have hlm : k < (moistR xs k (x2)).length := by rw [moistR_length]; exact HKL.out
    have hz9 : w22.cell? ⟨g1, k * 3 + 1, none⟩ = some (.int .i64 (x2)) := by have h9 := (rick_row hrw (moistR_length _ _ _) k hlm).2.1; rw [moistR_get xs k HKL.out] at h9; exact h9
    have hz8 : w22.frozen? ⟨g1, k * 3 + 1, none⟩ = false := hrw.frozenAt _
    clear hrw hlm
    go_wp2_with fail
    clear hz9 hz8
    have hGB : bb ≤ g1 := by omega
    have HB_w23 := Lib.hid (show Below bb w (w22.setCell ⟨g1, k * 3 + 1, none⟩ (.int .i64 (6))) from (HB_w22.out).setCell (p := ⟨g1, k * 3 + 1, none⟩) hGB _)
    obtain ⟨a0, a1, a2, a3, a4, a5, a6, a7, a8, a9, a10, a11⟩ := FA w22 (Free.Bel.refl _)
    have e_0 : g210 ≠ g1 := by exact Ne.symm hgx
    have n_1 : (w22.setCell ⟨g1, k * 3 + 1, none⟩ (.int .i64 (6))).cell? ⟨g210, 0, none⟩ = some (.int .i64 h) := by simp [go_sem, e_0, a0]
    have e_2 : g210 ≠ g1 := by exact Ne.symm hgx
    have n_3 : (w22.setCell ⟨g1, k * 3 + 1, none⟩ (.int .i64 (6))).cell? ⟨g210, 1, none⟩ = some (.slice (some ⟨g1, 0, none⟩) xs.length c1) := by simp [go_sem, e_2, a1]
    have r_4 : Hid ((w22.setCell ⟨g1, k * 3 + 1, none⟩ (.int .i64 (6))).ownsRow bb 47 3 (.slice (some ⟨g1, 0, none⟩) xs.length c1) xs.length (cellsR (moistR xs k (6)))) := Lib.hid (row_moist a2.out HKL.out _)
    have e_5 : bb ≠ g1 := by omega
    have n_6 : (w22.setCell ⟨g1, k * 3 + 1, none⟩ (.int .i64 (6))).cell? ⟨bb, 0, none⟩ = some (.int .i64 h) := by simp [go_sem, e_5, a3]
    have e_7 : bb ≠ g1 := by omega
    have n_8 : (w22.setCell ⟨g1, k * 3 + 1, none⟩ (.int .i64 (6))).cell? ⟨bb, 1, none⟩ = some (.slice (some ⟨b9, off, none⟩) xs.length cp) := by simp [go_sem, e_7, a4]
    have n_9 : bb + 1 ≤ (w22.setCell ⟨g1, k * 3 + 1, none⟩ (.int .i64 (6))).heap.size := by simpa using a5
    have n_10 : bb ≤ (w22.setCell ⟨g1, k * 3 + 1, none⟩ (.int .i64 (6))).heap.size := by simpa using a6
    have e_11 : b9 ≠ g1 := by omega
    have n_12 : (w22.setCell ⟨g1, k * 3 + 1, none⟩ (.int .i64 (6))).cell? ⟨b9, off + k * 3, none⟩ = some (.int .i64 x1) := by simp [go_sem, e_11, a9]
    have e_13 : b9 ≠ g1 := by omega
    have n_14 : (w22.setCell ⟨g1, k * 3 + 1, none⟩ (.int .i64 (6))).cell? ⟨b9, off + k * 3 + 1, none⟩ = some (.int .i64 x2) := by simp [go_sem, e_13, a10]
    have e_15 : b9 ≠ g1 := by omega
    have n_16 : (w22.setCell ⟨g1, k * 3 + 1, none⟩ (.int .i64 (6))).cell? ⟨b9, off + k * 3 + 2, none⟩ = some (.int .i64 x3) := by simp [go_sem, e_15, a11]
    have hz_w23 : bb ≤ (w22.setCell ⟨g1, k * 3 + 1, none⟩ (.int .i64 (6))).heap.size := by simpa using hz_w22
    generalize (w22.setCell ⟨g1, k * 3 + 1, none⟩ (.int .i64 (6))) = w23 at *
    have FN := fun (W : World) (hW : Free.Bel w23 W) => And.intro (keepsB hW n_1) (And.intro (keepsB hW n_3) (And.intro (Lib.hid (bel_row r_4.out hW)) (And.intro (keepsB hW n_6) (And.intro (keepsB hW n_8) (And.intro (Nat.le_trans n_9 hW.size) (And.intro (Nat.le_trans n_10 hW.size) (And.intro (Lib.hid (HTX.out W (HB_w23.out.trans (hW.mono hz_w23)))) (And.intro (Lib.hid (HUX.out W (HB_w23.out.trans (hW.mono hz_w23)))) (And.intro (keepsB hW n_12) (And.intro (keepsB hW n_14) (keepsB hW n_16)))))))))))
    clear FA KR HB_w22 hz_w22 hGB a0 a1 a2 a3 a4 a5 a6 a7 a8 a9 a10 a11 e_0 n_1 e_2 n_3 r_4 e_5 n_6 e_7 n_8 n_9 n_10 e_11 n_12 e_13 n_14 e_15 n_16
    have FA := FN
    clear FN
    have KR : Free.Bel w23 w23 := Free.Bel.refl _
    go_wp2_with fail
    obtain ⟨b6, hb6⟩ : ∃ r, everB h (moistR xs k 6) = r := ⟨_, rfl⟩
    have HB6 := Lib.hid hb6
    clear hb6
    have hok : okR (x1, x2, x3) := (congrArg okR HX9.out).mp (watchB_ok HW.out _ (List.getElem_mem HKL.out))
    have HOK := Lib.hid hok
    clear hok
    have HWM := Lib.hid (fun (n : Int) (h1 : x3 + 1 ≤ n) (h6 : n ≤ 6) => watch_moist HW.out k HKL.out (n := n) (by rw [HX9.out]; exact h1) h6)
    refine (can_at (h) (moistR xs k (6)) _ w23 (FA w23 (Free.Bel.refl _)).2.2.2.2.2.2.2.1.out (RL.of_row (moistR_length _ _ _) (by unfold maxLen; omega) ((FA w23 (Free.Bel.refl _)).2.2.1).out) (HWM.out 6 (by have := HOK.out; unfold okR at this; simp only at this; omega) (by decide)) b6 HB6).mono ?_
    rintro e w24 ⟨rfl, hB⟩
    have HB_w24 := Lib.hid (HB_w23.out.trans ((hB).mono hz_w23))
    have hz_w24 : bb ≤ w24.heap.size := Nat.le_trans hz_w23 (hB).size
    have FN := fun (W : World) (hW : Free.Bel w24 W) => FA W (bt (hB) hW)
    clear FA HB_w23 hz_w23 KR
    have FA := FN
    clear FN
    have KR := Free.Bel.refl w24
    clear hB
    rcases HMF.out with ⟨h1, h2, h3⟩ | ⟨h1, h2, h3, h4, h5⟩
    · obtain rfl : cm = 8 := h1
      obtain rfl : m = 0 := h2
      obtain rfl : b6 = false := HB6.out.symm.trans h3
      clear h3
      go_wp2_with fail
      go_ret
      have hbb := HBB.out
      subst hbb
      exact ⟨rfl, HB_w24.out⟩
    · obtain rfl : cm = 0 := h1
      have hgx3 : (xs.getD k (0, 0, 0)).2.2 = x3 := by have := HX9.out; simp only [List.getD_eq_getElem?_getD, List.getElem?_eq_getElem HKL.out, Option.getD_some, this]
      rw [hgx3] at h2 h5
      clear hgx3
      obtain rfl : b6 = true := by have h9 := ever_dom (Int.le_refl h) (HWM.out m h2 h3) (HWM.out 6 (by omega) (by decide)) (dom_moist xs k h3) h4; rw [HB6.out] at h9; exact h9
      have hM2 := Lib.hid (And.intro h2 (And.intro h3 (And.intro h4 h5)))
      have hm1 : ¬ m ≤ x3 := by omega
      have hm6 : ¬ 6 < m := by omega
      have hm1b : decide (m ≤ x3) = false := decide_eq_false hm1
      have hm6b : decide (6 < m) = false := decide_eq_false hm6
      obtain ⟨m1, hm1e⟩ : ∃ y, m - 1 = y := ⟨_, rfl⟩
      have HM1E := Lib.hid hm1e
      have hmw : IntKind.i64.wrap (m - 1) = m1 := by rw [← hm1e]; exact IntWalk.i64_in _ (by have := HOK.out; unfold okR at this; simp only at this; omega)
      clear hm1e
      clear h2 h3 h4 h5
      have hrw := ((FA w24 (Free.Bel.refl _)).2.2.1).out
      have hlm : k < (moistR xs k (6)).length := by rw [moistR_length]; exact HKL.out
      have hz9 : w24.cell? ⟨g1, k * 3 + 1, none⟩ = some (.int .i64 (6)) := by have h9 := (rick_row hrw (moistR_length _ _ _) k hlm).2.1; rw [moistR_get xs k HKL.out] at h9; exact h9
      have hz8 : w24.frozen? ⟨g1, k * 3 + 1, none⟩ = false := hrw.frozenAt _
      clear hrw hlm
      go_wp2_with fail
      clear hz9 hz8
      have hGB : bb ≤ g1 := by omega
      have HB_w25 := Lib.hid (show Below bb w (w24.setCell ⟨g1, k * 3 + 1, none⟩ (.int .i64 (m))) from (HB_w24.out).setCell (p := ⟨g1, k * 3 + 1, none⟩) hGB _)
      obtain ⟨a0, a1, a2, a3, a4, a5, a6, a7, a8, a9, a10, a11⟩ := FA w24 (Free.Bel.refl _)
      have e_0 : g210 ≠ g1 := by exact Ne.symm hgx
      have n_1 : (w24.setCell ⟨g1, k * 3 + 1, none⟩ (.int .i64 (m))).cell? ⟨g210, 0, none⟩ = some (.int .i64 h) := by simp [go_sem, e_0, a0]
      have e_2 : g210 ≠ g1 := by exact Ne.symm hgx
      have n_3 : (w24.setCell ⟨g1, k * 3 + 1, none⟩ (.int .i64 (m))).cell? ⟨g210, 1, none⟩ = some (.slice (some ⟨g1, 0, none⟩) xs.length c1) := by simp [go_sem, e_2, a1]
      have r_4 : Hid ((w24.setCell ⟨g1, k * 3 + 1, none⟩ (.int .i64 (m))).ownsRow bb 47 3 (.slice (some ⟨g1, 0, none⟩) xs.length c1) xs.length (cellsR (moistR xs k (m)))) := Lib.hid (row_moist a2.out HKL.out _)
      have e_5 : bb ≠ g1 := by omega
      have n_6 : (w24.setCell ⟨g1, k * 3 + 1, none⟩ (.int .i64 (m))).cell? ⟨bb, 0, none⟩ = some (.int .i64 h) := by simp [go_sem, e_5, a3]
      have e_7 : bb ≠ g1 := by omega
      have n_8 : (w24.setCell ⟨g1, k * 3 + 1, none⟩ (.int .i64 (m))).cell? ⟨bb, 1, none⟩ = some (.slice (some ⟨b9, off, none⟩) xs.length cp) := by simp [go_sem, e_7, a4]
      have n_9 : bb + 1 ≤ (w24.setCell ⟨g1, k * 3 + 1, none⟩ (.int .i64 (m))).heap.size := by simpa using a5
      have n_10 : bb ≤ (w24.setCell ⟨g1, k * 3 + 1, none⟩ (.int .i64 (m))).heap.size := by simpa using a6
      have e_11 : b9 ≠ g1 := by omega
      have n_12 : (w24.setCell ⟨g1, k * 3 + 1, none⟩ (.int .i64 (m))).cell? ⟨b9, off + k * 3, none⟩ = some (.int .i64 x1) := by simp [go_sem, e_11, a9]
      have e_13 : b9 ≠ g1 := by omega
      have n_14 : (w24.setCell ⟨g1, k * 3 + 1, none⟩ (.int .i64 (m))).cell? ⟨b9, off + k * 3 + 1, none⟩ = some (.int .i64 x2) := by simp [go_sem, e_13, a10]
      have e_15 : b9 ≠ g1 := by omega
      have n_16 : (w24.setCell ⟨g1, k * 3 + 1, none⟩ (.int .i64 (m))).cell? ⟨b9, off + k * 3 + 2, none⟩ = some (.int .i64 x3) := by simp [go_sem, e_15, a11]
      have hz_w25 : bb ≤ (w24.setCell ⟨g1, k * 3 + 1, none⟩ (.int .i64 (m))).heap.size := by simpa using hz_w24
      generalize (w24.setCell ⟨g1, k * 3 + 1, none⟩ (.int .i64 (m))) = w25 at *
      have FN := fun (W : World) (hW : Free.Bel w25 W) => And.intro (keepsB hW n_1) (And.intro (keepsB hW n_3) (And.intro (Lib.hid (bel_row r_4.out hW)) (And.intro (keepsB hW n_6) (And.intro (keepsB hW n_8) (And.intro (Nat.le_trans n_9 hW.size) (And.intro (Nat.le_trans n_10 hW.size) (And.intro (Lib.hid (HTX.out W (HB_w25.out.trans (hW.mono hz_w25)))) (And.intro (Lib.hid (HUX.out W (HB_w25.out.trans (hW.mono hz_w25)))) (And.intro (keepsB hW n_12) (And.intro (keepsB hW n_14) (keepsB hW n_16)))))))))))
      clear FA KR HB_w24 hz_w24 hGB a0 a1 a2 a3 a4 a5 a6 a7 a8 a9 a10 a11 e_0 n_1 e_2 n_3 r_4 e_5 n_6 e_7 n_8 n_9 n_10 e_11 n_12 e_13 n_14 e_15 n_16
      have FA := FN
      clear FN
      have KR : Free.Bel w25 w25 := Free.Bel.refl _
      go_wp2_with fail
      refine (can_at (h) (moistR xs k (m)) _ w25 (FA w25 (Free.Bel.refl _)).2.2.2.2.2.2.2.1.out (RL.of_row (moistR_length _ _ _) (by unfold maxLen; omega) ((FA w25 (Free.Bel.refl _)).2.2.1).out) (HWM.out m hM2.out.1 hM2.out.2.1) true (Lib.hid hM2.out.2.2.1)).mono ?_
      rintro e w26 ⟨rfl, hB⟩
      have HB_w26 := Lib.hid (HB_w25.out.trans ((hB).mono hz_w25))
      have hz_w26 : bb ≤ w26.heap.size := Nat.le_trans hz_w25 (hB).size
      have FN := fun (W : World) (hW : Free.Bel w26 W) => FA W (bt (hB) hW)
      clear FA HB_w25 hz_w25 KR
      have FA := FN
      clear FN
      have KR := Free.Bel.refl w26
      clear hB
      by_cases hle : m1 ≤ x3
      · have hleb : decide (m1 ≤ x3) = true := decide_eq_true hle
        go_wp2_with fail
        go_ret
        have hbb := HBB.out
        subst hbb
        exact ⟨rfl, HB_w26.out⟩
      have hleb : decide (m1 ≤ x3) = false := decide_eq_false hle
      have hrw := ((FA w26 (Free.Bel.refl _)).2.2.1).out
      have hlm : k < (moistR xs k (m)).length := by rw [moistR_length]; exact HKL.out
      have hz9 : w26.cell? ⟨g1, k * 3 + 1, none⟩ = some (.int .i64 (m)) := by have h9 := (rick_row hrw (moistR_length _ _ _) k hlm).2.1; rw [moistR_get xs k HKL.out] at h9; exact h9
      have hz8 : w26.frozen? ⟨g1, k * 3 + 1, none⟩ = false := hrw.frozenAt _
      clear hrw hlm
      go_wp2_with fail
      clear hz9 hz8
      have hGB : bb ≤ g1 := by omega
      have HB_w27 := Lib.hid (show Below bb w (w26.setCell ⟨g1, k * 3 + 1, none⟩ (.int .i64 (m1))) from (HB_w26.out).setCell (p := ⟨g1, k * 3 + 1, none⟩) hGB _)
      obtain ⟨a0, a1, a2, a3, a4, a5, a6, a7, a8, a9, a10, a11⟩ := FA w26 (Free.Bel.refl _)
      have e_0 : g210 ≠ g1 := by exact Ne.symm hgx
      have n_1 : (w26.setCell ⟨g1, k * 3 + 1, none⟩ (.int .i64 (m1))).cell? ⟨g210, 0, none⟩ = some (.int .i64 h) := by simp [go_sem, e_0, a0]
      have e_2 : g210 ≠ g1 := by exact Ne.symm hgx
      have n_3 : (w26.setCell ⟨g1, k * 3 + 1, none⟩ (.int .i64 (m1))).cell? ⟨g210, 1, none⟩ = some (.slice (some ⟨g1, 0, none⟩) xs.length c1) := by simp [go_sem, e_2, a1]
      have r_4 : Hid ((w26.setCell ⟨g1, k * 3 + 1, none⟩ (.int .i64 (m1))).ownsRow bb 47 3 (.slice (some ⟨g1, 0, none⟩) xs.length c1) xs.length (cellsR (moistR xs k (m1)))) := Lib.hid (row_moist a2.out HKL.out _)
      have e_5 : bb ≠ g1 := by omega
      have n_6 : (w26.setCell ⟨g1, k * 3 + 1, none⟩ (.int .i64 (m1))).cell? ⟨bb, 0, none⟩ = some (.int .i64 h) := by simp [go_sem, e_5, a3]
      have e_7 : bb ≠ g1 := by omega
      have n_8 : (w26.setCell ⟨g1, k * 3 + 1, none⟩ (.int .i64 (m1))).cell? ⟨bb, 1, none⟩ = some (.slice (some ⟨b9, off, none⟩) xs.length cp) := by simp [go_sem, e_7, a4]
      have n_9 : bb + 1 ≤ (w26.setCell ⟨g1, k * 3 + 1, none⟩ (.int .i64 (m1))).heap.size := by simpa using a5
      have n_10 : bb ≤ (w26.setCell ⟨g1, k * 3 + 1, none⟩ (.int .i64 (m1))).heap.size := by simpa using a6
      have e_11 : b9 ≠ g1 := by omega
      have n_12 : (w26.setCell ⟨g1, k * 3 + 1, none⟩ (.int .i64 (m1))).cell? ⟨b9, off + k * 3, none⟩ = some (.int .i64 x1) := by simp [go_sem, e_11, a9]
      have e_13 : b9 ≠ g1 := by omega
      have n_14 : (w26.setCell ⟨g1, k * 3 + 1, none⟩ (.int .i64 (m1))).cell? ⟨b9, off + k * 3 + 1, none⟩ = some (.int .i64 x2) := by simp [go_sem, e_13, a10]
      have e_15 : b9 ≠ g1 := by omega
      have n_16 : (w26.setCell ⟨g1, k * 3 + 1, none⟩ (.int .i64 (m1))).cell? ⟨b9, off + k * 3 + 2, none⟩ = some (.int .i64 x3) := by simp [go_sem, e_15, a11]
      have hz_w27 : bb ≤ (w26.setCell ⟨g1, k * 3 + 1, none⟩ (.int .i64 (m1))).heap.size := by simpa using hz_w26
      generalize (w26.setCell ⟨g1, k * 3 + 1, none⟩ (.int .i64 (m1))) = w27 at *
      have FN := fun (W : World) (hW : Free.Bel w27 W) => And.intro (keepsB hW n_1) (And.intro (keepsB hW n_3) (And.intro (Lib.hid (bel_row r_4.out hW)) (And.intro (keepsB hW n_6) (And.intro (keepsB hW n_8) (And.intro (Nat.le_trans n_9 hW.size) (And.intro (Nat.le_trans n_10 hW.size) (And.intro (Lib.hid (HTX.out W (HB_w27.out.trans (hW.mono hz_w27)))) (And.intro (Lib.hid (HUX.out W (HB_w27.out.trans (hW.mono hz_w27)))) (And.intro (keepsB hW n_12) (And.intro (keepsB hW n_14) (keepsB hW n_16)))))))))))
      clear FA KR HB_w26 hz_w26 hGB a0 a1 a2 a3 a4 a5 a6 a7 a8 a9 a10 a11 e_0 n_1 e_2 n_3 r_4 e_5 n_6 e_7 n_8 n_9 n_10 e_11 n_12 e_13 n_14 e_15 n_16
      have FA := FN
      clear FN
      have KR : Free.Bel w27 w27 := Free.Bel.refl _
      go_wp2_with fail
      refine (can_at (h) (moistR xs k (m1)) _ w27 (FA w27 (Free.Bel.refl _)).2.2.2.2.2.2.2.1.out (RL.of_row (moistR_length _ _ _) (by unfold maxLen; omega) ((FA w27 (Free.Bel.refl _)).2.2.1).out) (HWM.out (m1) (by have := HM1E.out; omega) (by have := HM1E.out; have := hM2.out.2.1; omega)) false (Lib.hid (by have h9 := HM1E.out; subst h9; exact hM2.out.2.2.2 (by omega)))).mono ?_
      rintro e w28 ⟨rfl, hB⟩
      have HB_w28 := Lib.hid (HB_w27.out.trans ((hB).mono hz_w27))
      have hz_w28 : bb ≤ w28.heap.size := Nat.le_trans hz_w27 (hB).size
      have FN := fun (W : World) (hW : Free.Bel w28 W) => FA W (bt (hB) hW)
      clear FA HB_w27 hz_w27 KR
      have FA := FN
      clear FN
      have KR := Free.Bel.refl w28
      clear hB
      go_wp2_with fail
      go_ret
      have hbb := HBB.out
      subst hbb
      exact ⟨rfl, HB_w28.out⟩
end Go.Proofs.YtknpglgpkkhhiaaDoor

/- The bounds of small kinds of numbers. -/
namespace Go.Proofs.YtknpglgpkkhhiaaDoor
open Go
theorem u8_wf {n : Int} (h : (Lit.int .u8 n).wf = true) : 0 ≤ n ∧ n ≤ 255 := by
  have h2 : IntKind.u8.min ≤ n ∧ n ≤ IntKind.u8.max := by simpa [Lit.wf] using h
  exact h2
theorem u16_wf {n : Int} (h : (Lit.int .u16 n).wf = true) : 0 ≤ n ∧ n ≤ 65535 := by
  have h2 : IntKind.u16.min ≤ n ∧ n ≤ IntKind.u16.max := by simpa [Lit.wf] using h
  exact h2
theorem u32_wf {n : Int} (h : (Lit.int .u32 n).wf = true) : 0 ≤ n ∧ n ≤ 4294967295 := by
  have h2 : IntKind.u32.min ≤ n ∧ n ≤ IntKind.u32.max := by simpa [Lit.wf] using h
  exact h2
end Go.Proofs.YtknpglgpkkhhiaaDoor

/- For every input the law RoundFewest returns true, and its arguments read behind the call as they read before; what a watch is asked lies in the table as the program's text lays it (tied). Condition: that table. -/
namespace Go.Proofs.YtknpglgpkkhhiaaDoor.lawRoundFewest
open Go Go.ChangeShapes Go.WideShapes Go.ChangeAt Go.RowKit
set_option linter.unusedVariables false
set_option linter.unusedSimpArgs false

set_option maxRecDepth 100000 in
theorem contract (H : Type) (enc : TypeId × Value → H) (W : World) (base : Nat) (args : Array Value) (ds gs : List (DataW H)) (before : List MemPlace)
    (hval : ∀ (j : Nat) t v, Tryd.f11.params[j]? = some t → args[j]? = some v → Value.okWide Tryd.prog W .any base t v)
    (hW : DataW.Whole enc Tryd.prog Tryd.f11.params.toList Rows.roundFewestSpec.vars false W args.toList ds gs before) (hL : laidMetH Tryd.prog Rows.roundFewestRow.laid W) :
    Calls Tryd.prog 11 args W fun e W' => ∃ v, e = .returned v ∧ Rows.roundFewestSpec.post enc Tryd.prog Tryd.f11 false true false false W args v W' := by
  have hW' := hW
  obtain ⟨p, q, hA0, hV, rfl, hfz, hnd⟩ := hW
  have hA : DataW.TrodAll enc Tryd.prog W 0 (fun _ => true) true Tryd.f11.params.toList args.toList ds p := hA0
  have hAk := hA
  rw [Tryd.params11] at hA hval
  obtain ⟨v0, vs0, d0, ds0, p0, q0, hargs, rfl, rfl, h0, r0⟩ := trodAll_cons hA
  obtain ⟨v1, vs1, d1, ds1, p1, q1, rfl, rfl, rfl, h1, r1⟩ := trodAll_cons r0
  obtain ⟨rfl, rfl, rfl⟩ := trodAll_nil r1
  obtain rfl : args = #[v0, v1] := by cases args; simp_all
  obtain ⟨rfl, rfl⟩ := trodVars_none hV
  have hlt : ∀ x ∈ p0 ++ (p1 ++ ([])), x.block < W.heap.size := fun x hx => by
    have := hW'.lt x (by simpa using hx)
    simpa using this
  obtain ⟨a0, b0, y0, z0, n0, rfl, _, _, g0, k0⟩ := Joins.open_agg2 Tryd.underlying24 (by kernel_rfl) (by kernel_rfl) (hval 0 24 _ rfl rfl) h0
  obtain ⟨h, ea0, _, _⟩ := DataW.trod_int Tryd.underlying3 g0
  simp at ea0
  subst ea0
  obtain ⟨xs, pp0, cap0, eb0, hrl0, hnz0⟩ := ricks_open Tryd.underlying22 Tryd.underlying47 (by kernel_rfl) rfl rfl rfl (by kernel_rfl) (by kernel_rfl) (by kernel_rfl) Tryd.underlying3 Tryd.underlying3 Tryd.underlying3 k0
  obtain ⟨q, rfl, _, hwf1⟩ := open_int Tryd.underlying5 (hval 1 5 _ rfl rfl) h1
  refine (fewL_walk h xs q _ W (Tab.of_laid hL) hrl0 hnz0 (u8_wf hwf1.2).1 (u8_wf hwf1.2).2).mono fun e W' ⟨he, hg⟩ => ?_
  subst he
  refine ⟨_, rfl, _, _, _, [], p0 ++ (p1 ++ ([])), [], hW', ?_, ?_, ?_, hg.frame _, fun h => by cases h⟩
  · exact trodAll_cons_mk (shut_bool Tryd.underlying4 true) trodAll_mk0
  · exact Law.args_below Tab.laidOut (by kernel_rfl) hg hAk hlt
  · rfl

set_option maxRecDepth 100000 in
theorem lifted (os : Os) (started : os.Started) (H : Type) (enc : TypeId × Value → H) :
    ReturnsInHanded {} Tryd.checked os 11 .any (fun w args => (Rows.roundFewestSpec.pre enc Tryd.prog Tryd.f11 [] false w args ∧ laidMetH Tryd.prog Rows.roundFewestRow.laid w) ∧ sizedMet enc Tryd.prog Tryd.f11 (OpenSpec.ofChange Rows.roundFewestSpec) false w args) (Rows.roundFewestSpec.post enc Tryd.prog Tryd.f11 false true false false) := by
  refine returnsInHanded_of_change_and (C := Tryd.checked) (X := fun w _ => laidMetH Tryd.prog Rows.roundFewestRow.laid w) (fun _ _ _ hh h => h.of_heap hh) Tab.own started (by kernel_rfl) Tryd.func11
    (ChangeSpec.witness_shaped (enc := enc) (C := Tryd.checked) (os := os) (X := fun w _ => laidMetH Tryd.prog Rows.roundFewestRow.laid w) false (World.doorLaid Tryd.prog 17 os) #[.agg #[.int .i64 0, .slice none 0 0], .int .u8 0] 8 rfl (World.shaped_of_RefB (by kernel_rfl) (by kernel_rfl)) (by kernel_rfl) (by kernel_rfl) (by kernel_rfl) (Tab.door_met os _)) ?_
  intro W base args ds gs before hval hW _ _ hL _
  exact contract H enc W base args ds gs before hval hW hL

theorem said : Rows.RoundFewestSaid :=
  OpenClaim.holds_of_wide 11 Tryd.f11 rfl rfl rfl rfl rfl rfl rfl ⟨rfl, rfl, rfl, rfl, rfl⟩ rfl rfl rfl rfl rfl (by kernel_rfl) Tryd.func11 (by kernel_rfl)
    (of_decide_eq_true (by kernel_rfl)) (by unfold Func.isWrapper; first | (rw [if_pos (by decide +kernel)]; kernel_rfl) | (rw [if_neg (by decide +kernel)]; exact ⟨rfl, rfl⟩))
    (fun os started H enc _ => lifted os started H enc)

theorem plain (f : FuncId) (fn : Func) (hf : Tryd.pinned.checked.prog.funcNamed "oilcake/oilcakelaw07.RoundFewest" = some f) (hfn : Tryd.pinned.checked.prog.funcs[f]? = some fn) :
    false = Tryd.pinned.checked.prog.looks [] ∧ ∀ (j : Nat) t, fn.params[j]? = some t → Tryd.pinned.checked.prog.wantsStandIn t = false := by
  obtain rfl : f = 11 := Option.some.inj ((show Tryd.prog.funcNamed "oilcake/oilcakelaw07.RoundFewest" = some 11 by kernel_rfl).symm.trans hf) |>.symm
  obtain rfl : fn = Tryd.f11 := (Option.some.inj (Tryd.func11.symm.trans hfn)).symm
  refine ⟨by kernel_rfl, fun j t ht => ?_⟩
  rw [Tryd.params11] at ht
  have hm := Array.mem_of_getElem? ht
  have hall : (Tryd.f11.params.toList.all fun u => !Tryd.prog.wantsStandIn u) = true := by kernel_rfl
  rw [Tryd.params11] at hall
  exact (show Tryd.prog.wantsStandIn t = false by simpa using List.all_eq_true.1 hall t (by simpa using hm))

theorem card : Rows.RoundFewestCardSaid :=
  Claim7.holds_tied_plain_at .later [] _ _ _ _ said (fun _ h => by cases h) (by kernel_rfl) (fun _ h => by cases h) roundFewest_row_tie rfl ⟨rfl, rfl⟩ (by kernel_rfl) rfl plain (by kernel_rfl)
#print axioms card
end Go.Proofs.YtknpglgpkkhhiaaDoor.lawRoundFewest

