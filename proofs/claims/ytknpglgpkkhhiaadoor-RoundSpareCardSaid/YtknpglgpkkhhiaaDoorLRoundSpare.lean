/- For every input the law RoundSpare returns true, and its arguments read behind the call as they read before; what a watch is asked lies in the table as the program's text lays it (tied). Condition: that table. -/
/- A watch made by a call in a region that draws its order, and kept in a box made there too. -/
import Derived.Test.YtknpglgpkkhhiaaDoorB8
namespace Go.Proofs.YtknpglgpkkhhiaaDoor
set_option linter.unusedSimpArgs false
set_option linter.unusedVariables false
open Go.RowKit Go.Proofs.YtknpglgpkkhhiaaDoor.Free2 Go.Proofs.YtknpglgpkkhhiaaDoor.ML RR

/-- Blocks below n0 stay, and later ones but cells of one type. -/
structure RQt (t : TypeId) (n0 : Nat) (a b : World) : Prop where
  below : Below n0 a b
  other : ∀ (k : Nat) (o : Obj), a.heap[k]? = some o → (∀ c f, o ≠ .cells c t f) → b.heap[k]? = some o
section
variable {a b c : World} {n0 : Nat} {t : TypeId}
theorem RQt.refl (t : TypeId) (n0 : Nat) (a : World) : RQt t n0 a a := ⟨Below.refl _ _, fun _ _ h _ => h⟩
theorem RQt.trans (h : RQt t n0 a b) (k : RQt t n0 b c) : RQt t n0 a c := ⟨h.below.trans k.below, fun i o h1 h2 => k.other i o (h.other i o h1 h2) h2⟩
theorem RQt.of_bel (h : Free.Bel a b) (hn : n0 ≤ a.heap.size) : RQt t n0 a b := ⟨h.mono hn, fun k o h1 _ => (h.block k (lt_of_heap h1)).trans h1⟩
theorem RQt.set {g o : Nat} {v : Value} {cs : Array Value} {f : Nat × Nat} (hg : n0 ≤ g) (hq : a.heap[g]? = some (.cells cs t f)) : RQt t n0 a (a.setCell ⟨g, o, none⟩ v) :=
  ⟨(Below.refl _ a).setCell (by simpa using hg) v, fun k p h1 h2 => by
    have hne : k ≠ g := by
      rintro rfl
      rw [hq] at h1
      cases h1
      exact h2 _ _ rfl
    exact (Below.heap_setCell _ _ _ _ (by simpa using hne)).trans h1⟩
theorem RQt.row {base : Nat} {e : TypeId} {size n : Nat} {v : Value} {xs : List Value} (h : RQt t n0 a b) (ht : e ≠ t) (ho : a.ownsRow base e size v n xs) : b.ownsRow base e size v n xs :=
  own_typed ho fun k c f hk => h.other k _ hk fun c' f' e' => by cases e'; exact ht rfl
end
/-- Operation al makes a box of two cells, operation st stores in it what operation ex gave. -/
structure JK (t : TypeId) (s0 ex al st : Nat) (X : XT) (W : World) : Prop where
  ord : X st ≠ none → X ex ≠ none ∧ X al ≠ none
  size : s0 ≤ W.heap.size
  new : ∀ v, X al = some v → ∃ b, v = .pointer (some ⟨b, 0, none⟩) ∧ s0 ≤ b ∧ (X st = none → ∃ x y, W.heap[b]? = some (.cells #[x, y] t (0, 0))) ∧ (X st ≠ none → ∃ x y, X ex = some (.agg #[x, y]) ∧ W.heap[b]? = some (.cells #[x, y] t (0, 0)))
section
variable {t : TypeId} {s0 ex al st : Nat} {X : XT} {W W' : World}
theorem JK.start (hs : s0 ≤ W.heap.size) : JK t s0 ex al st (fun _ => none) W := ⟨fun h => absurd rfl h, hs, fun v h => (by cases h)⟩
theorem JK.bel (H : JK t s0 ex al st X W) (hB : Free.Bel W W') : JK t s0 ex al st X W' :=
  ⟨H.ord, Nat.le_trans H.size hB.size, fun v hv => by
    obtain ⟨b, h1, h2, h3, h4⟩ := H.new v hv
    exact ⟨b, h1, h2, fun h => let ⟨x, y, h5⟩ := h3 h; ⟨x, y, (hB.block _ (lt_of_heap h5)).trans h5⟩, fun h => let ⟨x, y, h5, h6⟩ := h4 h; ⟨x, y, h5, (hB.block _ (lt_of_heap h6)).trans h6⟩⟩⟩
theorem JK.skip (H : JK t s0 ex al st X W) (n : Nat) (v : Value) (h1 : n ≠ al) (h2 : n ≠ st) (h3 : n = ex → X ex = none) : JK t s0 ex al st (upd X n v) W := by
  have e1 := upd_other X v (Ne.symm h1)
  have e2 := upd_other X v (Ne.symm h2)
  refine ⟨fun h => ?_, H.size, fun u hu => ?_⟩
  · rw [e2] at h
    refine ⟨?_, by rw [e1]; exact (H.ord h).2⟩
    by_cases e : n = ex
    · subst e; rw [upd_same]; simp
    · rw [upd_other _ _ (Ne.symm e)]; exact (H.ord h).1
  · rw [e1] at hu
    obtain ⟨b, a1, a2, a3, a4⟩ := H.new u hu
    refine ⟨b, a1, a2, fun h => a3 (by rwa [e2] at h), fun h => ?_⟩
    rw [e2] at h
    by_cases e : n = ex
    · exact absurd (h3 e) (H.ord h).1
    · rw [upd_other _ _ (Ne.symm e)]; exact a4 h
theorem JK.made (H : JK t s0 ex al st X W) (hst : X al = none) {b : Nat} {x y : Value} (hB : Free.Bel W W') (hb : s0 ≤ b) (hh : W'.heap[b]? = some (.cells #[x, y] t (0, 0))) (hne : al ≠ st) : JK t s0 ex al st (upd X al (.pointer (some ⟨b, 0, none⟩))) W' := by
  have hs : X st = none := by
    cases h : X st with
    | none => rfl
    | some v => exact absurd hst (H.ord (by rw [h]; simp)).2
  have e2 := upd_other X (.pointer (some ⟨b, 0, none⟩)) (Ne.symm hne)
  refine ⟨fun h => absurd hs (by rwa [e2] at h), Nat.le_trans H.size hB.size, fun u hu => ?_⟩
  rw [upd_same] at hu
  cases hu
  exact ⟨b, rfl, hb, fun _ => ⟨x, y, hh⟩, fun h => absurd hs (by rwa [e2] at h)⟩
theorem JK.put (H : JK t s0 ex al st X W) (hst : X st = none) {b : Nat} {x y v : Value} (hal : X al = some (.pointer (some ⟨b, 0, none⟩))) (hex : X ex = some (.agg #[x, y])) (n1 : al ≠ st) (n2 : ex ≠ st) : JK t s0 ex al st (upd X st v) ((W.setCell ⟨b, 0, none⟩ x).setCell ⟨b, 1, none⟩ y) := by
  have e1 := upd_other X v n1
  have e2 := upd_other X v n2
  refine ⟨fun _ => ⟨by rw [e2, hex]; simp, by rw [e1, hal]; simp⟩, by simpa using H.size, fun u hu => ?_⟩
  rw [e1, hal] at hu
  cases hu
  obtain ⟨b', h1, h2, h3, _⟩ := H.new _ hal
  cases h1
  obtain ⟨x0, y0, h5⟩ := h3 hst
  refine ⟨b, rfl, h2, fun h => (by rw [upd_same] at h; cases h), fun _ => ⟨x, y, by rw [e2]; exact hex, ?_⟩⟩
  have h6 := heap_setCell_same (o := 1) y (heap_setCell_same (o := 0) x h5)
  simpa using h6
end
end Go.Proofs.YtknpglgpkkhhiaaDoor

/- Days on which nothing is turned. -/
namespace Go.Proofs.YtknpglgpkkhhiaaDoor
set_option linter.unusedSimpArgs false
set_option linter.unusedVariables false

theorem endR_rep (xs : List Rk) (n : Nat) : endR xs (List.replicate (n + 1) []) = endR (dayR [] xs) (List.replicate n []) := rfl
theorem heat_idle : ∀ (n : Nat) (m : Int) (xs : List Rk), (heatR m xs (List.replicate n [])).isEmpty = true ↔ ∀ k, 0 < k → k ≤ n → coolB (endR xs (List.replicate k [])) = true
  | 0, m, xs => ⟨fun _ k h0 h1 => by omega, fun _ => rfl⟩
  | n + 1, m, xs => by
    have h1 : coolB (dayR [] xs) = true ↔ hotR (m + 1) (dayR [] xs) = [] := by
      rw [hotR_nil, coolB, List.all_eq_true]
      simp
    rw [List.replicate_succ, heatR, List.isEmpty_iff, List.append_eq_nil_iff, ← h1, ← List.isEmpty_iff, heat_idle n (m + 1) (dayR [] xs)]
    constructor
    · rintro ⟨h2, h3⟩ k h0 hk
      match k, h0 with
      | 1, _ => exact h2
      | j + 2, _ => exact h3 (j + 1) (by omega) (by omega)
    · intro h2
      exact ⟨h2 1 (by omega) (by omega), fun k h0 hk => h2 (k + 1) (by omega) (by omega)⟩
theorem turn_nil {h : Int} {xs : List Rk} (hw : watchB h xs = true) : turnB h xs [] = true := by
  have := (watchB_iff.1 hw).1
  simp [turnB, turnF]
  omega
theorem ask_idle {h : Int} {xs : List Rk} (hw : watchB h xs = true) {n : Nat} (hn : n ≤ 60) : askE h xs (List.replicate n []) = 0 := by
  refine askE_zero.2 ⟨hw, ?_⟩
  unfold validB
  rw [Bool.and_eq_true, List.all_eq_true]
  refine ⟨by simpa using hn, fun d hd => ?_⟩
  rw [(List.mem_replicate.1 hd).2]
  exact turn_nil hw
theorem watch_idle {h : Int} : ∀ (n : Nat) {xs : List Rk}, watchB h xs = true → (∀ k, 0 < k → k ≤ n → coolB (endR xs (List.replicate k [])) = true) → watchB h (endR xs (List.replicate n [])) = true
  | 0, xs, hw, _ => hw
  | n + 1, xs, hw, hc => by
    rw [endR_rep]
    exact watch_idle n (watch_day hw (hc 1 (by omega) (by omega))) fun k h0 hk => hc (k + 1) (by omega) (by omega)
theorem aft_idle {h : Int} {xs : List Rk} (hw : watchB h xs = true) {n : Nat} (hn : n ≤ 60) (hc : ∀ k, 0 < k → k ≤ n → coolB (endR xs (List.replicate k [])) = true) : aftE h xs (List.replicate n []) = 0 ∧ aftH h xs (List.replicate n []) = h ∧ aftL h xs (List.replicate n []) = endR xs (List.replicate n []) := by
  have h1 : aftE h xs (List.replicate n []) = 0 := by
    unfold aftE
    rw [if_pos (ask_idle hw hn), if_pos ((heat_idle n 0 xs).2 hc)]
  exact ⟨h1, by rw [aftH, if_pos h1], by rw [aftL, if_pos h1]⟩
theorem aft_hot {h : Int} {xs : List Rk} (hw : watchB h xs = true) {n : Nat} (hn : n ≤ 60) (hc : ¬ ∀ k, 0 < k → k ≤ n → coolB (endR xs (List.replicate k [])) = true) : aftE h xs (List.replicate n []) = 73 := by
  unfold aftE
  rw [if_pos (ask_idle hw hn), if_neg (fun h9 => hc ((heat_idle n 0 xs).1 h9))]
/-- The spare days are few. -/
theorem spare_few {h : Int} {xs : List Rk} (hw : watchB h xs = true) (hx : xs ≠ []) {n : Nat} (H : SpareIs h xs n) : n ≤ 5 := by
  obtain ⟨x, hm⟩ := List.exists_mem_of_ne_nil xs hx
  obtain ⟨_, _, h1, h6, h0, h2⟩ := watchB_ok hw x hm
  rcases Nat.lt_or_ge n 6 with h9 | h9
  · omega
  · have hk := (H.1 (x.2.1 - x.2.2).toNat (by omega) (by omega)).1
    rw [endR_idle, coolB, List.all_eq_true] at hk
    have := hk _ (List.mem_map.2 ⟨x, hm, rfl⟩)
    simp at this
    omega
/-- Nothing is turned today just if a day is spare. -/
theorem spare_today {h : Int} {xs : List Rk} (hw : watchB h xs = true) (he : everB h xs = true) {n : Nat} (H : SpareIs h xs n) : stepE h xs = [] ↔ 0 < n := by
  obtain ⟨hf, hd, hc, hev⟩ := ever_step he
  constructor
  · intro h0
    rw [h0] at hc hev
    rcases Nat.eq_zero_or_pos n with hn | hn
    · subst hn
      exact absurd ⟨hc, hev⟩ H.2
    · exact hn
  · intro hn
    obtain ⟨h1, h2⟩ := H.1 1 (by omega) (by omega)
    have hm : ([] : List Int) ∈ daysL h xs := (mem_daysL hw).2 (turn_nil hw)
    rcases find_first (daysL_sorted hw) hf hm (by rw [Bool.and_eq_true]; exact ⟨h1, h2⟩) with h3 | h3
    · exact h3.symm
    · have : beforeL (stepE h xs) [] = false := by
        unfold beforeL
        cases stepE h xs with
        | nil => rfl
        | cons a r => simp
      rw [this] at h3
      cases h3
end Go.Proofs.YtknpglgpkkhhiaaDoor

/- RoundSpare: after the spare days it can go on, after one more it cannot. -/
namespace Go.Proofs.YtknpglgpkkhhiaaDoor
set_option linter.unusedSimpArgs false
set_option linter.unusedVariables false
open Go.RowKit Go.Proofs.YtknpglgpkkhhiaaDoor.Free2 Go.Proofs.YtknpglgpkkhhiaaDoor.ML RR

/-- A row of n empty days. -/
def NilD (n : Nat) (v : Value) (W : World) : Prop := ∃ b cs, v = .slice (some ⟨b, 0, none⟩) n n ∧ W.heap[b]? = some (.cells cs 58 (0, 0)) ∧ ∀ i, i < n → cs[i]? = some (.slice none 0 0)
theorem NilD.dl {n : Nat} {v : Value} {W : World} (h : NilD n v W) (hn : n ≤ maxLen) : DL (List.replicate n []) v W := by
  obtain ⟨b, cs, rfl, hb, hc⟩ := h
  refine ⟨_, n, by simp, by simpa using hn, fun _ => ⟨b, 0, rfl, fun k hk => ?_⟩⟩
  have hk' : k < n := by simpa using hk
  refine ⟨.slice none 0 0, by rw [Nat.zero_add]; exact cell_of_heap (o := k) hb (hc k hk'), ?_⟩
  rw [List.getElem_replicate]
  exact IL.nil W
theorem NilD.stable (n n0 : Nat) : Free.Stable (RQt 24 n0) (NilD n) := fun v a b hR ⟨g, cs, h1, h2, h3⟩ => ⟨g, cs, h1, hR.other g _ h2 (fun _ _ e => by cases e), h3⟩
/-- What After gave: a watch, with ricks of its own. -/
def AftV (n0 : Nat) (H : Int) (ys : List Rk) (E : Int) (v : Value) (W : World) : Prop := ∃ u, v = .tuple #[.agg #[.int .i64 H, u], .int .i64 E] ∧ W.ownsRow n0 47 3 u ys.length (cellsR ys)
def AftW (n0 : Nat) (H : Int) (ys : List Rk) (v : Value) (W : World) : Prop := ∃ u, v = .agg #[.int .i64 H, u] ∧ W.ownsRow n0 47 3 u ys.length (cellsR ys)
theorem AftV.stable (n0 : Nat) (H E : Int) (ys : List Rk) (m : Nat) : Free.Stable (RQt 24 m) (AftV n0 H ys E) := fun v a b hR ⟨u, h1, h2⟩ => ⟨u, h1, hR.row (by decide) h2⟩
theorem AftW.stable (n0 : Nat) (H : Int) (ys : List Rk) (m : Nat) : Free.Stable (RQt 24 m) (AftW n0 H ys) := fun v a b hR ⟨u, h1, h2⟩ => ⟨u, h1, hR.row (by decide) h2⟩
theorem makeD (n : Nat) (hn : n ≤ 1000) (W : World) : ∃ cs, (Instr.makeSlice 25 (.int .i64 n) (.int .i64 n)).run Tryd.prog W = .ok (.slice (some ⟨W.heap.size, 0, none⟩) n n) (W.alloc (.cells cs 58)) ∧ ∀ i, i < n → cs[i]? = some (.slice none 0 0) := by
  obtain ⟨i0, hi0, hz0, hz1, hz2⟩ := info_parts Go.Proofs.YtknpglgpkkhhiaaDoor.T.infoDT
  have h1 := run_makeSlice (P := Tryd.prog) (w := W) 25 58 i0 (.slice none 0 0) Tryd.underlying25 hi0 hz0 .i64 .i64 n n (by omega) (by omega) (by rw [hz1]; simp; omega) (by rw [hz2]; omega) (by omega)
  rw [hz1] at h1
  simp only [Int.toNat_natCast, Nat.mul_one] at h1
  refine ⟨_, h1, fun i hi => ?_⟩
  simp [madeCells, hi, Value.cells, Nat.mod_one]
set_option maxRecDepth 100000 in
set_option maxHeartbeats 32000000 in
theorem spareL_walk (h : Int) (xs : List Rk) (u : Value) (w : World) (hT : TabR w) (hu : RL xs u w) (hz : NZ u) :
    Calls Tryd.prog 14 #[.agg #[.int .i64 h, u]] w fun e w' => e = .returned (.bool true) ∧ Below w.heap.size w w' := by
  have HU := Lib.hid hu
  have HNZ := Lib.hid hz
  obtain ⟨p, cp, rfl, hm, hp⟩ := hu
  have KB : Free.Bel w (w.alloc (.cells #[.int .i64 h, .slice p xs.length cp] 24)) := belAlloc _ _
  have FA : ∀ W, Free.Bel (w.alloc (.cells #[.int .i64 h, .slice p xs.length cp] 24)) W → W.cell? ⟨w.heap.size, 0, none⟩ = some (.int .i64 h) ∧ W.cell? ⟨w.heap.size, 1, none⟩ = some (.slice p xs.length cp) := fun W hW => ⟨keepsB hW (by simp [go_sem]), keepsB hW (by simp [go_sem])⟩
  have HFA := Lib.hid FA
  have HTAB := Lib.hid hT
  have HKB := Lib.hid KB
  clear hT hp hm KB hz
  go_enter Tryd.func14, Tryd.ntmps14
  go_wp2_with fail
  refine (alive_any (w.alloc (.cells #[.int .i64 h, .slice p xs.length cp] 24)) (HTAB.out.bel HKB.out)).mono ?_
  rintro e w1 ⟨rfl, hB1⟩
  have K1 : Free.Bel (w.alloc (.cells #[.int .i64 h, .slice p xs.length cp] 24)) w1 := hB1
  have HK1 := Lib.hid K1
  clear hB1
  go_wp2_with fail
  cases hw : watchB h xs with
  | false =>
    refine (ready_v h xs _ w1 (HU.out.keeps (bt HKB.out HK1.out)) false (Lib.hid hw)).mono ?_
    rintro e w2 ⟨rfl, hB2⟩
    have HB := Lib.hid (bt HKB.out (bt HK1.out hB2))
    clear hB2
    go_wp2_with fail
    go_ret
    exact ⟨rfl, HB.out⟩
  | true =>
    have HW := Lib.hid hw
    refine (ready_v h xs _ w1 (HU.out.keeps (bt HKB.out HK1.out)) true (Lib.hid hw)).mono ?_
    clear hw
    rintro e w2 ⟨rfl, hB2⟩
    have K2 : Free.Bel (w.alloc (.cells #[.int .i64 h, .slice p xs.length cp] 24)) w2 := bt HK1.out hB2
    have HK2 := Lib.hid K2
    clear hB2 K1
    go_wp2_with fail
    cases hr : everB h xs with
    | false =>
      refine (spareP_v h xs _ w2 (HTAB.out.bel (bt HKB.out HK2.out)) (HU.out.keeps (bt HKB.out HK2.out)) 8 (by show _ = _; unfold goE; simp [HW.out, hr])).mono ?_
      rintro e w3 ⟨hS, hB3⟩
      obtain rfl : e = .returned (.tuple #[.int .i64 0, .int .i64 8]) := by
        rcases hS with ⟨_, h9⟩ | ⟨h9, _⟩ | ⟨h9, _⟩
        · exact h9
        · cases h9
        · cases h9
      have K3 : Free.Bel (w.alloc (.cells #[.int .i64 h, .slice p xs.length cp] 24)) w3 := bt HK2.out hB3
      have HK3 := Lib.hid K3
      have HR := Lib.hid hr
      clear hS hB3 K2 hr
      go_wp2_with fail
      refine (canP_v h xs _ w3 (HTAB.out.bel (bt HKB.out HK3.out)) (HU.out.keeps (bt HKB.out HK3.out)) 0 false (by rw [HW.out, HR.out]; exact ⟨rfl, rfl⟩)).mono ?_
      rintro e w4 ⟨rfl, hB4⟩
      have HB := Lib.hid (bt HKB.out (bt HK3.out hB4))
      clear hB4
      go_wp2_with fail
      go_ret
      exact ⟨rfl, HB.out⟩
    | true =>
      have HR := Lib.hid hr
      refine (spareP_v h xs _ w2 (HTAB.out.bel (bt HKB.out HK2.out)) (HU.out.keeps (bt HKB.out HK2.out)) 0 (by show _ = _; unfold goE; simp [HW.out, hr])).mono ?_
      clear hr
      rintro e w3 ⟨hS, hB3⟩
      have K3 : Free.Bel (w.alloc (.cells #[.int .i64 h, .slice p xs.length cp] 24)) w3 := bt HK2.out hB3
      have HK3 := Lib.hid K3
      clear hB3 K2
      rcases hS with ⟨h9, _⟩ | ⟨_, hx, rfl⟩ | ⟨_, hx, n, hsp, rfl⟩
      · exact absurd rfl h9
      · have hx0 : xs.length = 0 := by rw [hx]; rfl
        have HX0 := Lib.hid hx0
        clear hx hx0
        go_wp2_with fail
        refine (canP_v h xs _ w3 (HTAB.out.bel (bt HKB.out HK3.out)) (HU.out.keeps (bt HKB.out HK3.out)) 0 true (by rw [HW.out, HR.out]; exact ⟨rfl, rfl⟩)).mono ?_
        rintro e w4 ⟨rfl, hB4⟩
        have K4 : Free.Bel (w.alloc (.cells #[.int .i64 h, .slice p xs.length cp] 24)) w4 := bt HK3.out hB4
        have HB := Lib.hid (bt HKB.out K4)
        have hx1 : ((xs.length : Int) == 0) = true := by rw [HX0.out]; rfl
        clear hB4 K3
        go_wp2_with fail
        go_ret
        exact ⟨rfl, HB.out⟩
      · have hn5 := spare_few HW.out hx hsp
        have HSP := Lib.hid (And.intro hsp hx)
        have hx1 : ((xs.length : Int) == 0) = false := by
          cases xs with
          | nil => exact absurd rfl hx
          | cons a r => simp; omega
        have HX1 := Lib.hid hx1
        clear hsp hx hx1
        go_wp2_with fail
        refine (canP_v h xs _ w3 (HTAB.out.bel (bt HKB.out HK3.out)) (HU.out.keeps (bt HKB.out HK3.out)) 0 true (by rw [HW.out, HR.out]; exact ⟨rfl, rfl⟩)).mono ?_
        rintro e w4 ⟨rfl, hB4⟩
        have K4 : Free.Bel (w.alloc (.cells #[.int .i64 h, .slice p xs.length cp] 24)) w4 := bt HK3.out hB4
        have HK4 := Lib.hid K4
        have hx1 := HX1.out
        have hn0 : ¬ ((n : Int) < 0) := by omega
        have hn6 : ¬ (6 < (n : Int)) := by omega
        have hn7 : ((n : Int) ≤ 6) := by omega
        clear hB4 K3
        go_wp2_with fail
        have HN5 := Lib.hid hn5
        have hcool : ∀ k, 0 < k → k ≤ n → coolB (endR xs (List.replicate k [])) = true := fun k h0 hk => (HSP.out.1.1 k h0 hk).1
        obtain ⟨a1, a2, a3⟩ := aft_idle HW.out (show n ≤ 60 by omega) hcool
        obtain ⟨YY, hYY⟩ : ∃ y, endR xs (List.replicate n []) = y := ⟨_, rfl⟩
        rw [hYY] at a3
        have hwY : watchB h YY = true := by rw [← hYY]; exact watch_idle n HW.out hcool
        have heY : everB h YY = true := by
          rw [← hYY]
          rcases Nat.eq_zero_or_pos n with h0 | h0
          · subst h0; exact HR.out
          · exact (HSP.out.1.1 n h0 (Nat.le_refl _)).2
        have HY := Lib.hid (And.intro a1 (And.intro a2 (And.intro a3 (And.intro hwY heY))))
        clear hcool a1 a2 a3 hwY heY hYY
        have FBW : ∀ W', RQt 24 w4.heap.size w4.drew W' → Free.Bel w4 W' := fun W' hR => bt (Bel.drewT (Free.Bel.refl _)) (show Free.Bel w4.drew W' from hR.below)
        have hF : ∀ W', RQt 24 w4.heap.size w4.drew W' → (W'.cell? ⟨w.heap.size, 0, none⟩ = some (.int .i64 h) ∧ W'.cell? ⟨w.heap.size, 1, none⟩ = some (.slice p xs.length cp)) := fun W' hR => FA W' (bt HK4.out (FBW W' hR))
        have HAFT : Hid (∀ W', Free.Bel w4 W' → ∀ v, NilD (n) v W' → Calls Tryd.prog 23 #[.agg #[.int .i64 h, .slice p xs.length cp], v] W' fun e w' => (∃ u, e = .returned (.tuple #[.agg #[.int .i64 (h), u], .int .i64 (0)]) ∧ w'.ownsRow W'.heap.size 47 3 u (YY).length (cellsR (YY))) ∧ Below W'.heap.size W' w') := fun W' hW v hv => by
          have h9 := aftP_any h xs (List.replicate (n) []) _ v W' (HTAB.out.bel (bt HKB.out (bt HK4.out hW))) (HU.out.keeps (bt HKB.out (bt HK4.out hW))) HNZ.out (hv.dl (by have := HN5.out; unfold maxLen; omega)) (by have := HN5.out; simp; omega)
          rw [HY.out.1, HY.out.2.1, HY.out.2.2.1] at h9
          exact h9
        refine Free2.wp_free (R := RQt 24 w4.heap.size) (J := JK 24 w4.heap.size 5 7 8) (by kernel_rfl) (by kernel_rfl) (RQt.refl _ _) (fun _ _ _ => RQt.trans) (JK.start (Nat.le_refl _)) ?_
        refine Free2.Chain.ex ?_ 0 rfl [] [1] (by kernel_rfl) (by kernel_rfl) rfl (RQt.refl _ _) (fun X W v h => JK.skip h 0 v (by decide) (by decide) (fun e => absurd e (by decide))) ?_ ?_
        rotate_left
        · (intro ev W hb hR hO hD; have hS := hF W hR; obtain ⟨hb1, hb2, hb3⟩ := hb; simp only [Free.AllDeps, Free.AllOuts, Free.At, al1, al2, al3, al4, al5, and_true] at hO hD; go_simp; rfl)
        simp only [an1, an2]
        refine Free2.Chain.ex ?_ 1 rfl [] [4] (by kernel_rfl) (by kernel_rfl) rfl (RQt.refl _ _) (fun X W v h => JK.skip h 1 v (by decide) (by decide) (fun e => absurd e (by decide))) ?_ ?_
        rotate_left
        · (intro ev W hb hR hO hD; have hS := hF W hR; obtain ⟨hb1, hb2, hb3⟩ := hb; simp only [Free.AllDeps, Free.AllOuts, Free.At, al1, al2, al3, al4, al5, and_true] at hO hD; go_simp; rfl)
        simp only [an1, an2]
        refine Free2.Chain.pr (NilD (n)) 2 rfl [(1, 69), (1, 69)] [] (by kernel_rfl) (by kernel_rfl) rfl (NilD.stable _ _) ?_ ?_
        · (intro ev W X hb hR hO hD hj hx hax; have hS := hF W hR; obtain ⟨hb1, hb2, hb3⟩ := hb; simp only [Free.AllDeps, Free.AllOuts, Free.At, al1, al2, al3, al4, al5, and_true] at hO hD; simp only [Free2.AllX, and_true] at hax; obtain ⟨cs, hmk, hcs⟩ := makeD (n) (by have := HN5.out; omega) W; go_simp; exact ⟨RQt.of_bel (belAlloc _ _) hj.size, ⟨W.heap.size, cs, rfl, World.alloc_heap_new _ _, hcs⟩, JK.skip (JK.bel hj (belAlloc _ _)) 2 _ (by decide) (by decide) (fun e => absurd e (by decide))⟩)
        simp only [an1, an2]
        refine Free2.Chain.pr (AftV w4.heap.size (h) (YY) (0)) 3 rfl [(0, 68), (2, 70)] [] (by kernel_rfl) (by kernel_rfl) rfl (AftV.stable _ _ _ _ _) ?_ ?_
        · (intro ev W X hb hR hO hD hj hx hax; have hS := hF W hR; obtain ⟨hb1, hb2, hb3⟩ := hb; simp only [Free.AllDeps, Free.AllOuts, Free.At, al1, al2, al3, al4, al5, and_true] at hO hD; simp only [Free2.AllX, and_true] at hax; have hb := FBW W hR; have hnd := hD.2; go_simp; refine yields_enter ?_; (with_reducible refine (HAFT.out W hb _ hnd).mono ?_); rintro e W2 ⟨⟨u9, rfl, ho9⟩, hB2⟩; exact ⟨_, rfl, RQt.of_bel hB2 hj.size, ⟨u9, rfl, row_mono ho9 hj.size⟩, JK.skip (JK.bel hj hB2) 3 _ (by decide) (by decide) (fun e => absurd e (by decide))⟩)
        simp only [an1, an2]
        refine Free2.Chain.pr (AftV w4.heap.size (h) (YY) (0)) 4 rfl [(3, 71)] [] (by kernel_rfl) (by kernel_rfl) rfl (AftV.stable _ _ _ _ _) ?_ ?_
        · (intro ev W X hb hR hO hD hj hx hax; have hS := hF W hR; obtain ⟨hb1, hb2, hb3⟩ := hb; simp only [Free.AllDeps, Free.AllOuts, Free.At, al1, al2, al3, al4, al5, and_true] at hO hD; simp only [Free2.AllX, and_true] at hax; obtain ⟨u9, hu9, ho9⟩ := hD; go_simp; exact ⟨RQt.refl _ _ _, ⟨u9, rfl, ho9⟩, JK.skip hj 4 _ (by decide) (by decide) (fun e => absurd e (by decide))⟩)
        simp only [an1, an2]
        refine Free2.Chain.pr (AftW w4.heap.size (h) (YY)) 5 rfl [(4, 67)] [] (by kernel_rfl) (by kernel_rfl) rfl (AftW.stable _ _ _ _) ?_ ?_
        · (intro ev W X hb hR hO hD hj hx hax; have hS := hF W hR; obtain ⟨hb1, hb2, hb3⟩ := hb; simp only [Free.AllDeps, Free.AllOuts, Free.At, al1, al2, al3, al4, al5, and_true] at hO hD; simp only [Free2.AllX, and_true] at hax; obtain ⟨u9, hu9, ho9⟩ := hD; go_simp; exact ⟨RQt.refl _ _ _, ⟨u9, rfl, ho9⟩, JK.skip hj 5 _ (by decide) (by decide) (fun _ => hx)⟩)
        simp only [an1, an2]
        refine Free2.Chain.pr (fun v _ => v = .int .i64 (0)) 6 rfl [(4, 67)] [] (by kernel_rfl) (by kernel_rfl) rfl (fun _ _ _ _ h => h) ?_ ?_
        · (intro ev W X hb hR hO hD hj hx hax; have hS := hF W hR; obtain ⟨hb1, hb2, hb3⟩ := hb; simp only [Free.AllDeps, Free.AllOuts, Free.At, al1, al2, al3, al4, al5, and_true] at hO hD; simp only [Free2.AllX, and_true] at hax; obtain ⟨u9, hu9, ho9⟩ := hD; go_simp; first | exact ⟨RQt.refl _ _ _, rfl, JK.skip hj 6 _ (by decide) (by decide) (fun e => absurd e (by decide))⟩ | exact ⟨RQt.refl _ _ _, JK.skip hj 6 _ (by decide) (by decide) (fun e => absurd e (by decide))⟩)
        simp only [an1, an2]
        refine Free2.Chain.pr (fun _ _ => True) 7 rfl [] [] (by kernel_rfl) (by kernel_rfl) rfl (fun _ _ _ _ h => h) ?_ ?_
        · (intro ev W X hb hR hO hD hj hx hax; have hS := hF W hR; obtain ⟨hb1, hb2, hb3⟩ := hb; simp only [Free.AllDeps, Free.AllOuts, Free.At, al1, al2, al3, al4, al5, and_true] at hO hD; simp only [Free2.AllX, and_true] at hax; go_simp; exact ⟨RQt.of_bel (belAlloc _ _) hj.size, JK.made hj hx (belAlloc _ _) hj.size (World.alloc_heap_new _ _) (by decide)⟩)
        simp only [an1, an2]
        refine Free2.Chain.pr (fun _ _ => True) 8 rfl [(7, 8), (5, 72), (3, 71), (0, 68), (1, 69), (2, 70), (3, 71), (4, 67), (5, 72), (7, 8)] [] (by kernel_rfl) (by kernel_rfl) rfl (fun _ _ _ _ h => h) ?_ ?_
        · (intro ev W X hb hR hO hD hj hx hax; have hS := hF W hR; obtain ⟨hb1, hb2, hb3⟩ := hb; simp only [Free.AllDeps, Free.AllOuts, Free.At, al1, al2, al3, al4, al5, and_true] at hO hD; simp only [Free2.AllX, and_true] at hax; obtain ⟨u9, hu9, ho9⟩ := hD.2.1; obtain ⟨q9, c9, rfl⟩ := row_slice ho9; have hXe := hax.2.1; rw [hu9] at hXe; obtain ⟨b9, hb9, hs9, h39, _⟩ := hj.new _ hax.1; obtain ⟨x0, y0, h59⟩ := h39 hx; have hXa := hax.1; rw [hb9] at hXa; have c0 := cell_of_heap (o := 0) h59 rfl; have c1 := cell_of_heap (o := 1) h59 rfl; have f0 := frozen_of_heap (o := 0) h59; have f1 := frozen_of_heap (o := 1) h59; go_simp; exact ⟨RQt.trans (RQt.set hs9 h59) (RQt.set hs9 (heap_setCell_same (o := 0) _ h59)), JK.put hj hx hXa hXe (by decide) (by decide)⟩)
        simp only [an1, an2]
        refine Free2.Chain.ex ?_ 9 rfl [(6, 73), (0, 68), (1, 69), (2, 70), (3, 71), (4, 67), (5, 72), (6, 73), (7, 8)] [] (by kernel_rfl) (by kernel_rfl) rfl (RQt.refl _ _) (fun X W v h => JK.skip h 9 v (by decide) (by decide) (fun e => absurd e (by decide))) ?_ ?_
        rotate_left
        · (intro ev W hb hR hO hD; have hS := hF W hR; obtain ⟨hb1, hb2, hb3⟩ := hb; simp only [Free.AllDeps, Free.AllOuts, Free.At, al1, al2, al3, al4, al5, and_true] at hO hD; go_simp; rfl)
        simp only [an1, an2]
        intro ys w5 hR hV hX
        obtain ⟨X, hj, hxx⟩ := hX
        simp only [Free.AllV, Free.At, List.length_cons, List.length_nil, Nat.reduceAdd, List.getElem?_cons_succ, List.getElem?_cons_zero, true_and, and_true] at hV
        obtain ⟨bB, hbB, hsB, -, h4B⟩ := hj.new _ (hxx 7 (by decide))
        obtain ⟨xB, yB, hexB, hblB⟩ := h4B (by rw [hxx 8 (by decide)]; simp)
        have hvW : AftW w4.heap.size (h) (YY) (ys 5) w5 := hV.1.1.2
        obtain ⟨uB, huB, hoB⟩ := hvW
        have hxy : Value.agg #[xB, yB] = .agg #[.int .i64 (h), uB] := by
          rw [← huB]
          exact (Option.some.inj ((hxx 5 (by decide)).symm.trans hexB)).symm
        obtain ⟨rfl, rfl⟩ : xB = .int .i64 (h) ∧ yB = uB := by simpa using hxy
        simp only [Free.putsFrom, Act.put, Nat.zero_add, Nat.reduceAdd, hV, hbB, List.setIfInBounds_toArray, List.set_cons_succ, List.set_cons_zero]
        have KN : Free.Bel w4 w5 := FBW w5 hR
        have HK5 := Lib.hid (bt HK4.out KN)
        have HBB := Lib.hid (And.intro hblB hoB)
        have y8 : w5.cell? ⟨bB, 0, none⟩ = some (.int .i64 (h)) := cell_of_heap (o := 0) hblB rfl
        have y9 : w5.cell? ⟨bB, 1, none⟩ = some yB := cell_of_heap (o := 1) hblB rfl
        clear hR hV hj hxx hF FBW hexB hblB hoB hsB h4B huB hxy hbB HAFT KN
        go_wp2_with fail
        refine (canP_v h YY yB w5 (HTAB.out.bel (bt HKB.out HK5.out)) (RL.of_row rfl (by have := (watchB_iff.1 HY.out.2.2.2.1).2.1; unfold maxLen; omega) HBB.out.2) 0 true (by rw [HY.out.2.2.2.1, HY.out.2.2.2.2]; exact ⟨rfl, rfl⟩)).mono ?_
        rintro e w6 ⟨rfl, hB6⟩
        have HK6 := Lib.hid (bt HK5.out hB6)
        clear hB6 y8 y9
        have K6 := HK6.out
        have HK4 := HK6
        obtain ⟨H2, hH2⟩ : ∃ y, aftH h xs (List.replicate (n + 1) []) = y := ⟨_, rfl⟩
        obtain ⟨L2, hL2⟩ : ∃ y, aftL h xs (List.replicate (n + 1) []) = y := ⟨_, rfl⟩
        obtain ⟨E2, hE2⟩ : ∃ y, aftE h xs (List.replicate (n + 1) []) = y := ⟨_, rfl⟩
        have HZ2 := Lib.hid (And.intro hE2 (And.intro hH2 hL2))
        clear hE2 hH2 hL2
        have hnw : IntKind.i64.wrap ((n : Int) + 1) = (n : Int) + 1 := IntWalk.i64_in _ (by omega)
        go_wp2_with fail
        have FBW : ∀ W', RQt 24 w6.heap.size w6.drew W' → Free.Bel w6 W' := fun W' hR => bt (Bel.drewT (Free.Bel.refl _)) (show Free.Bel w6.drew W' from hR.below)
        have hF : ∀ W', RQt 24 w6.heap.size w6.drew W' → (W'.cell? ⟨w.heap.size, 0, none⟩ = some (.int .i64 h) ∧ W'.cell? ⟨w.heap.size, 1, none⟩ = some (.slice p xs.length cp)) := fun W' hR => FA W' (bt HK6.out (FBW W' hR))
        have HAFT : Hid (∀ W', Free.Bel w6 W' → ∀ v, NilD (n + 1) v W' → Calls Tryd.prog 23 #[.agg #[.int .i64 h, .slice p xs.length cp], v] W' fun e w' => (∃ u, e = .returned (.tuple #[.agg #[.int .i64 (H2), u], .int .i64 (E2)]) ∧ w'.ownsRow W'.heap.size 47 3 u (L2).length (cellsR (L2))) ∧ Below W'.heap.size W' w') := fun W' hW v hv => by
          have h9 := aftP_any h xs (List.replicate (n + 1) []) _ v W' (HTAB.out.bel (bt HKB.out (bt HK6.out hW))) (HU.out.keeps (bt HKB.out (bt HK6.out hW))) HNZ.out (hv.dl (by have := HN5.out; unfold maxLen; omega)) (by have := HN5.out; simp; omega)
          rw [HZ2.out.1, HZ2.out.2.1, HZ2.out.2.2] at h9
          exact h9
        refine Free2.wp_free (R := RQt 24 w6.heap.size) (J := JK 24 w6.heap.size 6 8 9) (by kernel_rfl) (by kernel_rfl) (RQt.refl _ _) (fun _ _ _ => RQt.trans) (JK.start (Nat.le_refl _)) ?_
        refine Free2.Chain.ex ?_ 0 rfl [] [1] (by kernel_rfl) (by kernel_rfl) rfl (RQt.refl _ _) (fun X W v h => JK.skip h 0 v (by decide) (by decide) (fun e => absurd e (by decide))) ?_ ?_
        rotate_left
        · (intro ev W hb hR hO hD; have hS := hF W hR; obtain ⟨hb1, hb2, hb3⟩ := hb; simp only [Free.AllDeps, Free.AllOuts, Free.At, al1, al2, al3, al4, al5, and_true] at hO hD; go_simp; rfl)
        simp only [an1, an2]
        refine Free2.Chain.ex ?_ 1 rfl [] [4] (by kernel_rfl) (by kernel_rfl) rfl (RQt.refl _ _) (fun X W v h => JK.skip h 1 v (by decide) (by decide) (fun e => absurd e (by decide))) ?_ ?_
        rotate_left
        · (intro ev W hb hR hO hD; have hS := hF W hR; obtain ⟨hb1, hb2, hb3⟩ := hb; simp only [Free.AllDeps, Free.AllOuts, Free.At, al1, al2, al3, al4, al5, and_true] at hO hD; go_simp; rfl)
        simp only [an1, an2]
        refine Free2.Chain.ex ?_ 2 rfl [(1, 91)] [] (by kernel_rfl) (by kernel_rfl) rfl (RQt.refl _ _) (fun X W v h => JK.skip h 2 v (by decide) (by decide) (fun e => absurd e (by decide))) ?_ ?_
        rotate_left
        · (intro ev W hb hR hO hD; have hS := hF W hR; obtain ⟨hb1, hb2, hb3⟩ := hb; simp only [Free.AllDeps, Free.AllOuts, Free.At, al1, al2, al3, al4, al5, and_true] at hO hD; go_simp; rfl)
        simp only [an1, an2]
        refine Free2.Chain.pr (NilD (n + 1)) 3 rfl [(2, 92), (2, 92)] [] (by kernel_rfl) (by kernel_rfl) rfl (NilD.stable _ _) ?_ ?_
        · (intro ev W X hb hR hO hD hj hx hax; have hS := hF W hR; obtain ⟨hb1, hb2, hb3⟩ := hb; simp only [Free.AllDeps, Free.AllOuts, Free.At, al1, al2, al3, al4, al5, and_true] at hO hD; simp only [Free2.AllX, and_true] at hax; obtain ⟨cs, hmk, hcs⟩ := makeD (n + 1) (by have := HN5.out; omega) W; have hmk2 := hmk; push_cast at hmk2; go_simp; exact ⟨RQt.of_bel (belAlloc _ _) hj.size, ⟨W.heap.size, cs, rfl, World.alloc_heap_new _ _, hcs⟩, JK.skip (JK.bel hj (belAlloc _ _)) 3 _ (by decide) (by decide) (fun e => absurd e (by decide))⟩)
        simp only [an1, an2]
        refine Free2.Chain.pr (AftV w6.heap.size (H2) (L2) (E2)) 4 rfl [(0, 90), (3, 93)] [] (by kernel_rfl) (by kernel_rfl) rfl (AftV.stable _ _ _ _ _) ?_ ?_
        · (intro ev W X hb hR hO hD hj hx hax; have hS := hF W hR; obtain ⟨hb1, hb2, hb3⟩ := hb; simp only [Free.AllDeps, Free.AllOuts, Free.At, al1, al2, al3, al4, al5, and_true] at hO hD; simp only [Free2.AllX, and_true] at hax; have hb := FBW W hR; have hnd := hD.2; go_simp; refine yields_enter ?_; (with_reducible refine (HAFT.out W hb _ hnd).mono ?_); rintro e W2 ⟨⟨u9, rfl, ho9⟩, hB2⟩; exact ⟨_, rfl, RQt.of_bel hB2 hj.size, ⟨u9, rfl, row_mono ho9 hj.size⟩, JK.skip (JK.bel hj hB2) 4 _ (by decide) (by decide) (fun e => absurd e (by decide))⟩)
        simp only [an1, an2]
        refine Free2.Chain.pr (AftV w6.heap.size (H2) (L2) (E2)) 5 rfl [(4, 94)] [] (by kernel_rfl) (by kernel_rfl) rfl (AftV.stable _ _ _ _ _) ?_ ?_
        · (intro ev W X hb hR hO hD hj hx hax; have hS := hF W hR; obtain ⟨hb1, hb2, hb3⟩ := hb; simp only [Free.AllDeps, Free.AllOuts, Free.At, al1, al2, al3, al4, al5, and_true] at hO hD; simp only [Free2.AllX, and_true] at hax; obtain ⟨u9, hu9, ho9⟩ := hD; go_simp; exact ⟨RQt.refl _ _ _, ⟨u9, rfl, ho9⟩, JK.skip hj 5 _ (by decide) (by decide) (fun e => absurd e (by decide))⟩)
        simp only [an1, an2]
        refine Free2.Chain.pr (AftW w6.heap.size (H2) (L2)) 6 rfl [(5, 89)] [] (by kernel_rfl) (by kernel_rfl) rfl (AftW.stable _ _ _ _) ?_ ?_
        · (intro ev W X hb hR hO hD hj hx hax; have hS := hF W hR; obtain ⟨hb1, hb2, hb3⟩ := hb; simp only [Free.AllDeps, Free.AllOuts, Free.At, al1, al2, al3, al4, al5, and_true] at hO hD; simp only [Free2.AllX, and_true] at hax; obtain ⟨u9, hu9, ho9⟩ := hD; go_simp; exact ⟨RQt.refl _ _ _, ⟨u9, rfl, ho9⟩, JK.skip hj 6 _ (by decide) (by decide) (fun _ => hx)⟩)
        simp only [an1, an2]
        refine Free2.Chain.pr (fun v _ => v = .int .i64 (E2)) 7 rfl [(5, 89)] [] (by kernel_rfl) (by kernel_rfl) rfl (fun _ _ _ _ h => h) ?_ ?_
        · (intro ev W X hb hR hO hD hj hx hax; have hS := hF W hR; obtain ⟨hb1, hb2, hb3⟩ := hb; simp only [Free.AllDeps, Free.AllOuts, Free.At, al1, al2, al3, al4, al5, and_true] at hO hD; simp only [Free2.AllX, and_true] at hax; obtain ⟨u9, hu9, ho9⟩ := hD; go_simp; first | exact ⟨RQt.refl _ _ _, rfl, JK.skip hj 7 _ (by decide) (by decide) (fun e => absurd e (by decide))⟩ | exact ⟨RQt.refl _ _ _, JK.skip hj 7 _ (by decide) (by decide) (fun e => absurd e (by decide))⟩)
        simp only [an1, an2]
        refine Free2.Chain.pr (fun _ _ => True) 8 rfl [] [] (by kernel_rfl) (by kernel_rfl) rfl (fun _ _ _ _ h => h) ?_ ?_
        · (intro ev W X hb hR hO hD hj hx hax; have hS := hF W hR; obtain ⟨hb1, hb2, hb3⟩ := hb; simp only [Free.AllDeps, Free.AllOuts, Free.At, al1, al2, al3, al4, al5, and_true] at hO hD; simp only [Free2.AllX, and_true] at hax; go_simp; exact ⟨RQt.of_bel (belAlloc _ _) hj.size, JK.made hj hx (belAlloc _ _) hj.size (World.alloc_heap_new _ _) (by decide)⟩)
        simp only [an1, an2]
        refine Free2.Chain.pr (fun _ _ => True) 9 rfl [(8, 12), (6, 95), (4, 94), (0, 90), (1, 91), (2, 92), (3, 93), (4, 94), (5, 89), (6, 95), (8, 12)] [] (by kernel_rfl) (by kernel_rfl) rfl (fun _ _ _ _ h => h) ?_ ?_
        · (intro ev W X hb hR hO hD hj hx hax; have hS := hF W hR; obtain ⟨hb1, hb2, hb3⟩ := hb; simp only [Free.AllDeps, Free.AllOuts, Free.At, al1, al2, al3, al4, al5, and_true] at hO hD; simp only [Free2.AllX, and_true] at hax; obtain ⟨u9, hu9, ho9⟩ := hD.2.1; obtain ⟨q9, c9, rfl⟩ := row_slice ho9; have hXe := hax.2.1; rw [hu9] at hXe; obtain ⟨b9, hb9, hs9, h39, _⟩ := hj.new _ hax.1; obtain ⟨x0, y0, h59⟩ := h39 hx; have hXa := hax.1; rw [hb9] at hXa; have c0 := cell_of_heap (o := 0) h59 rfl; have c1 := cell_of_heap (o := 1) h59 rfl; have f0 := frozen_of_heap (o := 0) h59; have f1 := frozen_of_heap (o := 1) h59; go_simp; exact ⟨RQt.trans (RQt.set hs9 h59) (RQt.set hs9 (heap_setCell_same (o := 0) _ h59)), JK.put hj hx hXa hXe (by decide) (by decide)⟩)
        simp only [an1, an2]
        refine Free2.Chain.ex ?_ 10 rfl [(7, 96), (0, 90), (1, 91), (2, 92), (3, 93), (4, 94), (5, 89), (6, 95), (7, 96), (8, 12)] [] (by kernel_rfl) (by kernel_rfl) rfl (RQt.refl _ _) (fun X W v h => JK.skip h 10 v (by decide) (by decide) (fun e => absurd e (by decide))) ?_ ?_
        rotate_left
        · (intro ev W hb hR hO hD; have hS := hF W hR; obtain ⟨hb1, hb2, hb3⟩ := hb; simp only [Free.AllDeps, Free.AllOuts, Free.At, al1, al2, al3, al4, al5, and_true] at hO hD; go_simp; rfl)
        simp only [an1, an2]
        intro ys w7 hR hV hX
        obtain ⟨X, hj, hxx⟩ := hX
        simp only [Free.AllV, Free.At, List.length_cons, List.length_nil, Nat.reduceAdd, List.getElem?_cons_succ, List.getElem?_cons_zero, true_and, and_true] at hV
        obtain ⟨bB, hbB, hsB, -, h4B⟩ := hj.new _ (hxx 8 (by decide))
        obtain ⟨xB, yB, hexB, hblB⟩ := h4B (by rw [hxx 9 (by decide)]; simp)
        have hvW : AftW w6.heap.size (H2) (L2) (ys 6) w7 := hV.1.1.2
        obtain ⟨uB, huB, hoB⟩ := hvW
        have hxy : Value.agg #[xB, yB] = .agg #[.int .i64 (H2), uB] := by
          rw [← huB]
          exact (Option.some.inj ((hxx 6 (by decide)).symm.trans hexB)).symm
        obtain ⟨rfl, rfl⟩ : xB = .int .i64 (H2) ∧ yB = uB := by simpa using hxy
        simp only [Free.putsFrom, Act.put, Nat.zero_add, Nat.reduceAdd, hV, hbB, List.setIfInBounds_toArray, List.set_cons_succ, List.set_cons_zero]
        have KN : Free.Bel w6 w7 := FBW w7 hR
        have HK7 := Lib.hid (bt HK6.out KN)
        have HBB := Lib.hid (And.intro hblB hoB)
        have y8 : w7.cell? ⟨bB, 0, none⟩ = some (.int .i64 (H2)) := cell_of_heap (o := 0) hblB rfl
        have y9 : w7.cell? ⟨bB, 1, none⟩ = some yB := cell_of_heap (o := 1) hblB rfl
        clear hR hV hj hxx hF FBW hexB hblB hoB hsB h4B huB hxy hbB HAFT KN
        have hL4 : L2.length ≤ 4 := by
          rw [← HZ2.out.2.2]
          unfold aftL
          split
          · rw [endR_idle, List.length_map]; have := (watchB_iff.1 HW.out).2.1; omega
          · simp
        obtain ⟨c2, hc2⟩ : ∃ c : Int, (if watchB H2 L2 = true then 0 else 70) = c := ⟨_, rfl⟩
        obtain ⟨r2, hr2⟩ : ∃ c, (watchB H2 L2 && everB H2 L2) = c := ⟨_, rfl⟩
        have HCR := Lib.hid (And.intro hc2 hr2)
        clear hc2 hr2 K6
        go_wp2_with fail
        refine (canP_v H2 L2 yB w7 (HTAB.out.bel (bt HKB.out HK7.out)) (RL.of_row rfl (by unfold maxLen; omega) HBB.out.2) c2 r2 HCR).mono ?_
        rintro e w8 ⟨rfl, hB8⟩
        have K8 : Free.Bel (w.alloc (.cells #[.int .i64 h, .slice p xs.length cp] 24)) w8 := bt HK7.out hB8
        have HK8 := Lib.hid K8
        clear hB8 y8 y9
        go_wp2_with fail
        refine (todayP_v h xs _ w8 (HTAB.out.bel (bt HKB.out HK8.out)) (HU.out.keeps (bt HKB.out HK8.out)) 0 (by show _ = _; unfold goE; simp [HW.out, HR.out])).mono ?_
        rintro e w9 ⟨hS, hB9⟩
        have HB := Lib.hid (bt HKB.out (bt HK8.out hB9))
        obtain ⟨vd, rfl, bd, hrd⟩ : ∃ v, e = .returned (.tuple #[v, .int .i64 0]) ∧ DayR (stepE h xs) v w9 := by
          rcases hS with ⟨h9, _⟩ | ⟨_, h9⟩
          · exact absurd rfl h9
          · exact h9
        obtain ⟨qd, cd, rfl⟩ := row_slice hrd
        have hst := spare_today HW.out HR.out HSP.out.1
        obtain ⟨d, hd⟩ : ∃ y, stepE h xs = y := ⟨_, rfl⟩
        rw [hd] at hst
        have hdn : (n = 0 ∧ ((d.length : Int) == 0) = false ∧ ¬ (0 < (n : Int))) ∨ (((d.length : Int) == 0) = true ∧ 0 < (n : Int)) := by
          rcases Nat.eq_zero_or_pos n with h0 | h0
          · refine .inl ⟨h0, ?_, by omega⟩
            cases d with
            | nil => have := hst.1 rfl; omega
            | cons a r => simp; omega
          · refine .inr ⟨?_, by omega⟩
            rw [hst.2 h0]
            rfl
        have hcase : E2 = 73 ∨ (E2 = 0 ∧ c2 = 0 ∧ r2 = false) := by
          obtain ⟨e1, e2, e3⟩ := HZ2.out
          obtain ⟨f1, f2⟩ := HCR.out
          by_cases hc : ∀ k, 0 < k → k ≤ n + 1 → coolB (endR xs (List.replicate k [])) = true
          · obtain ⟨a1, a2, a3⟩ := aft_idle HW.out (show n + 1 ≤ 60 by omega) hc
            have hwL : watchB H2 L2 = true := by rw [← e2, ← e3, a2, a3]; exact watch_idle (n + 1) HW.out hc
            refine .inr ⟨by rw [← e1, a1], by rw [← f1, if_pos hwL], ?_⟩
            rw [← f2, hwL, Bool.true_and, ← e2, ← e3, a2, a3]
            cases he : everB h (endR xs (List.replicate (n + 1) [])) with
            | false => rfl
            | true => exact absurd ⟨hc (n + 1) (by omega) (Nat.le_refl _), he⟩ HSP.out.1.2
          · exact .inl (by rw [← e1]; exact aft_hot HW.out (by omega) hc)
        clear hS hB9 hrd hst hL4 K8
        rw [hd]
        clear hd
        rcases hcase with rfl | ⟨rfl, rfl, rfl⟩
        · clear HCR HZ2
          rcases hdn with ⟨g0, g1, g2⟩ | ⟨g1, g2⟩
          · have G0 := Lib.hid g0
            clear g0
            go_wp2_with fail
            go_ret
            have g0 := G0.out
            refine ⟨?_, HB.out⟩
            simp [g1, g2] <;> omega
          · go_wp2_with fail
            go_ret
            refine ⟨?_, HB.out⟩
            simp [g1, g2] <;> omega
        · clear HCR HZ2
          rcases hdn with ⟨g0, g1, g2⟩ | ⟨g1, g2⟩
          · have G0 := Lib.hid g0
            clear g0
            go_wp2_with fail
            go_ret
            have g0 := G0.out
            refine ⟨?_, HB.out⟩
            simp [g1, g2] <;> omega
          · go_wp2_with fail
            go_ret
            refine ⟨?_, HB.out⟩
            simp [g1, g2] <;> omega
end Go.Proofs.YtknpglgpkkhhiaaDoor

/- For every input the law RoundSpare returns true, and its arguments read behind the call as they read before; what a watch is asked lies in the table as the program's text lays it (tied). Condition: that table. -/
namespace Go.Proofs.YtknpglgpkkhhiaaDoor.lawRoundSpare
open Go Go.ChangeShapes Go.WideShapes Go.ChangeAt Go.RowKit
set_option linter.unusedVariables false
set_option linter.unusedSimpArgs false

set_option maxRecDepth 100000 in
theorem contract (H : Type) (enc : TypeId × Value → H) (W : World) (base : Nat) (args : Array Value) (ds gs : List (DataW H)) (before : List MemPlace)
    (hval : ∀ (j : Nat) t v, Tryd.f14.params[j]? = some t → args[j]? = some v → Value.okWide Tryd.prog W .any base t v)
    (hW : DataW.Whole enc Tryd.prog Tryd.f14.params.toList Rows.roundSpareSpec.vars false W args.toList ds gs before) (hL : laidMetH Tryd.prog Rows.roundSpareRow.laid W) :
    Calls Tryd.prog 14 args W fun e W' => ∃ v, e = .returned v ∧ Rows.roundSpareSpec.post enc Tryd.prog Tryd.f14 false true false false W args v W' := by
  have hW' := hW
  obtain ⟨p, q, hA0, hV, rfl, hfz, hnd⟩ := hW
  have hA : DataW.TrodAll enc Tryd.prog W 0 (fun _ => true) true Tryd.f14.params.toList args.toList ds p := hA0
  have hAk := hA
  rw [Tryd.params14] at hA hval
  obtain ⟨v0, vs0, d0, ds0, p0, q0, hargs, rfl, rfl, h0, r0⟩ := trodAll_cons hA
  obtain ⟨rfl, rfl, rfl⟩ := trodAll_nil r0
  obtain rfl : args = #[v0] := by cases args; simp_all
  obtain ⟨rfl, rfl⟩ := trodVars_none hV
  have hlt : ∀ x ∈ p0 ++ ([]), x.block < W.heap.size := fun x hx => by
    have := hW'.lt x (by simpa using hx)
    simpa using this
  obtain ⟨a0, b0, y0, z0, n0, rfl, _, _, g0, k0⟩ := Joins.open_agg2 Tryd.underlying24 (by kernel_rfl) (by kernel_rfl) (hval 0 24 _ rfl rfl) h0
  obtain ⟨h, ea0, _, _⟩ := DataW.trod_int Tryd.underlying3 g0
  simp at ea0
  subst ea0
  obtain ⟨xs, pp0, cap0, eb0, hrl0, hnz0⟩ := ricks_open Tryd.underlying22 Tryd.underlying47 (by kernel_rfl) rfl rfl rfl (by kernel_rfl) (by kernel_rfl) (by kernel_rfl) Tryd.underlying3 Tryd.underlying3 Tryd.underlying3 k0
  refine (spareL_walk h xs _ W (Tab.of_laid hL) hrl0 hnz0).mono fun e W' ⟨he, hg⟩ => ?_
  subst he
  refine ⟨_, rfl, _, _, _, [], p0 ++ ([]), [], hW', ?_, ?_, ?_, hg.frame _, fun h => by cases h⟩
  · exact trodAll_cons_mk (shut_bool Tryd.underlying4 true) trodAll_mk0
  · exact Law.args_below Tab.laidOut (by kernel_rfl) hg hAk hlt
  · rfl

set_option maxRecDepth 100000 in
theorem lifted (os : Os) (started : os.Started) (H : Type) (enc : TypeId × Value → H) :
    ReturnsInHanded {} Tryd.checked os 14 .any (fun w args => (Rows.roundSpareSpec.pre enc Tryd.prog Tryd.f14 [] false w args ∧ laidMetH Tryd.prog Rows.roundSpareRow.laid w) ∧ sizedMet enc Tryd.prog Tryd.f14 (OpenSpec.ofChange Rows.roundSpareSpec) false w args) (Rows.roundSpareSpec.post enc Tryd.prog Tryd.f14 false true false false) := by
  refine returnsInHanded_of_change_and (C := Tryd.checked) (X := fun w _ => laidMetH Tryd.prog Rows.roundSpareRow.laid w) (fun _ _ _ hh h => h.of_heap hh) Tab.own started (by kernel_rfl) Tryd.func14
    (ChangeSpec.witness_shaped (enc := enc) (C := Tryd.checked) (os := os) (X := fun w _ => laidMetH Tryd.prog Rows.roundSpareRow.laid w) false (World.doorLaid Tryd.prog 17 os) #[.agg #[.int .i64 0, .slice none 0 0]] 8 rfl (World.shaped_of_RefB (by kernel_rfl) (by kernel_rfl)) (by kernel_rfl) (by kernel_rfl) (by kernel_rfl) (Tab.door_met os _)) ?_
  intro W base args ds gs before hval hW _ _ hL _
  exact contract H enc W base args ds gs before hval hW hL

theorem said : Rows.RoundSpareSaid :=
  OpenClaim.holds_of_wide 14 Tryd.f14 rfl rfl rfl rfl rfl rfl rfl ⟨rfl, rfl, rfl, rfl, rfl⟩ rfl rfl rfl rfl rfl (by kernel_rfl) Tryd.func14 (by kernel_rfl)
    (of_decide_eq_true (by kernel_rfl)) (by unfold Func.isWrapper; first | (rw [if_pos (by decide +kernel)]; kernel_rfl) | (rw [if_neg (by decide +kernel)]; exact ⟨rfl, rfl⟩))
    (fun os started H enc _ => lifted os started H enc)

theorem plain (f : FuncId) (fn : Func) (hf : Tryd.pinned.checked.prog.funcNamed "oilcake/oilcakelaw07.RoundSpare" = some f) (hfn : Tryd.pinned.checked.prog.funcs[f]? = some fn) :
    false = Tryd.pinned.checked.prog.looks [] ∧ ∀ (j : Nat) t, fn.params[j]? = some t → Tryd.pinned.checked.prog.wantsStandIn t = false := by
  obtain rfl : f = 14 := Option.some.inj ((show Tryd.prog.funcNamed "oilcake/oilcakelaw07.RoundSpare" = some 14 by kernel_rfl).symm.trans hf) |>.symm
  obtain rfl : fn = Tryd.f14 := (Option.some.inj (Tryd.func14.symm.trans hfn)).symm
  refine ⟨by kernel_rfl, fun j t ht => ?_⟩
  rw [Tryd.params14] at ht
  have hm := Array.mem_of_getElem? ht
  have hall : (Tryd.f14.params.toList.all fun u => !Tryd.prog.wantsStandIn u) = true := by kernel_rfl
  rw [Tryd.params14] at hall
  exact (show Tryd.prog.wantsStandIn t = false by simpa using List.all_eq_true.1 hall t (by simpa using hm))

theorem card : Rows.RoundSpareCardSaid :=
  Claim7.holds_tied_plain_at .later [] _ _ _ _ said (fun _ h => by cases h) (by kernel_rfl) (fun _ h => by cases h) roundSpare_row_tie rfl ⟨rfl, rfl⟩ (by kernel_rfl) rfl plain (by kernel_rfl)
#print axioms card
end Go.Proofs.YtknpglgpkkhhiaaDoor.lawRoundSpare

