/- For every input the law RoundGoes returns true, and its arguments read behind the call as they read before; what a watch is asked lies in the table as the program's text lays it (tied). Condition: that table. -/
/- Plain law for chapter 07's last laws: turnings by numbers, days in two parts, days that repeat, the longest days, the plan. -/
import Derived.Test.YtknpglgpkkhhiaaDoorB8
import Derived.Laws.AppendOwnNone
import Derived.Deep.DeepCutAuto
import Derived.Test.YtknpglgpkkhhiaaDoorProg
import Derived.ChangeShapes
namespace Go.Proofs.YtknpglgpkkhhiaaDoor
set_option linter.unusedSimpArgs false
set_option linter.unusedVariables false

/-! ### Turnings by a number -/
/-- A part of the ricks ahead of the one with index k, not more than the hands. -/
def TurnK (h : Int) (xs : List Rk) (k : Nat) (l : List Int) : Prop := (l.length : Int) ≤ h ∧ l.Pairwise (· < ·) ∧ ∀ a ∈ l, ∃ i, i < k ∧ i < xs.length ∧ idAt xs i = a
theorem TurnK.zero {h : Int} {xs : List Rk} (h0 : 0 ≤ h) : TurnK h xs 0 [] := ⟨by simpa using h0, .nil, fun a ha => by cases ha⟩
theorem TurnK.skip {h : Int} {xs : List Rk} {k : Nat} {l : List Int} (H : TurnK h xs k l) : TurnK h xs (k + 1) l :=
  ⟨H.1, H.2.1, fun a ha => let ⟨i, h1, h2, h3⟩ := H.2.2 a ha; ⟨i, by omega, h2, h3⟩⟩
theorem TurnK.add {h : Int} {xs : List Rk} {k : Nat} {l : List Int} (hw : watchB h xs = true) (H : TurnK h xs k l) (hk : k < xs.length) (hl : (l.length : Int) < h) : TurnK h xs (k + 1) (l ++ [xs[k].1]) := by
  obtain ⟨_, _, h3⟩ := watchB_iff.1 hw
  have e : idAt xs k = xs[k].1 := by simp [idAt, hk]
  refine ⟨by simp; omega, ?_, fun a ha => ?_⟩
  · rw [List.pairwise_append]
    refine ⟨H.2.1, List.pairwise_singleton _ _, fun a ha b hb => ?_⟩
    obtain ⟨i, h1, h2, rfl⟩ := H.2.2 a ha
    obtain rfl : b = xs[k].1 := by simpa using hb
    rw [← e]
    exact (idAt_mono h3 i k h2 hk).2.2 h1
  · rcases List.mem_append.1 ha with ha | ha
    · obtain ⟨i, h1, h2, h4⟩ := H.2.2 a ha
      exact ⟨i, by omega, h2, h4⟩
    · obtain rfl : a = xs[k].1 := by simpa using ha
      exact ⟨k, by omega, hk, e⟩
theorem TurnK.turn {h : Int} {xs : List Rk} {k : Nat} {l : List Int} (hw : watchB h xs = true) (H : TurnK h xs k l) : turnB h xs l = true := by
  obtain ⟨_, _, h3⟩ := watchB_iff.1 hw
  unfold turnB
  rw [Bool.and_eq_true, decide_eq_true_eq]
  refine ⟨H.1, turnF_of_mem H.2.1 fun a ha => ?_⟩
  obtain ⟨i, h1, h2, rfl⟩ := H.2.2 a ha
  exact ⟨idAt_pos h3 h2, hasR_idAt.2 ⟨i, h2, rfl⟩⟩
theorem turnB_ids {h : Int} {xs ys : List Rk} (e : ys.map (·.1) = xs.map (·.1)) : turnB h ys = turnB h xs := by
  funext q; unfold turnB; rw [turnF_ids e]

/-! ### Whether no rick becomes hot -/
def coolD (xs : List Rk) (ds : List (List Int)) : Bool := (heatR 0 xs ds).isEmpty
theorem coolD_iff {xs : List Rk} {ds : List (List Int)} : coolD xs ds = true ↔ ∀ x ∈ xs, coolW x ds = true := heat_empty xs ds
theorem coolD_cons {xs : List Rk} {d : List Int} {r : List (List Int)} : coolD xs (d :: r) = true ↔ coolB (dayR d xs) = true ∧ coolD (dayR d xs) r = true := by
  rw [coolD_iff, coolD_iff, cool_mem]
  constructor
  · intro H
    refine ⟨fun x hx => ?_, fun z hz => ?_⟩
    · have := H x hx
      simp only [coolW, Bool.and_eq_true, bne_iff_ne] at this
      exact this.1
    · obtain ⟨x, hx, rfl⟩ := List.mem_map.1 hz
      have := H x hx
      simp only [coolW, Bool.and_eq_true, bne_iff_ne] at this
      exact this.2
  · rintro ⟨h1, h2⟩ x hx
    simp only [coolW, Bool.and_eq_true, bne_iff_ne]
    exact ⟨h1 x hx, h2 _ (List.mem_map.2 ⟨x, hx, rfl⟩)⟩
theorem coolD_append {xs : List Rk} : ∀ {a b : List (List Int)}, coolD xs (a ++ b) = true ↔ coolD xs a = true ∧ coolD (endR xs a) b = true := by
  intro a
  induction a generalizing xs with
  | nil => intro b; simp [coolD, heatR, endR]
  | cons d r ih => intro b; rw [List.cons_append, coolD_cons, coolD_cons, ih]; simp only [endR, and_assoc]
theorem aft_cool {h : Int} {xs : List Rk} {ds : List (List Int)} (ha : askE h xs ds = 0) (hc : coolD xs ds = true) : aftE h xs ds = 0 ∧ aftH h xs ds = h ∧ aftL h xs ds = endR xs ds := by
  have h1 : aftE h xs ds = 0 := by unfold aftE; rw [if_pos ha, if_pos (show (heatR 0 xs ds).isEmpty = true from hc)]
  exact ⟨h1, by rw [aftH, if_pos h1], by rw [aftL, if_pos h1]⟩
theorem aft_warm {h : Int} {xs : List Rk} {ds : List (List Int)} (ha : askE h xs ds = 0) (hc : coolD xs ds = false) : aftE h xs ds = 73 ∧ aftH h xs ds = 0 ∧ aftL h xs ds = [] := by
  have h1 : aftE h xs ds = 73 := by unfold aftE; rw [if_pos ha, if_neg (by unfold coolD at hc; rw [hc]; simp)]
  exact ⟨h1, by rw [aftH, h1]; rfl, by rw [aftL, h1]; rfl⟩
theorem ask_valid {h : Int} {xs : List Rk} {ds : List (List Int)} (hw : watchB h xs = true) (hl : ds.length ≤ 60) (hv : ds.all (turnB h xs) = true) : askE h xs ds = 0 := askE_zero.2 ⟨hw, by simp [validB, hl]; simpa using hv⟩

/-! ### Days in two parts -/
/-! ### Days that repeat -/
/-! ### The longest days -/
/-! ### The plan -/
theorem plan_state {h : Int} {xs : List Rk} (hw : watchB h xs = true) (he : everB h xs = true) : ∀ n, watchB h (planS h xs n) = true ∧ everB h (planS h xs n) = true ∧ (planS h xs n).map (·.1) = xs.map (·.1)
  | 0 => ⟨hw, he, rfl⟩
  | n + 1 => by
    obtain ⟨h1, h2, h3⟩ := plan_state hw he n
    obtain ⟨_, h5, h6, h7⟩ := ever_step h2
    exact ⟨watch_day h1 h6, h7, (dayR_ids _ _).trans h3⟩
theorem plan_turn {h : Int} {xs : List Rk} (hw : watchB h xs = true) (he : everB h xs = true) (k : Nat) : turnB h xs (stepE h (planS h xs k)) = true := by
  obtain ⟨h1, h2, h3⟩ := plan_state hw he k
  obtain ⟨_, h5, _, _⟩ := ever_step h2
  rw [← turnB_ids h3]
  exact (mem_daysL h1).1 h5
theorem plan_valid {h : Int} {xs : List Rk} (hw : watchB h xs = true) (he : everB h xs = true) (n : Nat) : (planL h xs n).all (turnB h xs) = true := by
  rw [List.all_eq_true]
  intro d hd
  simp only [planL, List.mem_map, List.mem_range] at hd
  obtain ⟨k, _, rfl⟩ := hd
  exact plan_turn hw he k
theorem plan_cool {h : Int} {xs : List Rk} (hw : watchB h xs = true) (he : everB h xs = true) : ∀ n, coolD xs (planL h xs n) = true
  | 0 => rfl
  | n + 1 => by
    rw [planL_succ, coolD_append, planS_end]
    refine ⟨plan_cool hw he n, coolD_cons.2 ⟨?_, rfl⟩⟩
    obtain ⟨h1, h2, h3⟩ := plan_state hw he n
    exact (ever_step h2).2.2.1
theorem plan_days {h : Int} {xs : List Rk} (i j : Nat) (hij : i ≤ j) : planL h xs i ++ planL h (planS h xs i) (j - i) = planL h xs j := by
  rw [← planL_add]; congr 1; omega
/-- What is before the plan's turnings leads nowhere. -/
theorem before_plan {h : Int} {xs : List Rk} (hw : watchB h xs = true) (he : everB h xs = true) {x : List Int} (hx : turnB h xs x = true) (hb : beforeL x (stepE h xs) = true) (hc : coolB (dayR x xs) = true) : everB h (dayR x xs) = false :=
  before_first hw (ever_step he).1 hx hb hc
end Go.Proofs.YtknpglgpkkhhiaaDoor

/- turnings, of chapter 07's laws: valid turnings by a number. -/
namespace Go.Proofs.YtknpglgpkkhhiaaDoor
set_option linter.unusedSimpArgs false
set_option linter.unusedVariables false
open Go.RowKit Go.Proofs.YtknpglgpkkhhiaaDoor.Free2 Go.Proofs.YtknpglgpkkhhiaaDoor.ML RR

set_option maxRecDepth 100000 in
set_option maxHeartbeats 8000000 in
theorem turns_any (h : Int) (xs : List Rk) (b : Int) (u : Value) (w : World) (hu : RL xs u w) (hw : watchB h xs = true) :
    Calls Tryd.prog 59 #[.agg #[.int .i64 h, u], .int .u8 b] w fun e w' => (∃ v l, e = .returned v ∧ turnB h xs l = true ∧ l.length ≤ 4 ∧ w'.ownsRow w.heap.size 3 1 v l.length (l.map (Value.int .i64))) ∧ Below w.heap.size w w' := by
  have HU := Lib.hid hu
  have HW := Lib.hid hw
  obtain ⟨p, cp, rfl, hm, hp⟩ := hu
  unfold maxLen at hm
  have HP := Lib.hid hp
  clear hp hw
  obtain ⟨i0, hi0, hz0, hz1, hz2⟩ := info_parts T.infoInt
  have HZ := Lib.hid (And.intro hi0 (And.intro hz0 (And.intro hz1 hz2)))
  clear hi0 hz0 hz1 hz2
  have hb0 : Free.Bel w (w.alloc (.cells #[.int .i64 h, .slice p xs.length cp] 24)) := belAlloc _ _
  have m0 : (w.alloc (.cells #[.int .i64 h, .slice p xs.length cp] 24)).heap[w.heap.size]? = some (.cells #[.int .i64 h, .slice p xs.length cp] 24 (0, 0)) := World.alloc_heap_new w _
  have HI := Lib.hid (And.intro hb0 (And.intro m0 (World.ownsRow_nil (w.alloc (.cells #[.int .i64 h, .slice p xs.length cp] 24)) (w.heap.size + 1) 3 1)))
  have n0 := cell_of_heap (o := 1) m0 rfl
  clear hb0 m0
  go_enter Tryd.func59, Tryd.ntmps59
  go_wp2_with fail
  clear n0
  go_loopw [11, 5] (fun i v wr => ∃ (k : Nat) (l : List Int), k ≤ xs.length ∧ i = .int .i64 k ∧ TurnK h xs k l ∧ Below w.heap.size w wr ∧ wr.heap[w.heap.size]? = some (.cells #[.int .i64 h, .slice p xs.length cp] 24 (0, 0)) ∧ wr.ownsRow (w.heap.size + 1) 3 1 v l.length (l.map (Value.int .i64))) (fun i _ _ => xs.length - (intOf i).toNat)
  case atStart => exact ⟨0, [], Nat.zero_le _, rfl, TurnK.zero (watchB_iff.1 HW.out).1.1, HI.out⟩
  case round =>
    obtain ⟨k, al, hk, rfl, hTK, hB, hT, how⟩ := hrel
    have HTK := Lib.hid hTK
    have hal3 : al.length ≤ 3 := by have h1 := HTK.out.1; have h2 := (watchB_iff.1 HW.out).1.2; omega
    clear hTK
    by_cases hlt : k < xs.length
    · have hx : xs ≠ [] := by intro e; simp [e] at hlt
      obtain ⟨b0, off, rfl, hcp⟩ := HP.out hx
      obtain ⟨d1, d2, d3⟩ := hcp k hlt
      have e1 := keepsB hB d1
      have e2 := keepsB hB d2
      have e3 := keepsB hB d3
      have hklt : (k : Int) < xs.length := by omega
      have hk4 : xs.length ≤ 4 := (watchB_iff.1 HW.out).2.1
      have hkw : IntKind.i64.wrap ((k : Int) + 1) = (k : Int) + 1 := IntWalk.i64_in _ (by omega)
      have q0 := cell_of_heap (o := 0) hT rfl
      have hszw : w.heap.size + 1 ≤ wr.heap.size := lt_of_heap hT
      have HNX : Hid ((al.length : Int) < h → TurnK h xs (k + 1) (al ++ [xs[k].1])) := fun h9 => HTK.out.add HW.out hlt h9
      have HN0 : Hid (TurnK h xs (k + 1) al) := HTK.out.skip
      clear hcp hx d1 d2 d3
      generalize xs[k] = x at *
      obtain ⟨x1, x2, x3⟩ := x
      have KA : Free.Bel wr (wr.alloc (.cells #[.int .i64 x1, .int .i64 x2, .int .i64 x3] 47)) := belAlloc _ _
      have q2 := keepsB KA q0
      have hx1 : (wr.alloc (.cells #[.int .i64 x1, .int .i64 x2, .int .i64 x3] 47)).cell? ⟨wr.heap.size, 0, none⟩ = some (.int .i64 x1) := by simp [go_sem]
      have HB := Lib.hid (And.intro hB hT)
      have hkn : ¬ ((k : Int) < 0) := by omega
      clear hB hT q0
      obtain ⟨q5, c5, rfl⟩ := row_slice how
      by_cases hbit : bits BinOp.and IntKind.u8 (b / 2 ^ k) 1 = 1
      · by_cases hlh : (al.length : Int) < h
        · have HLH := Lib.hid hlh
          go_wp2_with (first | (at_builtin; go_loud (refine wpList_append_own _ rfl _ _ 58 rfl (w.heap.size + 1) 3 i0 (.int .i64 0) 1 8 Tryd.underlying58 HZ.out.1 HZ.out.2.1 HZ.out.2.2.1 HZ.out.2.2.2 rfl (by decide) _ _ _ rfl ((bel_row how KA).alloc _) ⟨wr.heap.size + 1, 0, none⟩ 1 1 [.int .i64 x1] rfl rfl (by have := cell_one_new (wr.alloc (.cells #[.int .i64 x1, .int .i64 x2, .int .i64 x3] 47)) (.int .i64 x1) 3; simpa using this) (fun x hx => by simp at hx; subst hx; rfl) (by unfold maxLen; omega) (by omega) (by simp; omega) ?_); intro v9 w9 hown9 hgrow9 hnil9) | fail)
          have HG := Lib.hid (show Below (w.heap.size + 1) wr w9 from ((Below.mono KA hszw).alloc (by simp; omega) _).trans (grown_belR ((bel_row how KA).alloc _) hgrow9 (by simp; omega)))
          have HO9 := Lib.hid hown9
          clear hown9 hgrow9 hnil9 how
          go_roundw
          case rel => exact ⟨k + 1, al ++ [x1], by omega, by go_num, HNX.out HLH.out, HB.out.1.trans (HG.out.mono (by omega)), (HG.out.block _ (by omega)).trans HB.out.2, by simpa using HO9.out⟩
          case measure => simp [intOf]; omega
        · have HOW := Lib.hid how
          clear how
          go_wp2_with fail
          go_roundw
          case rel => exact ⟨k + 1, al, by omega, by go_num, HN0.out, HB.out.1.trans (Below.mono KA HB.out.1.size), heap_old HB.out.2, bel_row HOW.out KA⟩
          case measure => simp [intOf]; omega
      · have HOW := Lib.hid how
        clear how
        go_wp2_with fail
        go_roundw
        case rel => exact ⟨k + 1, al, by omega, by go_num, HN0.out, HB.out.1.trans (Below.mono KA HB.out.1.size), heap_old HB.out.2, bel_row HOW.out KA⟩
        case measure => simp [intOf]; omega
    · obtain rfl : k = xs.length := by omega
      have HF := Lib.hid (And.intro hB how)
      clear hB hT how
      go_wp2_with fail
      go_ret
      exact ⟨⟨_, al, rfl, HTK.out.turn HW.out, by omega, row_mono HF.out.2 (Nat.le_succ _)⟩, HF.out.1⟩
end Go.Proofs.YtknpglgpkkhhiaaDoor

/- The reference's TwinDays. -/
namespace Go.Proofs.YtknpglgpkkhhiaaDoor
set_option linter.unusedSimpArgs false
set_option linter.unusedVariables false
open Go.RowKit Go.Proofs.YtknpglgpkkhhiaaDoor.Free2

theorem T.infoSl : (Tryd.prog.info? 58).map (fun i => (i.zero, i.size, i.bytes)) = some (some (.slice none 0 0), 1, 24) := by kernel_rfl
/-- Slices of these lists, none of which lies in the row v. -/
def Elts (v : Value) (ds : List (List Int)) (us : List Value) (W : World) : Prop := us.length = ds.length ∧ ∀ i (h : i < ds.length) (h' : i < us.length), IL ds[i] us[i] W ∧ (ds[i] ≠ [] → ∀ a n c, us[i] = .slice (some a) n c → Off v a.block ∧ a.block < W.heap.size)
theorem Elts.dl {v : Value} {ds : List (List Int)} {us : List Value} {W : World} {base : Nat} {e : TypeId} (h : Elts v ds us W) (hr : W.ownsRow base e 1 v ds.length us) (hm : ds.length ≤ maxLen) : DL ds v W := by
  rcases hr.2 with ⟨rfl, h0⟩ | ⟨g, cap, cur, rfl, _, hg, _⟩
  · have : ds = [] := List.eq_nil_of_length_eq_zero h0
    subst this
    exact DL.nil W
  · refine ⟨_, cap, rfl, hm, fun _ => ⟨g, 0, rfl, fun k hk => ?_⟩⟩
    have hk2 : k < us.length := by rw [h.1]; exact hk
    have hc := hr.cells (g := g) rfl k us[k] (by simp [hk2])
    exact ⟨us[k], by simpa [Addr.add_lit] using hc, (h.2 k hk hk2).1⟩

end Go.Proofs.YtknpglgpkkhhiaaDoor

/- Can, at a valid watch. -/
namespace Go.Proofs.YtknpglgpkkhhiaaDoor
set_option linter.unusedSimpArgs false
set_option linter.unusedVariables false
open Go.RowKit

theorem can_at (h : Int) (xs : List Rk) (u : Value) (w : World) (hT : TabR w) (hu : RL xs u w) (hw : watchB h xs = true) (r : Bool) (hr : Hid (everB h xs = r)) :
    Calls Tryd.prog 32 #[.agg #[.int .i64 h, u]] w fun e w' => e = .returned (.tuple #[.bool r, .int .i64 0]) ∧ Below w.heap.size w w' :=
  canP_v h xs u w hT hu 0 r (by rw [hw, hr.out]; exact ⟨rfl, rfl⟩)
end Go.Proofs.YtknpglgpkkhhiaaDoor

/- A watch made by a call in a region that draws its order, and kept in a box made there too. -/
namespace Go.Proofs.YtknpglgpkkhhiaaDoor
set_option linter.unusedSimpArgs false
set_option linter.unusedVariables false
open Go.RowKit Go.Proofs.YtknpglgpkkhhiaaDoor.Free2 Go.Proofs.YtknpglgpkkhhiaaDoor.ML RR

/-- Blocks below n0 stay, and later ones but cells of one type. -/
structure RQt (t : TypeId) (n0 : Nat) (a b : World) : Prop where
  below : Below n0 a b
  other : ∀ (k : Nat) (o : Obj), a.heap[k]? = some o → (∀ c f, o ≠ .cells c t f) → b.heap[k]? = some o
section
variable {a b c : World} {n0 : Nat} {t : TypeId}
theorem RQt.refl (t : TypeId) (n0 : Nat) (a : World) : RQt t n0 a a := ⟨Below.refl _ _, fun _ _ h _ => h⟩
theorem RQt.trans (h : RQt t n0 a b) (k : RQt t n0 b c) : RQt t n0 a c := ⟨h.below.trans k.below, fun i o h1 h2 => k.other i o (h.other i o h1 h2) h2⟩
theorem RQt.of_bel (h : Free.Bel a b) (hn : n0 ≤ a.heap.size) : RQt t n0 a b := ⟨h.mono hn, fun k o h1 _ => (h.block k (lt_of_heap h1)).trans h1⟩
theorem RQt.set {g o : Nat} {v : Value} {cs : Array Value} {f : Nat × Nat} (hg : n0 ≤ g) (hq : a.heap[g]? = some (.cells cs t f)) : RQt t n0 a (a.setCell ⟨g, o, none⟩ v) :=
  ⟨(Below.refl _ a).setCell (by simpa using hg) v, fun k p h1 h2 => by
    have hne : k ≠ g := by
      rintro rfl
      rw [hq] at h1
      cases h1
      exact h2 _ _ rfl
    exact (Below.heap_setCell _ _ _ _ (by simpa using hne)).trans h1⟩
theorem RQt.row {base : Nat} {e : TypeId} {size n : Nat} {v : Value} {xs : List Value} (h : RQt t n0 a b) (ht : e ≠ t) (ho : a.ownsRow base e size v n xs) : b.ownsRow base e size v n xs :=
  own_typed ho fun k c f hk => h.other k _ hk fun c' f' e' => by cases e'; exact ht rfl
end
/-- Operation al makes a box of two cells, operation st stores in it what operation ex gave. -/
structure JK (t : TypeId) (s0 ex al st : Nat) (X : XT) (W : World) : Prop where
  ord : X st ≠ none → X ex ≠ none ∧ X al ≠ none
  size : s0 ≤ W.heap.size
  new : ∀ v, X al = some v → ∃ b, v = .pointer (some ⟨b, 0, none⟩) ∧ s0 ≤ b ∧ (X st = none → ∃ x y, W.heap[b]? = some (.cells #[x, y] t (0, 0))) ∧ (X st ≠ none → ∃ x y, X ex = some (.agg #[x, y]) ∧ W.heap[b]? = some (.cells #[x, y] t (0, 0)))
section
variable {t : TypeId} {s0 ex al st : Nat} {X : XT} {W W' : World}
theorem JK.start (hs : s0 ≤ W.heap.size) : JK t s0 ex al st (fun _ => none) W := ⟨fun h => absurd rfl h, hs, fun v h => (by cases h)⟩
theorem JK.bel (H : JK t s0 ex al st X W) (hB : Free.Bel W W') : JK t s0 ex al st X W' :=
  ⟨H.ord, Nat.le_trans H.size hB.size, fun v hv => by
    obtain ⟨b, h1, h2, h3, h4⟩ := H.new v hv
    exact ⟨b, h1, h2, fun h => let ⟨x, y, h5⟩ := h3 h; ⟨x, y, (hB.block _ (lt_of_heap h5)).trans h5⟩, fun h => let ⟨x, y, h5, h6⟩ := h4 h; ⟨x, y, h5, (hB.block _ (lt_of_heap h6)).trans h6⟩⟩⟩
theorem JK.skip (H : JK t s0 ex al st X W) (n : Nat) (v : Value) (h1 : n ≠ al) (h2 : n ≠ st) (h3 : n = ex → X ex = none) : JK t s0 ex al st (upd X n v) W := by
  have e1 := upd_other X v (Ne.symm h1)
  have e2 := upd_other X v (Ne.symm h2)
  refine ⟨fun h => ?_, H.size, fun u hu => ?_⟩
  · rw [e2] at h
    refine ⟨?_, by rw [e1]; exact (H.ord h).2⟩
    by_cases e : n = ex
    · subst e; rw [upd_same]; simp
    · rw [upd_other _ _ (Ne.symm e)]; exact (H.ord h).1
  · rw [e1] at hu
    obtain ⟨b, a1, a2, a3, a4⟩ := H.new u hu
    refine ⟨b, a1, a2, fun h => a3 (by rwa [e2] at h), fun h => ?_⟩
    rw [e2] at h
    by_cases e : n = ex
    · exact absurd (h3 e) (H.ord h).1
    · rw [upd_other _ _ (Ne.symm e)]; exact a4 h
theorem JK.made (H : JK t s0 ex al st X W) (hst : X al = none) {b : Nat} {x y : Value} (hB : Free.Bel W W') (hb : s0 ≤ b) (hh : W'.heap[b]? = some (.cells #[x, y] t (0, 0))) (hne : al ≠ st) : JK t s0 ex al st (upd X al (.pointer (some ⟨b, 0, none⟩))) W' := by
  have hs : X st = none := by
    cases h : X st with
    | none => rfl
    | some v => exact absurd hst (H.ord (by rw [h]; simp)).2
  have e2 := upd_other X (.pointer (some ⟨b, 0, none⟩)) (Ne.symm hne)
  refine ⟨fun h => absurd hs (by rwa [e2] at h), Nat.le_trans H.size hB.size, fun u hu => ?_⟩
  rw [upd_same] at hu
  cases hu
  exact ⟨b, rfl, hb, fun _ => ⟨x, y, hh⟩, fun h => absurd hs (by rwa [e2] at h)⟩
theorem JK.put (H : JK t s0 ex al st X W) (hst : X st = none) {b : Nat} {x y v : Value} (hal : X al = some (.pointer (some ⟨b, 0, none⟩))) (hex : X ex = some (.agg #[x, y])) (n1 : al ≠ st) (n2 : ex ≠ st) : JK t s0 ex al st (upd X st v) ((W.setCell ⟨b, 0, none⟩ x).setCell ⟨b, 1, none⟩ y) := by
  have e1 := upd_other X v n1
  have e2 := upd_other X v n2
  refine ⟨fun _ => ⟨by rw [e2, hex]; simp, by rw [e1, hal]; simp⟩, by simpa using H.size, fun u hu => ?_⟩
  rw [e1, hal] at hu
  cases hu
  obtain ⟨b', h1, h2, h3, _⟩ := H.new _ hal
  cases h1
  obtain ⟨x0, y0, h5⟩ := h3 hst
  refine ⟨b, rfl, h2, fun h => (by rw [upd_same] at h; cases h), fun _ => ⟨x, y, by rw [e2]; exact hex, ?_⟩⟩
  have h6 := heap_setCell_same (o := 1) y (heap_setCell_same (o := 0) x h5)
  simpa using h6
end
end Go.Proofs.YtknpglgpkkhhiaaDoor

/- A watch with ricks of its own, given by a call with an error beside it, and kept in a box made in the same statement. -/
namespace Go.Proofs.YtknpglgpkkhhiaaDoor
set_option linter.unusedSimpArgs false
set_option linter.unusedVariables false
open Go.RowKit Go.Proofs.YtknpglgpkkhhiaaDoor.Free2 Go.Proofs.YtknpglgpkkhhiaaDoor.ML RR

/-- What a call gave: a watch, with ricks of its own. -/
def AftV (n0 : Nat) (H : Int) (ys : List Rk) (E : Int) (v : Value) (W : World) : Prop := ∃ u, v = .tuple #[.agg #[.int .i64 H, u], .int .i64 E] ∧ W.ownsRow n0 47 3 u ys.length (cellsR ys)
def AftW (n0 : Nat) (H : Int) (ys : List Rk) (v : Value) (W : World) : Prop := ∃ u, v = .agg #[.int .i64 H, u] ∧ W.ownsRow n0 47 3 u ys.length (cellsR ys)
theorem AftV.stable (n0 : Nat) (H E : Int) (ys : List Rk) (m : Nat) : Free.Stable (RQt 24 m) (AftV n0 H ys E) := fun v a b hR ⟨u, h1, h2⟩ => ⟨u, h1, hR.row (by decide) h2⟩
theorem AftW.stable (n0 : Nat) (H : Int) (ys : List Rk) (m : Nat) : Free.Stable (RQt 24 m) (AftW n0 H ys) := fun v a b hR ⟨u, h1, h2⟩ => ⟨u, h1, hR.row (by decide) h2⟩
end Go.Proofs.YtknpglgpkkhhiaaDoor

/- The first days, and the rest; what Hot gave. -/
namespace Go.Proofs.YtknpglgpkkhhiaaDoor
set_option linter.unusedSimpArgs false
set_option linter.unusedVariables false
open Go.RowKit Go.Proofs.YtknpglgpkkhhiaaDoor.Free2

/-- What Hot gave. -/
def HotV (hs : List (Int × Int)) (E : Int) (v : Value) (W : World) : Prop := ∃ p c, v = .tuple #[.slice p hs.length c, .int .i64 E] ∧ PL hs (.slice p hs.length c) W
def HotW (hs : List (Int × Int)) (v : Value) (W : World) : Prop := ∃ p c, v = .slice p hs.length c ∧ PL hs (.slice p hs.length c) W
theorem HotV.stable (hs : List (Int × Int)) (E : Int) : Free.Stable Free.Bel (HotV hs E) := fun v a b hR ⟨p, c, h1, h2⟩ => ⟨p, c, h1, h2.keeps hR⟩
theorem HotW.stable (hs : List (Int × Int)) : Free.Stable Free.Bel (HotW hs) := fun v a b hR ⟨p, c, h1, h2⟩ => ⟨p, c, h1, h2.keeps hR⟩
theorem hot_at (h : Int) (xs : List Rk) (ds : List (List Int)) (u v : Value) (w : World) (hT : TabR w) (hu : RL xs u w) (hv : DL ds v w) (hd : ds.length ≤ 1000) (ha : askE h xs ds = 0) (hs : List (Int × Int)) (hh : Hid (heatR 0 xs ds = hs)) :
    Calls Tryd.prog 21 #[.agg #[.int .i64 h, u], v] w fun e w' => (∃ p c, e = .returned (.tuple #[.slice p hs.length c, .int .i64 0]) ∧ PL hs (.slice p hs.length c) w') ∧ Below w.heap.size w w' := by
  refine (hotP_any h xs ds u v w hT hu hv hd).mono fun e w' ⟨⟨v2, h1, h2⟩, h3⟩ => ⟨?_, h3⟩
  have e1 : hotOut h xs ds = hs := by rw [hotOut, if_pos ha, hh.out]
  rw [e1] at h2
  rw [ha] at h1
  have h4 := h2
  obtain ⟨p, c, rfl, _, _⟩ := h2
  exact ⟨p, c, h1, h4⟩
end Go.Proofs.YtknpglgpkkhhiaaDoor

/- Turnings are few. -/
namespace Go.Proofs.YtknpglgpkkhhiaaDoor
open Go.RowKit

theorem day_max {h : Int} {xs : List Rk} {ds : List (List Int)} {d : List Int} (hw : watchB h xs = true) (ha : ds.all (turnB h xs) = true) (hd : d ∈ ds) : d.length ≤ maxLen := by
  have h1 := List.all_eq_true.1 ha d hd
  unfold turnB at h1
  rw [Bool.and_eq_true, decide_eq_true_eq] at h1
  have := (watchB_iff.1 hw).1
  unfold maxLen
  omega
end Go.Proofs.YtknpglgpkkhhiaaDoor

/- Before, and SameInts at any lists. -/
namespace Go.Proofs.YtknpglgpkkhhiaaDoor
set_option linter.unusedSimpArgs false
set_option linter.unusedVariables false
open Go.RowKit Go.Proofs.YtknpglgpkkhhiaaDoor.Free2

set_option maxRecDepth 100000 in
set_option maxHeartbeats 4000000 in
theorem bef_v (a b : List Int) (u v : Value) (w : World) (hu : IL a u w) (hv : IL b v w) (r : Bool) (hr : Hid (beforeL a b = r)) :
    Calls Tryd.prog 60 #[u, v] w fun e w' => e = .returned (.bool r) ∧ Below w.heap.size w w' := by
  obtain ⟨p, cp, rfl, hm, hp⟩ := hu
  obtain ⟨q, cq, rfl, hm2, hq⟩ := hv
  unfold maxLen at hm hm2
  have HP := Lib.hid hp
  have HQ := Lib.hid hq
  clear hp hq
  by_cases hl : a.length = b.length
  · have HL := Lib.hid hl
    have hne : ((a.length : Int) != (b.length : Int)) = false := by rw [hl]; simp
    have HX : Hid (lexB a b = r) := by have h9 := hr.out; unfold beforeL at h9; rw [if_pos hl] at h9; exact h9
    clear hl
    go_enter Tryd.func60, Tryd.ntmps60
    go_wp2_with fail
    go_loopw [5] (fun i wr => ∃ k : Nat, k ≤ a.length ∧ i = .int .i64 k ∧ Below w.heap.size w wr ∧ lexB (a.drop k) (b.drop k) = r) (fun i _ => a.length - (intOf i).toNat)
    case atStart => exact ⟨0, Nat.zero_le _, rfl, Below.refl _ _, HX.out⟩
    case round =>
      obtain ⟨k, hk, rfl, hB, hlx⟩ := hrel
      by_cases hlt : k < a.length
      · have hx : a ≠ [] := by intro e; simp [e] at hlt
        have hlt2 : k < b.length := by rw [← HL.out]; exact hlt
        have hx2 : b ≠ [] := by intro e; simp [e] at hlt2
        obtain ⟨b1, off, rfl, hcp⟩ := HP.out hx
        obtain ⟨b2, off2, rfl, hcq⟩ := HQ.out hx2
        have e1 := keepsB hB (hcp k hlt)
        have e2 := keepsB hB (hcq k hlt2)
        have hklt : (k : Int) < a.length := by omega
        have hklt2 : (k : Int) < b.length := by omega
        have hkw : IntKind.i64.wrap ((k : Int) + 1) = (k : Int) + 1 := IntWalk.i64_in _ (by omega)
        have hkn : ¬ ((k : Int) < 0) := by omega
        rw [List.drop_eq_getElem_cons hlt, List.drop_eq_getElem_cons hlt2] at hlx
        simp only [lexB] at hlx
        have HLX := Lib.hid hlx
        have HB := Lib.hid hB
        clear hcp hcq hlx hB hx hx2
        generalize a[k] = x at *
        generalize b[k] = y at *
        by_cases hxy : x = y
        · have hb1 : (x != y) = false := by simp [hxy]
          have HXY := Lib.hid hxy
          clear hxy
          go_wp2_with fail
          go_quiet (fail)
          generalize hqe : World.drewN wr _ = w9 at *
          have K9 : Free.Bel wr w9 := by rw [← hqe]; exact belN _ _
          clear hqe
          have HB9 := Lib.hid (HB.out.trans (K9.mono HB.out.size))
          clear K9
          go_wp2_with fail
          go_roundw
          case rel => exact ⟨k + 1, by omega, by go_num, HB9.out, by have h9 := HLX.out; rw [if_pos HXY.out] at h9; exact h9⟩
          case measure => simp [intOf]; omega
        · have hb1 : (x != y) = true := by simp [hxy]
          have HXY := Lib.hid hxy
          clear hxy
          obtain rfl : decide (x < y) = r := by have h9 := HLX.out; rw [if_neg HXY.out] at h9; exact h9
          go_wp2_with fail
          go_quiet (fail)
          generalize hqe : World.drewN wr _ = w9 at *
          have K9 : Free.Bel wr w9 := by rw [← hqe]; exact belN _ _
          clear hqe
          have HB9 := Lib.hid (HB.out.trans (K9.mono HB.out.size))
          have e3 := keepsB K9 e1
          have e4 := keepsB K9 e2
          clear K9 e1 e2
          go_wp2_with fail
          go_quiet (fail)
          generalize hqe : World.drewN w9 _ = w8 at *
          have K8 : Free.Bel w9 w8 := by rw [← hqe]; exact belN _ _
          clear hqe
          have HB8 := Lib.hid (HB9.out.trans (K8.mono HB9.out.size))
          clear K8
          go_wp2_with fail
          go_ret
          exact ⟨rfl, HB8.out⟩
      · obtain rfl : k = a.length := by omega
        obtain rfl : false = r := by
          rw [List.drop_length, List.drop_eq_nil_of_le (by rw [HL.out]; exact Nat.le_refl _)] at hlx
          exact hlx
        go_wp2_with fail
        go_ret
        exact ⟨rfl, hB⟩
  · have hne : ((a.length : Int) != (b.length : Int)) = true := by simp; omega
    obtain rfl : decide (a.length < b.length) = r := by
      have h9 := hr.out
      unfold beforeL at h9
      rw [if_neg hl] at h9
      exact h9
    clear hl
    go_enter Tryd.func60, Tryd.ntmps60
    go_wp2_with fail
    go_ret
    exact ⟨rfl, Below.refl _ _⟩
end Go.Proofs.YtknpglgpkkhhiaaDoor

/- append(own, xs...) behind a guard, xs nil or not; an own row's cells. -/
namespace Go.Proofs.YtknpglgpkkhhiaaDoor
set_option linter.unusedSimpArgs false
set_option linter.unusedVariables false
open Go.RowKit Go.Proofs.YtknpglgpkkhhiaaDoor.Free2

theorem wpList_append_any {P : Program} {ops : Array Oper} {rest : List Oper} {o : Oper} {a : Act} {Q : Exit → Act → World → Prop} {w : World} (hgd : Region.wanted o (yielded ops a.tmps) = true) (s x : Operand) (t : TypeId)
    (ho : o.op = .call { callee := .builtin .append, args := #[s, x], argTypes := #[t, t] })
    (base : Nat) (e : TypeId) (i : TypeInfo) (z : Value) (size bytes : Nat) (ht : P.underlying t = some (.slice e)) (hi : P.info? e = some i) (hz : i.zero = some z)
    (hsize : i.size = size) (hby : i.bytes = bytes) (hzs : z.cells.size = size) (hsz : 0 < size)
    (v : Value) (n : Nat) (xs : List Value) (hs : a.eval s = v) (hown : w.ownsRow base e size v n xs)
    (p : Option Addr) (m c : Nat) (news : List Value) (hx : a.eval x = .slice p m c) (hl : news.length = m * size) (hp : ∀ ad, p = some ad → ∀ j u, news[j]? = some u → w.cell? (ad.add j) = some u) (hnil : p = none → m = 0 ∧ c = 0) (h1 : ∀ u ∈ news, u.oneCell' = true)
    (h63 : n + m ≤ maxLen) (hbytes : (n + m) * bytes ≤ 140737488355328) (hbase : base ≤ w.heap.size)
    (h : ∀ v' w', w'.ownsRow base e size v' (n + m) (xs ++ news) → Below base w w' → wpList P ops Q rest (a.put o.dst v') w') : wpList P ops Q (o :: rest) a w := by
  refine wpList_step fun K hK => ?_
  rw [if_pos hgd]
  cases p with
  | none =>
    obtain ⟨rfl, rfl⟩ := hnil rfl
    have hn : news = [] := List.eq_nil_of_length_eq_zero (by simpa using hl)
    subst hn
    have hrun := run_append_owned_none (P := P) (w := w) base t o.type e i size ht hi v n xs hown
    unfold Oper.wp
    simp [execOp, ho, resolve, invoke, builtin, hs, hx, hrun, Result.andThen]
    exact hK _ _ (h v w (by simpa using hown) (Below.refl _ _))
  | some ad =>
    exact wp_append_own w s x t ho base e i z size bytes ht hi hz hsize hby hzs hsz v n xs hs hown ad m c news hx hl (hp ad rfl) h1 h63 hbytes hbase fun v' w' h2 h3 _ => hK _ _ (h v' w' h2 (grown_belR hown h3 hbase))
theorem row_cells {base : Nat} {e : TypeId} {n c : Nat} {p : Option Addr} {xs : List Value} {w : World} (h : w.ownsRow base e 1 (.slice p n c) n xs) : (∀ W, Below w.heap.size w W → ∀ ad, p = some ad → ∀ j u, xs[j]? = some u → W.cell? (ad.add j) = some u) ∧ (p = none → n = 0 ∧ c = 0) := by
  rcases h.2 with ⟨he, h0⟩ | ⟨g, cap, cur, he, _⟩
  · simp only [Value.slice.injEq] at he
    obtain ⟨rfl, rfl, rfl⟩ := he
    exact ⟨fun W _ ad ha => (by cases ha), fun _ => ⟨rfl, rfl⟩⟩
  · simp only [Value.slice.injEq] at he
    obtain ⟨rfl, _, rfl⟩ := he
    exact ⟨fun W hW ad ha j u hj => (by cases ha; exact keepsB hW (h.cells (g := g) rfl j u hj)), fun hn => (by cases hn)⟩
theorem dl_row {base : Nat} {e : TypeId} {v : Value} {ds : List (List Int)} {vs : List Value} {W : World} (hl : vs.length = ds.length) (hm : ds.length ≤ maxLen) (ho : W.ownsRow base e 1 v ds.length vs) (hi : ∀ (i : Nat) (h : i < ds.length) u, vs[i]? = some u → IL ds[i] u W) : DL ds v W := by
  rcases ho.2 with ⟨rfl, h0⟩ | ⟨g, cap, cur, rfl, _⟩
  · have : ds = [] := List.eq_nil_of_length_eq_zero h0
    subst this
    exact DL.nil W
  · refine ⟨_, cap, rfl, hm, fun _ => ⟨g, 0, rfl, fun k hk => ?_⟩⟩
    have hk2 : k < vs.length := by omega
    have hu := List.getElem?_eq_getElem hk2
    have hc := ho.cells (g := g) rfl k vs[k] hu
    rw [addE] at hc
    exact ⟨vs[k], hc, hi k hk _ hu⟩
end Go.Proofs.YtknpglgpkkhhiaaDoor

/- RoundGoes: on the days of the plan no rick becomes hot, and it can go on. -/
namespace Go.Proofs.YtknpglgpkkhhiaaDoor
set_option linter.unusedSimpArgs false
set_option linter.unusedVariables false
open Go.RowKit Go.Proofs.YtknpglgpkkhhiaaDoor.Free2 Go.Proofs.YtknpglgpkkhhiaaDoor.ML RR

theorem aftL_len (h : Int) (xs : List Rk) (ds : List (List Int)) : (aftL h xs ds).length ≤ xs.length := by
  unfold aftL
  split
  · rw [endR_length]; exact Nat.le_refl _
  · simp
/-- A row of one day. -/
def D1 (x : Value) (v : Value) (W : World) : Prop := ∃ g, v = .slice (some ⟨g, 0, none⟩) 1 1 ∧ W.heap[g]? = some (.cells #[x] 58 (0, 0))
theorem D1.stable (x : Value) (n0 : Nat) : Free.Stable (RQt 24 n0) (D1 x) := fun v a b hR ⟨g, h1, h2⟩ => ⟨g, h1, hR.other g _ h2 (fun _ _ e => by cases e)⟩
theorem D1.dl {x : List Int} {u v : Value} {W : World} (h : D1 u v W) (hi : IL x u W) : DL [x] v W := by
  obtain ⟨g, rfl, h2⟩ := h
  refine ⟨_, 1, rfl, by simp [maxLen], fun _ => ⟨g, 0, rfl, fun k hk => ?_⟩⟩
  have hk0 : k = 0 := by simp at hk; omega
  subst hk0
  exact ⟨u, cell_of_heap (o := 0) h2 rfl, hi⟩
theorem do_one {ds : List (List Int)} {vs : List Value} {W : World} (hl : vs.length = ds.length) (hd : ∀ (i : Nat) (h : i < ds.length) u, vs[i]? = some u → DayR ds[i] u W) : ∀ u ∈ vs, u.oneCell' = true := by
  intro u hu
  obtain ⟨i, hi⟩ := List.mem_iff_getElem?.1 hu
  have hlt : i < ds.length := by
    have := (List.getElem?_eq_some_iff.1 hi).1
    omega
  obtain ⟨b0, hr⟩ := hd i hlt u hi
  obtain ⟨q, c, rfl⟩ := row_slice hr
  rfl
set_option maxRecDepth 100000 in
set_option maxHeartbeats 32000000 in
theorem goesL_walk (h : Int) (xs : List Rk) (q o : Int) (u : Value) (w : World) (hT : TabR w) (hu : RL xs u w) (hz : NZ u) (hq0 : 0 ≤ q) (hq1 : q ≤ 255) :
    Calls Tryd.prog 7 #[.agg #[.int .i64 h, u], .int .u8 q, .int .u8 o] w fun e w' => e = .returned (.bool true) ∧ Below w.heap.size w w' := by
  obtain ⟨i1, hi1, hy0, hy1, hy2⟩ := info_parts T.infoSl
  have HY := Lib.hid (And.intro hi1 (And.intro hy0 (And.intro hy1 hy2)))
  clear hi1 hy0 hy1 hy2
  have HNZ := Lib.hid hz
  have HTX := Lib.hid (fun (W : World) (hW : Below w.heap.size w W) => hT.bel hW)
  have HUX := Lib.hid (fun (W : World) (hW : Below w.heap.size w W) => hu.keeps hW)
  obtain ⟨p, cp, rfl, hm, hp⟩ := hu
  have HP := Lib.hid hp
  have HKX := Lib.hid (fun (W : World) (hW : Below w.heap.size w W) (a : Addr) (v : Value) (hv : w.cell? a = some v) => keepsB hW hv)
  clear hm hp hz hT
  have hB0 : Below w.heap.size w (w.alloc (.cells #[.int .i64 h, .slice p xs.length cp] 24)) := (Below.refl _ w).alloc (Nat.le_refl _) _
  have c0_0 : (w.alloc (.cells #[.int .i64 h, .slice p xs.length cp] 24)).cell? ⟨w.heap.size, 0, none⟩ = some (.int .i64 h) := by simp [go_sem]
  have c0_1 : (w.alloc (.cells #[.int .i64 h, .slice p xs.length cp] 24)).cell? ⟨w.heap.size, 1, none⟩ = some (.slice p xs.length cp) := by simp [go_sem]
  have HTB := Lib.hid (HTX.out _ hB0)
  go_enter Tryd.func7, Tryd.ntmps7
  go_wp2_with fail
  refine (alive_any _ HTB.out).mono ?_
  rintro e w1 ⟨rfl, hB1⟩
  have hBz : Below w.heap.size w w1 := hB0.trans (hB1.mono (by simp))
  have hzz : w.heap.size ≤ w1.heap.size := hBz.size
  have hzn : w.heap.size + 1 ≤ w1.heap.size := by have := hB1.size; simp at this; omega
  have kc0_0 := keepsB hB1 c0_0
  have kc0_1 := keepsB hB1 c0_1
  clear hB0 hB1 HTB c0_0 c0_1
  generalize hbb : w.heap.size = bb at *
  have HBB := Lib.hid hbb
  clear hbb
  have HB_w1 := Lib.hid (show Below bb w w1 from hBz)
  have hz_w1 : bb ≤ w1.heap.size := hzz
  have FA : ∀ W, Free.Bel w1 W → W.cell? ⟨bb, 0, none⟩ = some (.int .i64 h) ∧ W.cell? ⟨bb, 1, none⟩ = some (.slice p xs.length cp) ∧ Hid (TabR W) ∧ Hid (RL xs (.slice p xs.length cp) W) ∧ bb + 1 ≤ W.heap.size ∧ bb ≤ W.heap.size := fun W hW => ⟨keepsB hW kc0_0, keepsB hW kc0_1, Lib.hid (HTX.out W (hBz.trans (hW.mono hzz))), Lib.hid (HUX.out W (hBz.trans (hW.mono hzz))), Nat.le_trans hzn hW.size, Nat.le_trans hz_w1 hW.size⟩
  have KR : Free.Bel w1 w1 := Free.Bel.refl _
  clear hBz hzz kc0_0 kc0_1 hzn
  go_wp2_with fail
  cases hw : watchB h xs with
  | false =>
    refine (ready_v h xs _ w1 (FA w1 (Free.Bel.refl _)).2.2.2.1.out false (Lib.hid hw)).mono ?_
    rintro e w2 ⟨rfl, hB⟩
    have HB_w2 := Lib.hid (HB_w1.out.trans ((hB).mono hz_w1))
    have hz_w2 : bb ≤ w2.heap.size := Nat.le_trans hz_w1 (hB).size
    have FN := fun (W : World) (hW : Free.Bel w2 W) => FA W (bt (hB) hW)
    clear FA HB_w1 hz_w1 KR
    have FA := FN
    clear FN
    have KR := Free.Bel.refl w2
    clear hB
    go_wp2_with fail
    go_ret
    have hbb := HBB.out
    subst hbb
    exact ⟨rfl, HB_w2.out⟩
  | true =>
    have HW := Lib.hid hw
    refine (ready_v h xs _ w1 (FA w1 (Free.Bel.refl _)).2.2.2.1.out true (Lib.hid hw)).mono ?_
    rintro e w3 ⟨rfl, hB⟩
    have HB_w3 := Lib.hid (HB_w1.out.trans ((hB).mono hz_w1))
    have hz_w3 : bb ≤ w3.heap.size := Nat.le_trans hz_w1 (hB).size
    have FN := fun (W : World) (hW : Free.Bel w3 W) => FA W (bt (hB) hW)
    clear FA HB_w1 hz_w1 KR
    have FA := FN
    clear FN
    have KR := Free.Bel.refl w3
    clear hB
    clear hw
    have hm0 := Int.emod_nonneg q (show (13 : Int) ≠ 0 by decide)
    have hm1 := Int.emod_lt_of_pos q (show (0 : Int) < 13 by decide)
    obtain ⟨n, hk9⟩ : ∃ k : Nat, q % 13 = k := ⟨_, (Int.toNat_of_nonneg hm0).symm⟩
    rw [hk9] at hm1
    have hn12 : n ≤ 12 := by omega
    have cq : IntKind.i64.wrap q = q := IntWalk.i64_in _ (by omega)
    have da : q.tmod 13 = n := by rw [Int.tmod_eq_emod_of_nonneg (by omega), hk9]
    have ea : IntKind.i64.wrap (n : Int) = n := IntWalk.i64_in _ (by omega)
    clear hm0 hm1 hk9
    go_wp2_with fail
    cases he : everB h xs with
    | false =>
      refine (can_at h xs _ w3 (FA w3 (Free.Bel.refl _)).2.2.1.out (FA w3 (Free.Bel.refl _)).2.2.2.1.out HW.out false (Lib.hid he)).mono ?_
      rintro e w4 ⟨rfl, hB⟩
      have HB_w4 := Lib.hid (HB_w3.out.trans ((hB).mono hz_w3))
      have hz_w4 : bb ≤ w4.heap.size := Nat.le_trans hz_w3 (hB).size
      have FN := fun (W : World) (hW : Free.Bel w4 W) => FA W (bt (hB) hW)
      clear FA HB_w3 hz_w3 KR
      have FA := FN
      clear FN
      have KR := Free.Bel.refl w4
      clear hB
      have HE := Lib.hid he
      clear he
      go_wp2_with fail
      have hin : inB 0 60 [(n : Int)] = true := by simp [inB]; omega
      have HIN := Lib.hid hin
      clear hin
      refine (daysP_v h xs (n : Int) _ w4 (FA w4 (Free.Bel.refl _)).2.2.1.out (FA w4 (Free.Bel.refl _)).2.2.2.1.out 8 (by show _ = _; unfold daysE goE; rw [if_pos HW.out, if_pos HIN.out, if_pos HW.out, if_neg (by rw [HE.out]; simp)])).mono ?_
      rintro e w5 ⟨hS, hB⟩
      have HB_w5 := Lib.hid (HB_w4.out.trans ((hB).mono hz_w4))
      have hz_w5 : bb ≤ w5.heap.size := Nat.le_trans hz_w4 (hB).size
      have FN := fun (W : World) (hW : Free.Bel w5 W) => FA W (bt (hB) hW)
      clear FA HB_w4 hz_w4 KR
      have FA := FN
      clear FN
      have KR := Free.Bel.refl w5
      clear hB
      obtain rfl : e = .returned (.tuple #[.slice none 0 0, .int .i64 8]) := by
        rcases hS with ⟨_, h9⟩ | ⟨h9, _⟩
        · exact h9
        · cases h9
      clear hS
      go_wp2_with fail
      refine (todayP_v h xs _ w5 (FA w5 (Free.Bel.refl _)).2.2.1.out (FA w5 (Free.Bel.refl _)).2.2.2.1.out 8 (by show _ = _; unfold goE; rw [if_pos HW.out, if_neg (by rw [HE.out]; simp)])).mono ?_
      rintro e w6 ⟨hS, hB⟩
      have HB_w6 := Lib.hid (HB_w5.out.trans ((hB).mono hz_w5))
      have hz_w6 : bb ≤ w6.heap.size := Nat.le_trans hz_w5 (hB).size
      have FN := fun (W : World) (hW : Free.Bel w6 W) => FA W (bt (hB) hW)
      clear FA HB_w5 hz_w5 KR
      have FA := FN
      clear FN
      have KR := Free.Bel.refl w6
      clear hB
      obtain rfl : e = .returned (.tuple #[.slice none 0 0, .int .i64 8]) := by
        rcases hS with ⟨_, h9⟩ | ⟨h9, _⟩
        · exact h9
        · cases h9
      clear hS
      go_wp2_with fail
      go_ret
      have hbb := HBB.out
      subst hbb
      exact ⟨rfl, HB_w6.out⟩
    | true =>
      refine (can_at h xs _ w3 (FA w3 (Free.Bel.refl _)).2.2.1.out (FA w3 (Free.Bel.refl _)).2.2.2.1.out HW.out true (Lib.hid he)).mono ?_
      rintro e w7 ⟨rfl, hB⟩
      have HB_w7 := Lib.hid (HB_w3.out.trans ((hB).mono hz_w3))
      have hz_w7 : bb ≤ w7.heap.size := Nat.le_trans hz_w3 (hB).size
      have FN := fun (W : World) (hW : Free.Bel w7 W) => FA W (bt (hB) hW)
      clear FA HB_w3 hz_w3 KR
      have FA := FN
      clear FN
      have KR := Free.Bel.refl w7
      clear hB
      have HE := Lib.hid he
      clear he
      go_wp2_with fail
      have HD0 : Hid (∀ m : Int, 0 ≤ m → m ≤ 60 → daysE h xs m = 0) := fun m h1 h2 => by
        unfold daysE goE
        rw [if_pos HW.out, if_pos (by simp [inB]; omega), if_pos HW.out, if_pos HE.out]
      refine (daysP_v h xs (n : Int) _ w7 (FA w7 (Free.Bel.refl _)).2.2.1.out (FA w7 (Free.Bel.refl _)).2.2.2.1.out 0 (HD0.out n (by omega) (by omega))).mono ?_
      rintro e w8 ⟨hS, hB⟩
      obtain ⟨v1, rfl, hdo⟩ : ∃ v, e = .returned (.tuple #[v, .int .i64 0]) ∧ DO w7.heap.size (planL h xs ((n : Int) : Int).toNat) v w8 := by
        rcases hS with ⟨h9, _⟩ | ⟨_, h9⟩
        · exact absurd rfl h9
        · exact h9
      obtain ⟨s1, hs9⟩ : ∃ x, w7.heap.size = x := ⟨_, rfl⟩
      rw [hs9] at hdo
      clear hs9 hS
      rw [Int.toNat_natCast] at hdo
      obtain ⟨ls, hls⟩ : ∃ x, planL h xs n = x := ⟨_, rfl⟩
      rw [hls] at hdo
      have HLS := Lib.hid hls
      have hln : Hid (ls.length = n) := by show _ = _; rw [← hls]; exact planL_length h xs n
      have HLV : Hid (ls.all (turnB h xs) = true ∧ coolD xs ls = true) := by show _ ∧ _; rw [← hls]; exact ⟨plan_valid HW.out HE.out n, plan_cool HW.out HE.out n⟩
      clear hls
      have HDL := Lib.hid hdo
      obtain ⟨vsx, hvlx, howx, hvdx⟩ := hdo
      obtain ⟨q1, c1, rfl⟩ := row_slice howx
      clear hvlx howx hvdx
      have HB_w8 := Lib.hid (HB_w7.out.trans ((hB).mono hz_w7))
      have hz_w8 : bb ≤ w8.heap.size := Nat.le_trans hz_w7 (hB).size
      have FN := fun (W : World) (hW : Free.Bel w8 W) => And.intro (Lib.hid (HDL.out.bel hW)) (FA W (bt (hB) hW))
      clear FA HB_w7 hz_w7 KR
      have FA := FN
      clear FN
      have KR := Free.Bel.refl w8
      clear hB HDL
      have hl60 : ls.length ≤ 12 := by rw [hln.out]; exact hn12
      go_wp2_with fail
      refine (todayP_v h xs _ w8 (FA w8 (Free.Bel.refl _)).2.2.2.1.out (FA w8 (Free.Bel.refl _)).2.2.2.2.1.out 0 (by show _ = _; unfold goE; rw [if_pos HW.out, if_pos HE.out])).mono ?_
      rintro e w9 ⟨hS, hB⟩
      obtain ⟨vt, rfl, bt0, hrt⟩ : ∃ v, e = .returned (.tuple #[v, .int .i64 0]) ∧ DayR (stepE h xs) v w9 := by
        rcases hS with ⟨h9, _⟩ | ⟨_, h9⟩
        · exact absurd rfl h9
        · exact h9
      obtain ⟨td, htd⟩ : ∃ x, stepE h xs = x := ⟨_, rfl⟩
      rw [htd] at hrt
      have HTD := Lib.hid htd
      have HTT : Hid (turnB h xs td = true) := by show _ = _; rw [← htd]; exact plan_turn HW.out HE.out 0
      obtain ⟨qt, ct, rfl⟩ := row_slice hrt
      have htl : td.length ≤ maxLen := by
        have h1 := HTT.out
        unfold turnB at h1
        rw [Bool.and_eq_true, decide_eq_true_eq] at h1
        have := (watchB_iff.1 HW.out).1
        unfold maxLen
        omega
      have HIT := Lib.hid (IL.of_own htl hrt)
      clear hS htd hrt
      have HB_w9 := Lib.hid (HB_w8.out.trans ((hB).mono hz_w8))
      have hz_w9 : bb ≤ w9.heap.size := Nat.le_trans hz_w8 (hB).size
      have FN := fun (W : World) (hW : Free.Bel w9 W) => And.intro (Lib.hid (HIT.out.keeps hW)) (FA W (bt (hB) hW))
      clear FA HB_w8 hz_w8 KR
      have FA := FN
      clear FN
      have KR := Free.Bel.refl w9
      clear hB HIT htl
      have hpos : Hid (∀ x ∈ xs, 1 ≤ x.1) := fun x hx => by have := watchB_ok HW.out x hx; unfold okR at this; omega
      have hva : Hid (validB h xs ls = true) := by show _ = _; unfold validB; rw [HLV.out.1, decide_eq_true (by omega)]; rfl
      have hnb : (((ls.length : Nat) : Int) != (n : Int)) = false := by rw [hln.out]; simp
      go_upto_region 12 with fail
      go_cut [109] (fun s109 W => s109 = .bool false ∧ Free.Bel w9 W)
      case first =>
        have HL_w9 : Free.Bel w9 w9 := Free.Bel.refl _
        go_wp2_with fail
        refine (validR_v h xs ls _ _ w9 (FA w9 (Free.Bel.refl _)).2.2.2.2.2.1.out (((FA w9 (Free.Bel.refl _)).2.1).out.dz (by unfold maxLen; omega) (fun d hd => day_max HW.out HLV.out.1 hd)).dl hpos.out true hva).mono ?_
        rintro e w10 ⟨rfl, hB⟩
        have HB_w10 := Lib.hid (HB_w9.out.trans ((hB).mono hz_w9))
        have hz_w10 : bb ≤ w10.heap.size := Nat.le_trans hz_w9 (hB).size
        have HL_w10 : Free.Bel w9 w10 := bt HL_w9 (hB)
        clear HL_w9
        have FN := fun (W : World) (hW : Free.Bel w10 W) => FA W (bt (hB) hW)
        clear FA HB_w9 hz_w9 KR
        have FA := FN
        clear FN
        have KR := Free.Bel.refl w10
        clear hB
        go_wp2_with fail
        refine (turnR_v h xs td _ _ w10 (FA w10 (Free.Bel.refl _)).2.2.2.2.2.1.out ((FA w10 (Free.Bel.refl _)).1).out hpos.out true HTT).mono ?_
        rintro e w11 ⟨rfl, hB⟩
        have HB_w11 := Lib.hid (HB_w10.out.trans ((hB).mono hz_w10))
        have hz_w11 : bb ≤ w11.heap.size := Nat.le_trans hz_w10 (hB).size
        have HL_w11 : Free.Bel w9 w11 := bt HL_w10 (hB)
        clear HL_w10
        have FN := fun (W : World) (hW : Free.Bel w11 W) => FA W (bt (hB) hW)
        clear FA HB_w10 hz_w10 KR
        have FA := FN
        clear FN
        have KR := Free.Bel.refl w11
        clear hB
        by_cases hn0 : 0 < n
        · have hnp : (0 : Int) < n := by omega
          have hnpb : decide ((0 : Int) < n) = true := decide_eq_true hnp
          have hl0 : 0 < ls.length := by rw [hln.out]; exact hn0
          have hl0i : (0 : Int) < ls.length := by omega
          obtain ⟨py, cy, hey, hmy, hcy⟩ := (((FA w11 (Free.Bel.refl _)).2.1).out.dz (by unfold maxLen; omega) (fun d hd => day_max HW.out HLV.out.1 hd)).dl
          cases hey
          obtain ⟨b5, off5, rfl, hc5⟩ := hcy (by intro e; simp [e] at hl0)
          obtain ⟨u5, e1, il1⟩ := hc5 0 hl0
          have hg0 : ls[0]'hl0 = td := by
            have h9 := planL_get h xs n 0 (by rw [planL_length]; exact hn0)
            rw [← HTD.out]
            simp only [← HLS.out]
            exact h9
          rw [hg0] at il1
          have HI1 := Lib.hid il1
          obtain ⟨p5, d5, rfl, hj1, hj2⟩ := il1
          rw [Nat.add_zero] at e1
          clear hj1 hj2 hc5 hcy hmy hg0
          have FN : ∀ W, Free.Bel w11 W → Hid (IL td (.slice qt td.length ct) W) ∧ Hid (DO s1 ls (.slice (some ⟨b5, off5, none⟩) (List.length (ls)) c1) W) ∧ W.cell? ⟨bb, 0, none⟩ = some (.int .i64 h) ∧ W.cell? ⟨bb, 1, none⟩ = some (.slice p xs.length cp) ∧ Hid (TabR W) ∧ Hid (RL xs (.slice p xs.length cp) W) ∧ bb + 1 ≤ W.heap.size ∧ bb ≤ W.heap.size ∧ W.cell? ⟨b5, off5, none⟩ = some (.slice p5 td.length d5) ∧ Hid (IL td (.slice p5 td.length d5) W) := fun W hW => by
            obtain ⟨a0, a1, a2, a3, a4, a5, a6, a7⟩ := FA W hW
            exact ⟨a0, a1, a2, a3, a4, a5, a6, a7, keepsB hW e1, Lib.hid (HI1.out.keeps hW)⟩
          clear FA
          have FA := FN
          clear FN
          clear e1
          go_wp2_with fail
          refine (sameI_any td _ _ w11 ((FA w11 (Free.Bel.refl _)).2.2.2.2.2.2.2.2.2).out ((FA w11 (Free.Bel.refl _)).1).out).mono ?_
          rintro e w12 ⟨rfl, hB⟩
          have HB_w12 := Lib.hid (HB_w11.out.trans ((hB).mono hz_w11))
          have hz_w12 : bb ≤ w12.heap.size := Nat.le_trans hz_w11 (hB).size
          have HL_w12 : Free.Bel w9 w12 := bt HL_w11 (hB)
          clear HL_w11
          have FN := fun (W : World) (hW : Free.Bel w12 W) => FA W (bt (hB) hW)
          clear FA HB_w11 hz_w11 KR
          have FA := FN
          clear FN
          have KR := Free.Bel.refl w12
          clear hB
          go_wp2_with fail
          go_meet
          exact ⟨rfl, HL_w12⟩
        · have hnp : ¬ (0 : Int) < n := by omega
          have hnpb : decide ((0 : Int) < n) = false := decide_eq_false hnp
          go_wp2_with fail
          go_meet
          exact ⟨rfl, HL_w11⟩
      obtain ⟨rfl, hN⟩ := hcut
      obtain ⟨w13, hwc⟩ : ∃ x, x = wc := ⟨_, rfl⟩
      subst hwc
      have HB_w13 := Lib.hid (HB_w9.out.trans ((hN).mono hz_w9))
      have hz_w13 : bb ≤ w13.heap.size := Nat.le_trans hz_w9 (hN).size
      have FN := fun (W : World) (hW : Free.Bel w13 W) => FA W (bt (hN) hW)
      clear FA HB_w9 hz_w9 KR
      have FA := FN
      clear FN
      have KR := Free.Bel.refl w13
      clear hN
      go_wp2_with fail
      have hask : Hid (askE h xs ls = 0) := ask_valid HW.out (by omega) HLV.out.1
      refine (hot_at h xs ls _ _ w13 (FA w13 (Free.Bel.refl _)).2.2.2.2.1.out (FA w13 (Free.Bel.refl _)).2.2.2.2.2.1.out (((FA w13 (Free.Bel.refl _)).2.1).out.dz (by unfold maxLen; omega) (fun d hd => day_max HW.out HLV.out.1 hd)).dl (by omega) hask.out [] (by have h9 := HLV.out.2; unfold coolD at h9; exact List.isEmpty_iff.1 h9)).mono ?_
      rintro e w14 ⟨⟨p7, c7, rfl, hpl⟩, hB⟩
      clear hpl
      have HB_w14 := Lib.hid (HB_w13.out.trans ((hB).mono hz_w13))
      have hz_w14 : bb ≤ w14.heap.size := Nat.le_trans hz_w13 (hB).size
      have FN := fun (W : World) (hW : Free.Bel w14 W) => FA W (bt (hB) hW)
      clear FA HB_w13 hz_w13 KR
      have FA := FN
      clear FN
      have KR := Free.Bel.refl w14
      clear hB
      go_wp2_with fail
      obtain ⟨PS, hps⟩ : ∃ y, planS h xs n = y := ⟨_, rfl⟩
      have HPS := Lib.hid hps
      have HPW : Hid (watchB h PS = true ∧ everB h PS = true ∧ PS.map (·.1) = xs.map (·.1)) := by show _ ∧ _; rw [← hps]; exact plan_state HW.out HE.out n
      have HPE : Hid (endR xs ls = PS) := by show _ = _; rw [← HLS.out, planS_end, hps]
      have hpl4 : PS.length ≤ 4 := (watchB_iff.1 HPW.out.1).2.1
      have HAF := Lib.hid (aft_cool hask.out HLV.out.2)
      clear hps
      have HF1 := Lib.hid (show Calls Tryd.prog 23 #[.agg #[.int .i64 h, .slice p xs.length cp], .slice q1 ls.length c1] w14 fun e w' => (∃ u, e = .returned (.tuple #[.agg #[.int .i64 h, u], .int .i64 0]) ∧ w'.ownsRow w14.heap.size 47 3 u PS.length (cellsR PS)) ∧ Below w14.heap.size w14 w' from by
        have h9 := aftP_any h xs ls _ _ w14 (FA w14 (Free.Bel.refl _)).2.2.2.2.1.out (FA w14 (Free.Bel.refl _)).2.2.2.2.2.1.out HNZ.out (((FA w14 (Free.Bel.refl _)).2.1).out.dz (by unfold maxLen; omega) (fun d hd => day_max HW.out HLV.out.1 hd)).dl (by omega)
        rw [HAF.out.1, HAF.out.2.1, HAF.out.2.2, HPE.out] at h9
        exact h9)
      refine (HF1.out).mono ?_
      rintro e w15 ⟨⟨v1, rfl, ho1⟩, hB⟩
      obtain ⟨qr15, kr15, rfl⟩ := row_slice ho1
      have hoC := row_mono ho1 hz_w14
      have HB_w15 := Lib.hid (HB_w14.out.trans ((hB).mono hz_w14))
      have hz_w15 : bb ≤ w15.heap.size := Nat.le_trans hz_w14 (hB).size
      have FN := fun (W : World) (hW : Free.Bel w15 W) => And.intro (Lib.hid (bel_row hoC hW)) (FA W (bt (hB) hW))
      clear FA HB_w14 hz_w14 KR
      have FA := FN
      clear FN
      have KR := Free.Bel.refl w15
      clear hB ho1 hoC
      have KA0 : Free.Bel w15 (w15.alloc (.cells #[.int .i64 (h), .slice qr15 (List.length (PS)) kr15] 24)) := Bel.allocT (Free.Bel.refl _) _
      go_wp2_with fail
      clear KA0
      have hN : Free.Bel w15 (w15.alloc (.cells #[.int .i64 (h), .slice qr15 (List.length (PS)) kr15] 24)) := (Bel.allocT (Free.Bel.refl w15) _)
      have n_g150_0 : (w15.alloc (.cells #[.int .i64 (h), .slice qr15 (List.length (PS)) kr15] 24)).cell? ⟨w15.heap.size, 0, none⟩ = some (.int .i64 (h)) := by simp [go_sem]
      have n_g150_1 : (w15.alloc (.cells #[.int .i64 (h), .slice qr15 (List.length (PS)) kr15] 24)).cell? ⟨w15.heap.size, 1, none⟩ = some (.slice qr15 (List.length (PS)) kr15) := by simp [go_sem]
      generalize (w15.alloc (.cells #[.int .i64 (h), .slice qr15 (List.length (PS)) kr15] 24)) = w16 at *
      obtain ⟨g150, hgz⟩ : ∃ x, x = w15.heap.size := ⟨_, rfl⟩
      rw [← hgz] at n_g150_0 n_g150_1 ⊢
      clear hgz
      have HB_w16 := Lib.hid (HB_w15.out.trans ((hN).mono hz_w15))
      have hz_w16 : bb ≤ w16.heap.size := Nat.le_trans hz_w15 (hN).size
      have FN := fun (W : World) (hW : Free.Bel w16 W) => And.intro (keepsB hW n_g150_0) (And.intro (keepsB hW n_g150_1) (FA W (bt (hN) hW)))
      clear FA HB_w15 hz_w15 KR
      have FA := FN
      clear FN
      have KR := Free.Bel.refl w16
      clear hN n_g150_0 n_g150_1
      clear HF1
      refine (can_at h PS _ w16 (FA w16 (Free.Bel.refl _)).2.2.2.2.2.2.2.1.out (RL.of_row rfl (by unfold maxLen; omega) ((FA w16 (Free.Bel.refl _)).2.2.1).out) HPW.out.1 true (Lib.hid HPW.out.2.1)).mono ?_
      rintro e w17 ⟨rfl, hB⟩
      have HB_w17 := Lib.hid (HB_w16.out.trans ((hB).mono hz_w16))
      have hz_w17 : bb ≤ w17.heap.size := Nat.le_trans hz_w16 (hB).size
      have FN := fun (W : World) (hW : Free.Bel w17 W) => FA W (bt (hB) hW)
      clear FA HB_w16 hz_w16 KR
      have FA := FN
      clear FN
      have KR := Free.Bel.refl w17
      clear hB
      have h12w : IntKind.i64.wrap (12 - (n : Int)) = 12 - (n : Int) := IntWalk.i64_in _ (by omega)
      go_wp2_with fail
      have HD1 : Hid (daysE h PS (12 - (n : Int)) = 0) := by
        show _ = _
        unfold daysE goE
        rw [if_pos HPW.out.1, if_pos (by simp [inB]; omega), if_pos HPW.out.1, if_pos HPW.out.2.1]
      refine (daysP_v h PS (12 - (n : Int)) _ w17 (FA w17 (Free.Bel.refl _)).2.2.2.2.2.2.2.1.out (RL.of_row rfl (by unfold maxLen; omega) ((FA w17 (Free.Bel.refl _)).2.2.1).out) 0 HD1).mono ?_
      rintro e w18 ⟨hS, hB⟩
      obtain ⟨v2, rfl, hdo⟩ : ∃ v, e = .returned (.tuple #[v, .int .i64 0]) ∧ DO w17.heap.size (planL h PS ((12 - (n : Int)) : Int).toNat) v w18 := by
        rcases hS with ⟨h9, _⟩ | ⟨_, h9⟩
        · exact absurd rfl h9
        · exact h9
      obtain ⟨s2, hs9⟩ : ∃ x, w17.heap.size = x := ⟨_, rfl⟩
      rw [hs9] at hdo
      clear hs9 hS
      obtain ⟨lr, hlr⟩ : ∃ x, planL h PS (12 - (n : Int)).toNat = x := ⟨_, rfl⟩
      rw [hlr] at hdo
      have HLR := Lib.hid hlr
      have hrn : Hid (lr.length = 12 - n) := by show _ = _; rw [← hlr, planL_length]; omega
      have HRV : Hid (lr.all (turnB h xs) = true) := by show _ = _; rw [← hlr, ← turnB_ids HPW.out.2.2]; exact plan_valid HPW.out.1 HPW.out.2.1 _
      clear hlr
      have HDL := Lib.hid hdo
      obtain ⟨vsx, hvlx, howx, hvdx⟩ := hdo
      obtain ⟨q2, c2, rfl⟩ := row_slice howx
      clear hvlx howx hvdx
      have HB_w18 := Lib.hid (HB_w17.out.trans ((hB).mono hz_w17))
      have hz_w18 : bb ≤ w18.heap.size := Nat.le_trans hz_w17 (hB).size
      have FN := fun (W : World) (hW : Free.Bel w18 W) => And.intro (Lib.hid (HDL.out.bel hW)) (FA W (bt (hB) hW))
      clear FA HB_w17 hz_w17 KR
      have FA := FN
      clear FN
      have KR := Free.Bel.refl w18
      clear hB HDL
      have hr60 : lr.length ≤ 12 := by rw [hrn.out]; omega
      go_wp2_with fail
      refine (daysP_v h xs (12 : Int) _ w18 (FA w18 (Free.Bel.refl _)).2.2.2.2.2.2.2.2.1.out (FA w18 (Free.Bel.refl _)).2.2.2.2.2.2.2.2.2.1.out 0 (HD0.out 12 (by decide) (by decide))).mono ?_
      rintro e w19 ⟨hS, hB⟩
      obtain ⟨v3, rfl, hdo⟩ : ∃ v, e = .returned (.tuple #[v, .int .i64 0]) ∧ DO w18.heap.size (planL h xs ((12 : Int) : Int).toNat) v w19 := by
        rcases hS with ⟨h9, _⟩ | ⟨_, h9⟩
        · exact absurd rfl h9
        · exact h9
      obtain ⟨s3, hs9⟩ : ∃ x, w18.heap.size = x := ⟨_, rfl⟩
      rw [hs9] at hdo
      clear hs9 hS
      obtain ⟨la, hla⟩ : ∃ x, planL h xs (12 : Int).toNat = x := ⟨_, rfl⟩
      rw [hla] at hdo
      have HLA : Hid (la = ls ++ lr) := by
        show _ = _
        rw [← hla, ← HLS.out, ← HLR.out, ← HPS.out, show (12 : Int).toNat = 12 from rfl, show (12 - (n : Int)).toNat = 12 - n by omega]
        exact (plan_days n 12 hn12).symm
      have hal : Hid (la.length = 12) := by show _ = _; rw [← hla, planL_length]; rfl
      have HAV : Hid (la.all (turnB h xs) = true) := by show _ = _; rw [← hla]; exact plan_valid HW.out HE.out _
      clear hla
      have HDL := Lib.hid hdo
      obtain ⟨vsx, hvlx, howx, hvdx⟩ := hdo
      obtain ⟨q3, c3, rfl⟩ := row_slice howx
      clear hvlx howx hvdx
      have HB_w19 := Lib.hid (HB_w18.out.trans ((hB).mono hz_w18))
      have hz_w19 : bb ≤ w19.heap.size := Nat.le_trans hz_w18 (hB).size
      have FN := fun (W : World) (hW : Free.Bel w19 W) => And.intro (Lib.hid (HDL.out.bel hW)) (FA W (bt (hB) hW))
      clear FA HB_w18 hz_w18 KR
      have FA := FN
      clear FN
      have KR := Free.Bel.refl w19
      clear hB HDL
      have ha60 : la.length ≤ 12 := by rw [hal.out]; omega
      go_upto_region 19 with fail
      go_cut [175] (fun s175 W => s175 = .bool false ∧ Free.Bel w19 W)
      case first =>
        have HL_w19 : Free.Bel w19 w19 := Free.Bel.refl _
        obtain ⟨vs1, hvl1, how1, hvd1⟩ := ((FA w19 (Free.Bel.refl _)).2.2.2.2.2.2.1).out
        obtain ⟨vs2, hvl2, how2, hvd2⟩ := ((FA w19 (Free.Bel.refl _)).2.1).out
        have ho1 := do_one hvl1 hvd1
        have ho2 := do_one hvl2 hvd2
        obtain ⟨hr1, hn1⟩ := row_cells how1
        obtain ⟨hr2, hn2⟩ := row_cells how2
        have KA : Free.Bel w19 (w19.alloc (.cells #[] 58)) := belAlloc _ _
        have hlit : (w19.alloc (.cells #[] 58)).ownsRow w19.heap.size 58 1 (.slice (some ⟨w19.heap.size, 0, none⟩) 0 0) 0 [] := ⟨by simp, .inr ⟨w19.heap.size, 0, #[], rfl, Nat.le_refl _, World.alloc_heap_new _ _, Nat.le_refl _, by simp, by simp, by simp⟩⟩
        have HVD := Lib.hid (And.intro hvl1 (And.intro hvd1 (And.intro hvl2 hvd2)))
        have HV1 := Lib.hid (And.intro hr1 (And.intro hn1 (And.intro ho1 (show vs1.length = ls.length from hvl1))))
        have HV2 := Lib.hid (And.intro hr2 (And.intro hn2 (And.intro ho2 (show vs2.length = lr.length from hvl2))))
        have HKA := Lib.hid KA
        have HLIT := Lib.hid hlit
        clear hvl1 hvd1 hvl2 hvd2 hr1 hn1 hr2 hn2 ho1 ho2 hlit how1 how2
        go_wp2_with (first | (at_builtin; (refine wpList_append_any (by first | rfl | simp [Region.wanted, yielded, go_sem]) _ _ 25 rfl w19.heap.size 58 i1 (.slice none 0 0) 1 24 Tryd.underlying25 HY.out.1 HY.out.2.1 HY.out.2.2.1 HY.out.2.2.2 rfl (by decide) _ 0 [] rfl HLIT.out q1 ls.length c1 vs1 rfl (by rw [HV1.out.2.2.2]; simp) (HV1.out.1 _ HKA.out) HV1.out.2.1 HV1.out.2.2.1 (by unfold maxLen; omega) (by omega) (by simp) ?_); intro v9 w9 hown8 hb9; have HK9 := Lib.hid (show Free.Bel w19 w9 from Below.trans (show Below w19.heap.size w19 (w19.alloc (.cells #[] 58)) from HKA.out) hb9); have hown9 : w9.ownsRow w19.heap.size 58 1 v9 ls.length vs1 := (by simpa using hown8); clear hown8 hb9; obtain ⟨p9, c9, hv9⟩ := row_slice hown9; subst hv9) | (at_builtin; go_loud (refine wpList_append_any (by first | rfl | simp [Region.wanted, yielded, go_sem]) _ _ 25 rfl w19.heap.size 58 i1 (.slice none 0 0) 1 24 Tryd.underlying25 HY.out.1 HY.out.2.1 HY.out.2.2.1 HY.out.2.2.2 rfl (by decide) _ ls.length vs1 rfl hown9 q2 lr.length c2 vs2 rfl (by rw [HV2.out.2.2.2]; simp) (HV2.out.1 _ HK9.out) HV2.out.2.1 HV2.out.2.2.1 (by unfold maxLen; omega) (by omega) HK9.out.size ?_); intro v8 w8 hown8 hb8; have HK8 := Lib.hid (show Free.Bel w19 w8 from Below.trans (show Below w19.heap.size w19 w9 from HK9.out) hb8); have HO8 := Lib.hid hown8; obtain ⟨p8, c8, hv8⟩ := row_slice hown8; subst hv8; clear hown8 hb8 hown9) | fail)
        have HDLA : Hid (DL la (.slice p8 (ls.length + lr.length) c8) w8) := by
          rw [HLA.out]
          refine dl_row (vs := vs1 ++ vs2) (by simp [HV1.out.2.2.2, HV2.out.2.2.2]) (by simp; unfold maxLen; omega) (by simpa using HO8.out) fun i hi u hu => ?_
          obtain ⟨k1, k2, k3, k4⟩ := HVD.out
          by_cases hil : i < ls.length
          · rw [List.getElem?_append_left (by omega)] at hu
            rw [List.getElem_append_left hil]
            obtain ⟨b0, hr⟩ := (k2 i hil u hu).stay fun k c f hk => ((show Free.Bel w19 w8 from HK8.out).block k (lt_of_heap hk)).trans hk
            exact IL.of_own (day_max HW.out HLV.out.1 (List.getElem_mem hil)) hr
          · rw [List.getElem?_append_right (by omega)] at hu
            have hi2 : i - ls.length < lr.length := by simp at hi; omega
            rw [List.getElem_append_right (by omega)]
            rw [show i - vs1.length = i - ls.length by rw [HV1.out.2.2.2]] at hu
            obtain ⟨b0, hr⟩ := (k4 (i - ls.length) hi2 u hu).stay fun k c f hk => ((show Free.Bel w19 w8 from HK8.out).block k (lt_of_heap hk)).trans hk
            exact IL.of_own (day_max HW.out HRV.out (List.getElem_mem hi2)) hr
        have hB8 : Free.Bel w19 w8 := HK8.out
        clear KA
        have HB_w8 := Lib.hid (HB_w19.out.trans ((hB8).mono hz_w19))
        have hz_w8 : bb ≤ w8.heap.size := Nat.le_trans hz_w19 (hB8).size
        have HL_w8 : Free.Bel w19 w8 := bt HL_w19 (hB8)
        clear HL_w19
        have FN := fun (W : World) (hW : Free.Bel w8 W) => FA W (bt (hB8) hW)
        clear FA HB_w19 hz_w19 KR
        have FA := FN
        clear FN
        have KR := Free.Bel.refl w8
        clear hB8
        refine (sameD_any la _ _ w8 HDLA.out (((FA w8 (Free.Bel.refl _)).1).out.dz (by unfold maxLen; omega) (fun d hd => day_max HW.out HAV.out hd)).dl).mono ?_
        rintro e w20 ⟨rfl, hB⟩
        have HB_w20 := Lib.hid (HB_w8.out.trans ((hB).mono hz_w8))
        have hz_w20 : bb ≤ w20.heap.size := Nat.le_trans hz_w8 (hB).size
        have HL_w20 : Free.Bel w19 w20 := bt HL_w8 (hB)
        clear HL_w8
        have FN := fun (W : World) (hW : Free.Bel w20 W) => FA W (bt (hB) hW)
        clear FA HB_w8 hz_w8 KR
        have FA := FN
        clear FN
        have KR := Free.Bel.refl w20
        clear hB
        go_wp2_with fail
        go_meet
        exact ⟨rfl, HL_w20⟩
      obtain ⟨rfl, hN⟩ := hcut
      obtain ⟨w21, hwc⟩ : ∃ x, x = wc := ⟨_, rfl⟩
      subst hwc
      have HB_w21 := Lib.hid (HB_w19.out.trans ((hN).mono hz_w19))
      have hz_w21 : bb ≤ w21.heap.size := Nat.le_trans hz_w19 (hN).size
      have FN := fun (W : World) (hW : Free.Bel w21 W) => FA W (bt (hN) hW)
      clear FA HB_w19 hz_w19 KR
      have FA := FN
      clear FN
      have KR := Free.Bel.refl w21
      clear hN
      go_wp2_with fail
      refine (turns_any h xs o _ w21 (FA w21 (Free.Bel.refl _)).2.2.2.2.2.2.2.2.2.2.1.out HW.out).mono ?_
      rintro e w22 ⟨⟨v2, x, rfl, ht2, hl2, ho2⟩, hB⟩
      obtain ⟨qx, cx, rfl⟩ := row_slice ho2
      have HTX2 := Lib.hid ht2
      have HIX := Lib.hid (IL.of_own (by unfold maxLen; omega) ho2)
      have hx4 : x.length ≤ 4 := hl2
      clear ht2 hl2 ho2
      have HB_w22 := Lib.hid (HB_w21.out.trans ((hB).mono hz_w21))
      have hz_w22 : bb ≤ w22.heap.size := Nat.le_trans hz_w21 (hB).size
      have FN := fun (W : World) (hW : Free.Bel w22 W) => And.intro (Lib.hid (HIX.out.keeps hW)) (FA W (bt (hB) hW))
      clear FA HB_w21 hz_w21 KR
      have FA := FN
      clear FN
      have KR := Free.Bel.refl w22
      clear hB HIX
      go_wp2_with fail
      obtain ⟨rb, hrb⟩ : ∃ y, beforeL x td = y := ⟨_, rfl⟩
      have HRB := Lib.hid hrb
      clear hrb
      refine (bef_v x td _ _ w22 ((FA w22 (Free.Bel.refl _)).1).out ((FA w22 (Free.Bel.refl _)).2.2.2.2.2.2.1).out rb HRB).mono ?_
      rintro e w23 ⟨rfl, hB⟩
      have HB_w23 := Lib.hid (HB_w22.out.trans ((hB).mono hz_w22))
      have hz_w23 : bb ≤ w23.heap.size := Nat.le_trans hz_w22 (hB).size
      have FN := fun (W : World) (hW : Free.Bel w23 W) => FA W (bt (hB) hW)
      clear FA HB_w22 hz_w22 KR
      have FA := FN
      clear FN
      have KR := Free.Bel.refl w23
      clear hB
      cases rb with
      | false =>
        go_wp2_with fail
        go_ret
        have hbb := HBB.out
        subst hbb
        exact ⟨rfl, HB_w23.out⟩
      | true =>
        go_wp2_with fail
        have hax : Hid (askE h xs [x] = 0) := ask_valid HW.out (by simp) (by simp only [List.all_cons, List.all_nil, Bool.and_true]; exact HTX2.out)
        obtain ⟨H4, hH⟩ : ∃ y, aftH h xs [x] = y := ⟨_, rfl⟩
        obtain ⟨L4, hL⟩ : ∃ y, aftL h xs [x] = y := ⟨_, rfl⟩
        obtain ⟨E4, hE⟩ : ∃ y, aftE h xs [x] = y := ⟨_, rfl⟩
        have HA4 := Lib.hid (And.intro hE (And.intro hH hL))
        have hL4 : Hid (L4.length ≤ 4) := by show _ ≤ _; rw [← hL]; exact Nat.le_trans (aftL_len _ _ _) (watchB_iff.1 HW.out).2.1
        clear hE hH hL
        have HF4 := Lib.hid (fun (W : World) (hW : Free.Bel w23 W) (v : Value) (hv : D1 (.slice qx x.length cx) v W) => show Calls Tryd.prog 23 #[.agg #[.int .i64 h, .slice p xs.length cp], v] W fun e w' => (∃ u, e = .returned (.tuple #[.agg #[.int .i64 H4, u], .int .i64 E4]) ∧ w'.ownsRow W.heap.size 47 3 u L4.length (cellsR L4)) ∧ Below W.heap.size W w' from by
          have h9 := aftP_any h xs [x] _ v W (FA W hW).2.2.2.2.2.2.2.2.2.2.1.out (FA W hW).2.2.2.2.2.2.2.2.2.2.2.1.out HNZ.out (hv.dl ((FA W hW).1).out) (by simp)
          rw [HA4.out.1, HA4.out.2.1, HA4.out.2.2] at h9
          exact h9)
        have FBW : ∀ W', RQt 24 w23.heap.size w23.drew W' → Free.Bel w23 W' := fun W' hR => bt (Bel.drewT (Free.Bel.refl _)) (show Free.Bel w23.drew W' from hR.below)
        have hF := fun (W' : World) (hR : RQt 24 w23.heap.size w23.drew W') => FA W' (FBW W' hR)
        refine Free2.wp_free (R := RQt 24 w23.heap.size) (J := JK 24 w23.heap.size 6 8 9) (by kernel_rfl) (by kernel_rfl) (RQt.refl _ _) (fun _ _ _ => RQt.trans) (JK.start (Nat.le_refl _)) ?_
        refine Free2.Chain.ex ?_ 0 rfl [] [3] (by kernel_rfl) (by kernel_rfl) rfl (RQt.refl _ _) (fun X W v h => JK.skip h 0 v (by decide) (by decide) (fun e => absurd e (by decide))) ?_ ?_
        rotate_left
        · (intro ev W hb hR hO hD; have hS := hF W hR; obtain ⟨hb1, hb2, hb3⟩ := hb; simp only [Free.AllDeps, Free.AllOuts, Free.At, al1, al2, al3, al4, al5, and_true] at hO hD; go_simp; rfl)
        simp only [an1, an2]
        refine Free2.Chain.ex ?_ 1 rfl [] [25] (by kernel_rfl) (by kernel_rfl) rfl (RQt.refl _ _) (fun X W v h => JK.skip h 1 v (by decide) (by decide) (fun e => absurd e (by decide))) ?_ ?_
        rotate_left
        · (intro ev W hb hR hO hD; have hS := hF W hR; obtain ⟨hb1, hb2, hb3⟩ := hb; simp only [Free.AllDeps, Free.AllOuts, Free.At, al1, al2, al3, al4, al5, and_true] at hO hD; go_simp; rfl)
        simp only [an1, an2]
        refine Free2.Chain.pr (D1 (.slice qx x.length cx)) 2 rfl [(1, 186)] [] (by kernel_rfl) (by kernel_rfl) rfl (D1.stable _ _) ?_ ?_
        · (intro ev W X hb hR hO hD hj hx hax; have hS := hF W hR; obtain ⟨hb1, hb2, hb3⟩ := hb; simp only [Free.AllDeps, Free.AllOuts, Free.At, al1, al2, al3, al4, al5, and_true] at hO hD; simp only [Free2.AllX, and_true] at hax; go_simp; exact ⟨RQt.of_bel (belAlloc _ _) hj.size, ⟨W.heap.size, rfl, World.alloc_heap_new _ _⟩, JK.skip (JK.bel hj (belAlloc _ _)) 2 _ (by decide) (by decide) (fun e => absurd e (by decide))⟩)
        simp only [an1, an2]
        refine Free2.Chain.pr (D1 (.slice qx x.length cx)) 3 rfl [(2, 187)] [] (by kernel_rfl) (by kernel_rfl) rfl (D1.stable _ _) ?_ ?_
        · (intro ev W X hb hR hO hD hj hx hax; have hS := hF W hR; obtain ⟨hb1, hb2, hb3⟩ := hb; simp only [Free.AllDeps, Free.AllOuts, Free.At, al1, al2, al3, al4, al5, and_true] at hO hD; simp only [Free2.AllX, and_true] at hax; obtain ⟨g9, hg9, hh9⟩ := hD; go_simp; refine yields_enter ?_; (with_reducible refine (daysX_any _ _).mono ?_); rintro e W2 ⟨rfl, rfl⟩; exact ⟨_, rfl, RQt.refl _ _ _, ⟨g9, rfl, hh9⟩, JK.skip hj 3 _ (by decide) (by decide) (fun e => absurd e (by decide))⟩)
        simp only [an1, an2]
        refine Free2.Chain.pr (AftV w23.heap.size (H4) (L4) (E4)) 4 rfl [(0, 185), (3, 188), (3, 188)] [] (by kernel_rfl) (by kernel_rfl) rfl (AftV.stable _ _ _ _ _) ?_ ?_
        · (intro ev W X hb hR hO hD hj hx hax; have hS := hF W hR; obtain ⟨hb1, hb2, hb3⟩ := hb; simp only [Free.AllDeps, Free.AllOuts, Free.At, al1, al2, al3, al4, al5, and_true] at hO hD; simp only [Free2.AllX, and_true] at hax; have hb := FBW W hR; go_simp; refine yields_enter ?_; (with_reducible refine ((HF4.out W hb _ hD.2.1)).mono ?_); rintro e W2 ⟨⟨u9, rfl, ho9⟩, hB2⟩; exact ⟨_, rfl, RQt.of_bel hB2 hj.size, ⟨u9, rfl, row_mono ho9 hj.size⟩, JK.skip (JK.bel hj hB2) 4 _ (by decide) (by decide) (fun e => absurd e (by decide))⟩)
        simp only [an1, an2]
        refine Free2.Chain.pr (AftV w23.heap.size (H4) (L4) (E4)) 5 rfl [(4, 189)] [] (by kernel_rfl) (by kernel_rfl) rfl (AftV.stable _ _ _ _ _) ?_ ?_
        · (intro ev W X hb hR hO hD hj hx hax; have hS := hF W hR; obtain ⟨hb1, hb2, hb3⟩ := hb; simp only [Free.AllDeps, Free.AllOuts, Free.At, al1, al2, al3, al4, al5, and_true] at hO hD; simp only [Free2.AllX, and_true] at hax; obtain ⟨u9, hu9, ho9⟩ := hD; go_simp; exact ⟨RQt.refl _ _ _, ⟨u9, rfl, ho9⟩, JK.skip hj 5 _ (by decide) (by decide) (fun e => absurd e (by decide))⟩)
        simp only [an1, an2]
        refine Free2.Chain.pr (AftW w23.heap.size (H4) (L4)) 6 rfl [(5, 184)] [] (by kernel_rfl) (by kernel_rfl) rfl (AftW.stable _ _ _ _) ?_ ?_
        · (intro ev W X hb hR hO hD hj hx hax; have hS := hF W hR; obtain ⟨hb1, hb2, hb3⟩ := hb; simp only [Free.AllDeps, Free.AllOuts, Free.At, al1, al2, al3, al4, al5, and_true] at hO hD; simp only [Free2.AllX, and_true] at hax; obtain ⟨u9, hu9, ho9⟩ := hD; go_simp; exact ⟨RQt.refl _ _ _, ⟨u9, rfl, ho9⟩, JK.skip hj 6 _ (by decide) (by decide) (fun _ => hx)⟩)
        simp only [an1, an2]
        refine Free2.Chain.pr (fun v _ => v = .int .i64 (E4)) 7 rfl [(5, 184)] [] (by kernel_rfl) (by kernel_rfl) rfl (fun _ _ _ _ h => h) ?_ ?_
        · (intro ev W X hb hR hO hD hj hx hax; have hS := hF W hR; obtain ⟨hb1, hb2, hb3⟩ := hb; simp only [Free.AllDeps, Free.AllOuts, Free.At, al1, al2, al3, al4, al5, and_true] at hO hD; simp only [Free2.AllX, and_true] at hax; obtain ⟨u9, hu9, ho9⟩ := hD; go_simp; first | exact ⟨RQt.refl _ _ _, rfl, JK.skip hj 7 _ (by decide) (by decide) (fun e => absurd e (by decide))⟩ | exact ⟨RQt.refl _ _ _, JK.skip hj 7 _ (by decide) (by decide) (fun e => absurd e (by decide))⟩)
        simp only [an1, an2]
        refine Free2.Chain.pr (fun _ _ => True) 8 rfl [] [] (by kernel_rfl) (by kernel_rfl) rfl (fun _ _ _ _ h => h) ?_ ?_
        · (intro ev W X hb hR hO hD hj hx hax; have hS := hF W hR; obtain ⟨hb1, hb2, hb3⟩ := hb; simp only [Free.AllDeps, Free.AllOuts, Free.At, al1, al2, al3, al4, al5, and_true] at hO hD; simp only [Free2.AllX, and_true] at hax; go_simp; exact ⟨RQt.of_bel (belAlloc _ _) hj.size, JK.made hj hx (belAlloc _ _) hj.size (World.alloc_heap_new _ _) (by decide)⟩)
        simp only [an1, an2]
        refine Free2.Chain.pr (fun _ _ => True) 9 rfl [(8, 26), (6, 190), (4, 189), (0, 185), (1, 186), (2, 187), (3, 188), (4, 189), (5, 184), (6, 190), (8, 26)] [] (by kernel_rfl) (by kernel_rfl) rfl (fun _ _ _ _ h => h) ?_ ?_
        · (intro ev W X hb hR hO hD hj hx hax; have hS := hF W hR; obtain ⟨hb1, hb2, hb3⟩ := hb; simp only [Free.AllDeps, Free.AllOuts, Free.At, al1, al2, al3, al4, al5, and_true] at hO hD; simp only [Free2.AllX, and_true] at hax; obtain ⟨u9, hu9, ho9⟩ := hD.2.1; obtain ⟨q9, c9, rfl⟩ := row_slice ho9; have hXe := hax.2.1; rw [hu9] at hXe; obtain ⟨b9, hb9, hs9, h39, _⟩ := hj.new _ hax.1; obtain ⟨x0, y0, h59⟩ := h39 hx; have hXa := hax.1; rw [hb9] at hXa; have c0 := cell_of_heap (o := 0) h59 rfl; have c1 := cell_of_heap (o := 1) h59 rfl; have f0 := frozen_of_heap (o := 0) h59; have f1 := frozen_of_heap (o := 1) h59; go_simp; exact ⟨RQt.trans (RQt.set hs9 h59) (RQt.set hs9 (heap_setCell_same (o := 0) _ h59)), JK.put hj hx hXa hXe (by decide) (by decide)⟩)
        simp only [an1, an2]
        refine Free2.Chain.ex ?_ 10 rfl [(7, 191), (0, 185), (1, 186), (2, 187), (3, 188), (4, 189), (5, 184), (6, 190), (7, 191), (8, 26)] [] (by kernel_rfl) (by kernel_rfl) rfl (RQt.refl _ _) (fun X W v h => JK.skip h 10 v (by decide) (by decide) (fun e => absurd e (by decide))) ?_ ?_
        rotate_left
        · (intro ev W hb hR hO hD; have hS := hF W hR; obtain ⟨hb1, hb2, hb3⟩ := hb; simp only [Free.AllDeps, Free.AllOuts, Free.At, al1, al2, al3, al4, al5, and_true] at hO hD; go_simp; rfl)
        simp only [an1, an2]
        intro ys w24 hR hV hX
        obtain ⟨X, hj, hxx⟩ := hX
        simp only [Free.AllV, Free.At, List.length_cons, List.length_nil, Nat.reduceAdd, List.getElem?_cons_succ, List.getElem?_cons_zero, true_and, and_true] at hV
        obtain ⟨b4, hbB, hsB, -, h4B⟩ := hj.new _ (hxx 8 (by decide))
        obtain ⟨xB, yB, hexB, hblB⟩ := h4B (by rw [hxx 9 (by decide)]; simp)
        have hvW : AftW w23.heap.size (H4) (L4) (ys 6) w24 := hV.1.1.2
        obtain ⟨uB, huB, hoB⟩ := hvW
        have hxy : Value.agg #[xB, yB] = .agg #[.int .i64 (H4), uB] := by rw [← huB]; exact (Option.some.inj ((hxx 6 (by decide)).symm.trans hexB)).symm
        obtain ⟨rfl, rfl⟩ : xB = .int .i64 (H4) ∧ yB = uB := by simpa using hxy
        obtain ⟨qb4, kb4, rfl⟩ := row_slice hoB
        simp only [Free.putsFrom, Act.put, Nat.zero_add, Nat.reduceAdd, hV, hbB, List.setIfInBounds_toArray, List.set_cons_succ, List.set_cons_zero]
        have hN : Free.Bel w23 w24 := FBW w24 hR
        have hoC := row_mono hoB hz_w23
        have hg_b4 : bb + 1 ≤ b4 := Nat.le_trans (FA w23 (Free.Bel.refl _)).2.2.2.2.2.2.2.2.2.2.2.2.1 hsB
        have HB_w24 := Lib.hid (HB_w23.out.trans ((hN).mono hz_w23))
        have hz_w24 : bb ≤ w24.heap.size := Nat.le_trans hz_w23 (hN).size
        have FN := fun (W : World) (hW : Free.Bel w24 W) => And.intro (keepsB hW (cell_of_heap (o := 0) hblB rfl)) (And.intro (keepsB hW (cell_of_heap (o := 1) hblB rfl)) (And.intro (Lib.hid (bel_row hoC hW)) (FA W (bt (hN) hW))))
        clear FA HB_w23 hz_w23 KR
        have FA := FN
        clear FN
        have KR := Free.Bel.refl w24
        clear hR hV hj hxx hF FBW hexB hblB hoB hoC hsB h4B huB hxy hbB hN
        clear HF4
        cases hcx : coolD xs [x] with
        | false =>
          obtain rfl : E4 = 73 := HA4.out.1.symm.trans (aft_warm hax.out hcx).1
          go_wp2_with fail
          go_ret
          have hbb := HBB.out
          subst hbb
          exact ⟨rfl, HB_w24.out⟩
        | true =>
          obtain rfl : E4 = 0 := HA4.out.1.symm.trans (aft_cool hax.out hcx).1
          have HE4 : Hid (H4 = h ∧ L4 = dayR x xs) := ⟨HA4.out.2.1.symm.trans (aft_cool hax.out hcx).2.1, HA4.out.2.2.symm.trans (aft_cool hax.out hcx).2.2⟩
          have hcb : Hid (coolB (dayR x xs) = true) := (coolD_cons.1 hcx).1
          have hne : Hid (everB H4 L4 = false) := by
            show _ = _
            rw [HE4.out.1, HE4.out.2]
            exact before_plan HW.out HE.out HTX2.out (by rw [HTD.out]; exact HRB.out) hcb.out
          have hwx : Hid (watchB H4 L4 = true) := by show _ = _; rw [HE4.out.1, HE4.out.2]; exact watch_day HW.out hcb.out
          clear hcx
          go_wp2_with fail
          refine (can_at H4 L4 _ w24 (FA w24 (Free.Bel.refl _)).2.2.2.2.2.2.2.2.2.2.2.2.2.1.out (RL.of_row rfl (by have := hL4.out; unfold maxLen; omega) ((FA w24 (Free.Bel.refl _)).2.2.1).out) hwx.out false hne).mono ?_
          rintro e w25 ⟨rfl, hB⟩
          have HB_w25 := Lib.hid (HB_w24.out.trans ((hB).mono hz_w24))
          have hz_w25 : bb ≤ w25.heap.size := Nat.le_trans hz_w24 (hB).size
          have FN := fun (W : World) (hW : Free.Bel w25 W) => FA W (bt (hB) hW)
          clear FA HB_w24 hz_w24 KR
          have FA := FN
          clear FN
          have KR := Free.Bel.refl w25
          clear hB
          go_wp2_with fail
          go_ret
          have hbb := HBB.out
          subst hbb
          exact ⟨rfl, HB_w25.out⟩
end Go.Proofs.YtknpglgpkkhhiaaDoor

/- The bounds of small kinds of numbers. -/
namespace Go.Proofs.YtknpglgpkkhhiaaDoor
open Go
theorem u8_wf {n : Int} (h : (Lit.int .u8 n).wf = true) : 0 ≤ n ∧ n ≤ 255 := by
  have h2 : IntKind.u8.min ≤ n ∧ n ≤ IntKind.u8.max := by simpa [Lit.wf] using h
  exact h2
end Go.Proofs.YtknpglgpkkhhiaaDoor

/- For every input the law RoundGoes returns true, and its arguments read behind the call as they read before; what a watch is asked lies in the table as the program's text lays it (tied). Condition: that table. -/
namespace Go.Proofs.YtknpglgpkkhhiaaDoor.lawRoundGoes
open Go Go.ChangeShapes Go.WideShapes Go.ChangeAt Go.RowKit
set_option linter.unusedVariables false
set_option linter.unusedSimpArgs false

set_option maxRecDepth 100000 in
theorem contract (H : Type) (enc : TypeId × Value → H) (W : World) (base : Nat) (args : Array Value) (ds gs : List (DataW H)) (before : List MemPlace)
    (hval : ∀ (j : Nat) t v, Tryd.f7.params[j]? = some t → args[j]? = some v → Value.okWide Tryd.prog W .any base t v)
    (hW : DataW.Whole enc Tryd.prog Tryd.f7.params.toList Rows.roundGoesSpec.vars false W args.toList ds gs before) (hL : laidMetH Tryd.prog Rows.roundGoesRow.laid W) :
    Calls Tryd.prog 7 args W fun e W' => ∃ v, e = .returned v ∧ Rows.roundGoesSpec.post enc Tryd.prog Tryd.f7 false true false false W args v W' := by
  have hW' := hW
  obtain ⟨p, q, hA0, hV, rfl, hfz, hnd⟩ := hW
  have hA : DataW.TrodAll enc Tryd.prog W 0 (fun _ => true) true Tryd.f7.params.toList args.toList ds p := hA0
  have hAk := hA
  rw [Tryd.params7] at hA hval
  obtain ⟨v0, vs0, d0, ds0, p0, q0, hargs, rfl, rfl, h0, r0⟩ := trodAll_cons hA
  obtain ⟨v1, vs1, d1, ds1, p1, q1, rfl, rfl, rfl, h1, r1⟩ := trodAll_cons r0
  obtain ⟨v2, vs2, d2, ds2, p2, q2, rfl, rfl, rfl, h2, r2⟩ := trodAll_cons r1
  obtain ⟨rfl, rfl, rfl⟩ := trodAll_nil r2
  obtain rfl : args = #[v0, v1, v2] := by cases args; simp_all
  obtain ⟨rfl, rfl⟩ := trodVars_none hV
  have hlt : ∀ x ∈ p0 ++ (p1 ++ (p2 ++ ([]))), x.block < W.heap.size := fun x hx => by
    have := hW'.lt x (by simpa using hx)
    simpa using this
  obtain ⟨a0, b0, y0, z0, n0, rfl, _, _, g0, k0⟩ := Joins.open_agg2 Tryd.underlying24 (by kernel_rfl) (by kernel_rfl) (hval 0 24 _ rfl rfl) h0
  obtain ⟨h, ea0, _, _⟩ := DataW.trod_int Tryd.underlying3 g0
  simp at ea0
  subst ea0
  obtain ⟨xs, pp0, cap0, eb0, hrl0, hnz0⟩ := ricks_open Tryd.underlying22 Tryd.underlying47 (by kernel_rfl) rfl rfl rfl (by kernel_rfl) (by kernel_rfl) (by kernel_rfl) Tryd.underlying3 Tryd.underlying3 Tryd.underlying3 k0
  obtain ⟨q, rfl, _, hwf1⟩ := open_int Tryd.underlying5 (hval 1 5 _ rfl rfl) h1
  obtain ⟨o, rfl, _, hwf2⟩ := open_int Tryd.underlying5 (hval 2 5 _ rfl rfl) h2
  refine (goesL_walk h xs q o _ W (Tab.of_laid hL) hrl0 hnz0 (u8_wf hwf1.2).1 (u8_wf hwf1.2).2).mono fun e W' ⟨he, hg⟩ => ?_
  subst he
  refine ⟨_, rfl, _, _, _, [], p0 ++ (p1 ++ (p2 ++ ([]))), [], hW', ?_, ?_, ?_, hg.frame _, fun h => by cases h⟩
  · exact trodAll_cons_mk (shut_bool Tryd.underlying4 true) trodAll_mk0
  · exact Law.args_below Tab.laidOut (by kernel_rfl) hg hAk hlt
  · rfl

set_option maxRecDepth 100000 in
theorem lifted (os : Os) (started : os.Started) (H : Type) (enc : TypeId × Value → H) :
    ReturnsInHanded {} Tryd.checked os 7 .any (fun w args => (Rows.roundGoesSpec.pre enc Tryd.prog Tryd.f7 [] false w args ∧ laidMetH Tryd.prog Rows.roundGoesRow.laid w) ∧ sizedMet enc Tryd.prog Tryd.f7 (OpenSpec.ofChange Rows.roundGoesSpec) false w args) (Rows.roundGoesSpec.post enc Tryd.prog Tryd.f7 false true false false) := by
  refine returnsInHanded_of_change_and (C := Tryd.checked) (X := fun w _ => laidMetH Tryd.prog Rows.roundGoesRow.laid w) (fun _ _ _ hh h => h.of_heap hh) Tab.own started (by kernel_rfl) Tryd.func7
    (ChangeSpec.witness_shaped (enc := enc) (C := Tryd.checked) (os := os) (X := fun w _ => laidMetH Tryd.prog Rows.roundGoesRow.laid w) false (World.doorLaid Tryd.prog 17 os) #[.agg #[.int .i64 0, .slice none 0 0], .int .u8 0, .int .u8 0] 8 rfl (World.shaped_of_RefB (by kernel_rfl) (by kernel_rfl)) (by kernel_rfl) (by kernel_rfl) (by kernel_rfl) (Tab.door_met os _)) ?_
  intro W base args ds gs before hval hW _ _ hL _
  exact contract H enc W base args ds gs before hval hW hL

theorem said : Rows.RoundGoesSaid :=
  OpenClaim.holds_of_wide 7 Tryd.f7 rfl rfl rfl rfl rfl rfl rfl ⟨rfl, rfl, rfl, rfl, rfl⟩ rfl rfl rfl rfl rfl (by kernel_rfl) Tryd.func7 (by kernel_rfl)
    (of_decide_eq_true (by kernel_rfl)) (by unfold Func.isWrapper; first | (rw [if_pos (by decide +kernel)]; kernel_rfl) | (rw [if_neg (by decide +kernel)]; exact ⟨rfl, rfl⟩))
    (fun os started H enc _ => lifted os started H enc)

theorem plain (f : FuncId) (fn : Func) (hf : Tryd.pinned.checked.prog.funcNamed "oilcake/oilcakelaw07.RoundGoes" = some f) (hfn : Tryd.pinned.checked.prog.funcs[f]? = some fn) :
    false = Tryd.pinned.checked.prog.looks [] ∧ ∀ (j : Nat) t, fn.params[j]? = some t → Tryd.pinned.checked.prog.wantsStandIn t = false := by
  obtain rfl : f = 7 := Option.some.inj ((show Tryd.prog.funcNamed "oilcake/oilcakelaw07.RoundGoes" = some 7 by kernel_rfl).symm.trans hf) |>.symm
  obtain rfl : fn = Tryd.f7 := (Option.some.inj (Tryd.func7.symm.trans hfn)).symm
  refine ⟨by kernel_rfl, fun j t ht => ?_⟩
  rw [Tryd.params7] at ht
  have hm := Array.mem_of_getElem? ht
  have hall : (Tryd.f7.params.toList.all fun u => !Tryd.prog.wantsStandIn u) = true := by kernel_rfl
  rw [Tryd.params7] at hall
  exact (show Tryd.prog.wantsStandIn t = false by simpa using List.all_eq_true.1 hall t (by simpa using hm))

theorem card : Rows.RoundGoesCardSaid :=
  Claim7.holds_tied_plain_at .later [] _ _ _ _ said (fun _ h => by cases h) (by kernel_rfl) (fun _ h => by cases h) roundGoes_row_tie rfl ⟨rfl, rfl⟩ (by kernel_rfl) rfl plain (by kernel_rfl)
#print axioms card
end Go.Proofs.YtknpglgpkkhhiaaDoor.lawRoundGoes

