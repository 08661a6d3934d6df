/- For every input the law RoundParts returns true, and its arguments read behind the call as they read before; what a watch is asked lies in the table as the program's text lays it (tied). Condition: that table. -/
/- Plain law for chapter 07's last laws: turnings by numbers, days in two parts, days that repeat, the longest days, the plan. -/
import Derived.Test.YtknpglgpkkhhiaaDoorB8
import Derived.Test.YtknpglgpkkhhiaaDoorProg
import Derived.ChangeShapes
import Derived.Deep.DeepCutAuto
namespace Go.Proofs.YtknpglgpkkhhiaaDoor
set_option linter.unusedSimpArgs false
set_option linter.unusedVariables false

/-! ### Turnings by a number -/
/-- A part of the ricks ahead of the one with index k, not more than the hands. -/
def TurnK (h : Int) (xs : List Rk) (k : Nat) (l : List Int) : Prop := (l.length : Int) ≤ h ∧ l.Pairwise (· < ·) ∧ ∀ a ∈ l, ∃ i, i < k ∧ i < xs.length ∧ idAt xs i = a
theorem TurnK.zero {h : Int} {xs : List Rk} (h0 : 0 ≤ h) : TurnK h xs 0 [] := ⟨by simpa using h0, .nil, fun a ha => by cases ha⟩
theorem TurnK.skip {h : Int} {xs : List Rk} {k : Nat} {l : List Int} (H : TurnK h xs k l) : TurnK h xs (k + 1) l :=
  ⟨H.1, H.2.1, fun a ha => let ⟨i, h1, h2, h3⟩ := H.2.2 a ha; ⟨i, by omega, h2, h3⟩⟩
theorem TurnK.add {h : Int} {xs : List Rk} {k : Nat} {l : List Int} (hw : watchB h xs = true) (H : TurnK h xs k l) (hk : k < xs.length) (hl : (l.length : Int) < h) : TurnK h xs (k + 1) (l ++ [xs[k].1]) := by
  obtain ⟨_, _, h3⟩ := watchB_iff.1 hw
  have e : idAt xs k = xs[k].1 := by simp [idAt, hk]
  refine ⟨by simp; omega, ?_, fun a ha => ?_⟩
  · rw [List.pairwise_append]
    refine ⟨H.2.1, List.pairwise_singleton _ _, fun a ha b hb => ?_⟩
    obtain ⟨i, h1, h2, rfl⟩ := H.2.2 a ha
    obtain rfl : b = xs[k].1 := by simpa using hb
    rw [← e]
    exact (idAt_mono h3 i k h2 hk).2.2 h1
  · rcases List.mem_append.1 ha with ha | ha
    · obtain ⟨i, h1, h2, h4⟩ := H.2.2 a ha
      exact ⟨i, by omega, h2, h4⟩
    · obtain rfl : a = xs[k].1 := by simpa using ha
      exact ⟨k, by omega, hk, e⟩
theorem TurnK.turn {h : Int} {xs : List Rk} {k : Nat} {l : List Int} (hw : watchB h xs = true) (H : TurnK h xs k l) : turnB h xs l = true := by
  obtain ⟨_, _, h3⟩ := watchB_iff.1 hw
  unfold turnB
  rw [Bool.and_eq_true, decide_eq_true_eq]
  refine ⟨H.1, turnF_of_mem H.2.1 fun a ha => ?_⟩
  obtain ⟨i, h1, h2, rfl⟩ := H.2.2 a ha
  exact ⟨idAt_pos h3 h2, hasR_idAt.2 ⟨i, h2, rfl⟩⟩
theorem turnB_end (h : Int) (xs : List Rk) (ds : List (List Int)) : turnB h (endR xs ds) = turnB h xs := by
  funext q; unfold turnB; rw [turnF_ids (endR_ids xs ds)]
/-! ### Whether no rick becomes hot -/
def coolD (xs : List Rk) (ds : List (List Int)) : Bool := (heatR 0 xs ds).isEmpty
theorem coolD_iff {xs : List Rk} {ds : List (List Int)} : coolD xs ds = true ↔ ∀ x ∈ xs, coolW x ds = true := heat_empty xs ds
theorem coolD_cons {xs : List Rk} {d : List Int} {r : List (List Int)} : coolD xs (d :: r) = true ↔ coolB (dayR d xs) = true ∧ coolD (dayR d xs) r = true := by
  rw [coolD_iff, coolD_iff, cool_mem]
  constructor
  · intro H
    refine ⟨fun x hx => ?_, fun z hz => ?_⟩
    · have := H x hx
      simp only [coolW, Bool.and_eq_true, bne_iff_ne] at this
      exact this.1
    · obtain ⟨x, hx, rfl⟩ := List.mem_map.1 hz
      have := H x hx
      simp only [coolW, Bool.and_eq_true, bne_iff_ne] at this
      exact this.2
  · rintro ⟨h1, h2⟩ x hx
    simp only [coolW, Bool.and_eq_true, bne_iff_ne]
    exact ⟨h1 x hx, h2 _ (List.mem_map.2 ⟨x, hx, rfl⟩)⟩
theorem coolD_append {xs : List Rk} : ∀ {a b : List (List Int)}, coolD xs (a ++ b) = true ↔ coolD xs a = true ∧ coolD (endR xs a) b = true := by
  intro a
  induction a generalizing xs with
  | nil => intro b; simp [coolD, heatR, endR]
  | cons d r ih => intro b; rw [List.cons_append, coolD_cons, coolD_cons, ih]; simp only [endR, and_assoc]
theorem coolD_step {xs : List Rk} {ds : List (List Int)} {k : Nat} (hk : k < ds.length) : coolD xs (ds.take (k + 1)) = true ↔ coolD xs (ds.take k) = true ∧ coolB (dayR ds[k] (endR xs (ds.take k))) = true := by
  rw [take_step ds k hk, coolD_append, coolD_cons]
  simp [coolD, heatR]
theorem coolD_part {xs : List Rk} {ds : List (List Int)} {k : Nat} (h : coolD xs ds = true) : coolD xs (ds.take k) = true := by
  have := (coolD_append (xs := xs) (a := ds.take k) (b := ds.drop k)).1 (by rw [List.take_append_drop]; exact h)
  exact this.1
theorem watch_cool {h : Int} {xs : List Rk} {ds : List (List Int)} (hw : watchB h xs = true) (hc : coolD xs ds = true) : watchB h (endR xs ds) = true := watchB_end hw (coolD_iff.1 hc)
theorem aft_cool {h : Int} {xs : List Rk} {ds : List (List Int)} (ha : askE h xs ds = 0) (hc : coolD xs ds = true) : aftE h xs ds = 0 ∧ aftH h xs ds = h ∧ aftL h xs ds = endR xs ds := by
  have h1 : aftE h xs ds = 0 := by unfold aftE; rw [if_pos ha, if_pos (show (heatR 0 xs ds).isEmpty = true from hc)]
  exact ⟨h1, by rw [aftH, if_pos h1], by rw [aftL, if_pos h1]⟩
theorem aft_warm {h : Int} {xs : List Rk} {ds : List (List Int)} (ha : askE h xs ds = 0) (hc : coolD xs ds = false) : aftE h xs ds = 73 ∧ aftH h xs ds = 0 ∧ aftL h xs ds = [] := by
  have h1 : aftE h xs ds = 73 := by unfold aftE; rw [if_pos ha, if_neg (by unfold coolD at hc; rw [hc]; simp)]
  exact ⟨h1, by rw [aftH, h1]; rfl, by rw [aftL, h1]; rfl⟩
theorem ask_valid {h : Int} {xs : List Rk} {ds : List (List Int)} (hw : watchB h xs = true) (hl : ds.length ≤ 60) (hv : ds.all (turnB h xs) = true) : askE h xs ds = 0 := askE_zero.2 ⟨hw, by simp [validB, hl]; simpa using hv⟩

/-! ### Days in two parts -/
theorem heat_shift (m : Int) : ∀ (ds : List (List Int)) (n : Int) (xs : List Rk), heatR (n + m) xs ds = (heatR n xs ds).map fun p => (p.1 + m, p.2)
  | [], n, xs => rfl
  | d :: r, n, xs => by
    have ih := heat_shift m r (n + 1) (dayR d xs)
    simp only [heatR, List.map_append]
    rw [show n + m + 1 = n + 1 + m by omega, ih]
    congr 1
    simp [hotR, Function.comp_def]
theorem heat_days : ∀ (ds : List (List Int)) (n : Int) (xs : List Rk) (p : Int × Int), p ∈ heatR n xs ds → n < p.1 ∧ p.1 ≤ n + ds.length
  | [], n, xs, p, hp => by cases hp
  | d :: r, n, xs, p, hp => by
    simp only [heatR, List.mem_append] at hp
    simp only [List.length_cons, Int.natCast_add]
    rcases hp with hp | hp
    · simp only [hotR, List.mem_map] at hp
      obtain ⟨x, _, rfl⟩ := hp
      simp only
      omega
    · have := heat_days r (n + 1) (dayR d xs) p hp
      omega
/-- The first part is cool: the heats are the second part's, later. -/
theorem heat_second {xs : List Rk} {a b : List (List Int)} (ha : coolD xs a = true) : heatR 0 xs (a ++ b) = (heatR 0 (endR xs a) b).map fun p => (p.1 + (a.length : Int), p.2) := by
  rw [heatR_append, ← heat_shift]
  unfold coolD at ha
  rw [List.isEmpty_iff.1 ha, List.nil_append]
/-- The first part is not cool: the first heat is there. -/
theorem heat_early {xs : List Rk} {a b : List (List Int)} (ha : coolD xs a = false) : ∃ p r, heatR 0 xs (a ++ b) = p :: r ∧ p.1 ≤ (a.length : Int) := by
  rw [heatR_append]
  cases e : heatR 0 xs a with
  | nil => unfold coolD at ha; rw [e] at ha; cases ha
  | cons p r =>
    refine ⟨p, _, by rw [List.cons_append], ?_⟩
    have := (heat_days a 0 xs p (by rw [e]; simp)).2
    omega

/-! ### Days that repeat -/
/-! ### The longest days -/
/-! ### The plan -/
end Go.Proofs.YtknpglgpkkhhiaaDoor

/- turnings, of chapter 07's laws: valid turnings by a number. -/
namespace Go.Proofs.YtknpglgpkkhhiaaDoor
set_option linter.unusedSimpArgs false
set_option linter.unusedVariables false
open Go.RowKit Go.Proofs.YtknpglgpkkhhiaaDoor.Free2 Go.Proofs.YtknpglgpkkhhiaaDoor.ML RR

set_option maxRecDepth 100000 in
set_option maxHeartbeats 8000000 in
theorem turns_any (h : Int) (xs : List Rk) (b : Int) (u : Value) (w : World) (hu : RL xs u w) (hw : watchB h xs = true) :
    Calls Tryd.prog 59 #[.agg #[.int .i64 h, u], .int .u8 b] w fun e w' => (∃ v l, e = .returned v ∧ turnB h xs l = true ∧ l.length ≤ 4 ∧ w'.ownsRow w.heap.size 3 1 v l.length (l.map (Value.int .i64))) ∧ Below w.heap.size w w' := by
  have HU := Lib.hid hu
  have HW := Lib.hid hw
  obtain ⟨p, cp, rfl, hm, hp⟩ := hu
  unfold maxLen at hm
  have HP := Lib.hid hp
  clear hp hw
  obtain ⟨i0, hi0, hz0, hz1, hz2⟩ := info_parts T.infoInt
  have HZ := Lib.hid (And.intro hi0 (And.intro hz0 (And.intro hz1 hz2)))
  clear hi0 hz0 hz1 hz2
  have hb0 : Free.Bel w (w.alloc (.cells #[.int .i64 h, .slice p xs.length cp] 24)) := belAlloc _ _
  have m0 : (w.alloc (.cells #[.int .i64 h, .slice p xs.length cp] 24)).heap[w.heap.size]? = some (.cells #[.int .i64 h, .slice p xs.length cp] 24 (0, 0)) := World.alloc_heap_new w _
  have HI := Lib.hid (And.intro hb0 (And.intro m0 (World.ownsRow_nil (w.alloc (.cells #[.int .i64 h, .slice p xs.length cp] 24)) (w.heap.size + 1) 3 1)))
  have n0 := cell_of_heap (o := 1) m0 rfl
  clear hb0 m0
  go_enter Tryd.func59, Tryd.ntmps59
  go_wp2_with fail
  clear n0
  go_loopw [11, 5] (fun i v wr => ∃ (k : Nat) (l : List Int), k ≤ xs.length ∧ i = .int .i64 k ∧ TurnK h xs k l ∧ Below w.heap.size w wr ∧ wr.heap[w.heap.size]? = some (.cells #[.int .i64 h, .slice p xs.length cp] 24 (0, 0)) ∧ wr.ownsRow (w.heap.size + 1) 3 1 v l.length (l.map (Value.int .i64))) (fun i _ _ => xs.length - (intOf i).toNat)
  case atStart => exact ⟨0, [], Nat.zero_le _, rfl, TurnK.zero (watchB_iff.1 HW.out).1.1, HI.out⟩
  case round =>
    obtain ⟨k, al, hk, rfl, hTK, hB, hT, how⟩ := hrel
    have HTK := Lib.hid hTK
    have hal3 : al.length ≤ 3 := by have h1 := HTK.out.1; have h2 := (watchB_iff.1 HW.out).1.2; omega
    clear hTK
    by_cases hlt : k < xs.length
    · have hx : xs ≠ [] := by intro e; simp [e] at hlt
      obtain ⟨b0, off, rfl, hcp⟩ := HP.out hx
      obtain ⟨d1, d2, d3⟩ := hcp k hlt
      have e1 := keepsB hB d1
      have e2 := keepsB hB d2
      have e3 := keepsB hB d3
      have hklt : (k : Int) < xs.length := by omega
      have hk4 : xs.length ≤ 4 := (watchB_iff.1 HW.out).2.1
      have hkw : IntKind.i64.wrap ((k : Int) + 1) = (k : Int) + 1 := IntWalk.i64_in _ (by omega)
      have q0 := cell_of_heap (o := 0) hT rfl
      have hszw : w.heap.size + 1 ≤ wr.heap.size := lt_of_heap hT
      have HNX : Hid ((al.length : Int) < h → TurnK h xs (k + 1) (al ++ [xs[k].1])) := fun h9 => HTK.out.add HW.out hlt h9
      have HN0 : Hid (TurnK h xs (k + 1) al) := HTK.out.skip
      clear hcp hx d1 d2 d3
      generalize xs[k] = x at *
      obtain ⟨x1, x2, x3⟩ := x
      have KA : Free.Bel wr (wr.alloc (.cells #[.int .i64 x1, .int .i64 x2, .int .i64 x3] 47)) := belAlloc _ _
      have q2 := keepsB KA q0
      have hx1 : (wr.alloc (.cells #[.int .i64 x1, .int .i64 x2, .int .i64 x3] 47)).cell? ⟨wr.heap.size, 0, none⟩ = some (.int .i64 x1) := by simp [go_sem]
      have HB := Lib.hid (And.intro hB hT)
      have hkn : ¬ ((k : Int) < 0) := by omega
      clear hB hT q0
      obtain ⟨q5, c5, rfl⟩ := row_slice how
      by_cases hbit : bits BinOp.and IntKind.u8 (b / 2 ^ k) 1 = 1
      · by_cases hlh : (al.length : Int) < h
        · have HLH := Lib.hid hlh
          go_wp2_with (first | (at_builtin; go_loud (refine wpList_append_own _ rfl _ _ 58 rfl (w.heap.size + 1) 3 i0 (.int .i64 0) 1 8 Tryd.underlying58 HZ.out.1 HZ.out.2.1 HZ.out.2.2.1 HZ.out.2.2.2 rfl (by decide) _ _ _ rfl ((bel_row how KA).alloc _) ⟨wr.heap.size + 1, 0, none⟩ 1 1 [.int .i64 x1] rfl rfl (by have := cell_one_new (wr.alloc (.cells #[.int .i64 x1, .int .i64 x2, .int .i64 x3] 47)) (.int .i64 x1) 3; simpa using this) (fun x hx => by simp at hx; subst hx; rfl) (by unfold maxLen; omega) (by omega) (by simp; omega) ?_); intro v9 w9 hown9 hgrow9 hnil9) | fail)
          have HG := Lib.hid (show Below (w.heap.size + 1) wr w9 from ((Below.mono KA hszw).alloc (by simp; omega) _).trans (grown_belR ((bel_row how KA).alloc _) hgrow9 (by simp; omega)))
          have HO9 := Lib.hid hown9
          clear hown9 hgrow9 hnil9 how
          go_roundw
          case rel => exact ⟨k + 1, al ++ [x1], by omega, by go_num, HNX.out HLH.out, HB.out.1.trans (HG.out.mono (by omega)), (HG.out.block _ (by omega)).trans HB.out.2, by simpa using HO9.out⟩
          case measure => simp [intOf]; omega
        · have HOW := Lib.hid how
          clear how
          go_wp2_with fail
          go_roundw
          case rel => exact ⟨k + 1, al, by omega, by go_num, HN0.out, HB.out.1.trans (Below.mono KA HB.out.1.size), heap_old HB.out.2, bel_row HOW.out KA⟩
          case measure => simp [intOf]; omega
      · have HOW := Lib.hid how
        clear how
        go_wp2_with fail
        go_roundw
        case rel => exact ⟨k + 1, al, by omega, by go_num, HN0.out, HB.out.1.trans (Below.mono KA HB.out.1.size), heap_old HB.out.2, bel_row HOW.out KA⟩
        case measure => simp [intOf]; omega
    · obtain rfl : k = xs.length := by omega
      have HF := Lib.hid (And.intro hB how)
      clear hB hT how
      go_wp2_with fail
      go_ret
      exact ⟨⟨_, al, rfl, HTK.out.turn HW.out, by omega, row_mono HF.out.2 (Nat.le_succ _)⟩, HF.out.1⟩
end Go.Proofs.YtknpglgpkkhhiaaDoor

/- The bounds of small kinds of numbers. -/
namespace Go.Proofs.YtknpglgpkkhhiaaDoor
open Go
theorem u8_wf {n : Int} (h : (Lit.int .u8 n).wf = true) : 0 ≤ n ∧ n ≤ 255 := by
  have h2 : IntKind.u8.min ≤ n ∧ n ≤ IntKind.u8.max := by simpa [Lit.wf] using h
  exact h2
end Go.Proofs.YtknpglgpkkhhiaaDoor

/- A slice of small numbers, as an argument. -/
namespace Go.Proofs.YtknpglgpkkhhiaaDoor
set_option linter.unusedSimpArgs false
set_option linter.unusedVariables false
open Go.RowKit

def BL (bs : List Int) (v : Value) (w : World) : Prop := ∃ p cap, v = .slice p bs.length cap ∧ bs.length ≤ maxLen ∧ (∀ x ∈ bs, 0 ≤ x ∧ x ≤ 255) ∧ (bs ≠ [] → ∃ b off, p = some ⟨b, off, none⟩ ∧ ∀ k, (h : k < bs.length) → w.cell? ⟨b, off + k, none⟩ = some (.int .u8 bs[k]))
section
variable {H : Type} {enc : TypeId × Value → H} {W : World} {sp : Nat → Bool} {held : Bool}
set_option maxRecDepth 100000 in
theorem bytes_open {t e : TypeId} {v : Value} {y : DataW H × List MemPlace} {n : Nat}
    (ht : Tryd.prog.underlying t = some (.slice e)) (he : Tryd.prog.underlying e = some (.int .u8)) (ce : Tryd.prog.cellsOf e = 1)
    (h : DataW.trod enc Tryd.prog W 0 sp held n t [v] = some y) : ∃ xs : List Int, BL xs v W := by
  rcases Deep.open_slice1 ht ce h with ⟨h0, _⟩ | ⟨a, len, cap, m, n', V, D, Pl, h0, _, hl, hm, hmm, _, hx⟩
  · simp at h0
    subst h0
    exact ⟨[], none, 0, rfl, by simp, (fun x hx => (by cases hx)), fun h => absurd rfl h⟩
  · simp at h0
    subst h0
    have hlm : len ≤ m := by rw [hmm]; split <;> omega
    have each : ∀ i, i < len → ∃ q : Int, W.cell? (a.add i) = some (.int .u8 q) ∧ 0 ≤ q ∧ q ≤ 255 := by
      intro i hi
      obtain ⟨h1, h2⟩ := hx i (by omega)
      obtain ⟨z, e0, _, hw⟩ := DataW.trod_int he h2
      simp at e0
      rw [e0] at h1
      exact ⟨z, h1, u8_wf hw⟩
    obtain ⟨q, hq⟩ := Deep.choose_lt each
    refine ⟨(List.range len).map q, some a, cap, by simp, by simp; unfold maxLen at *; omega, fun x hx => ?_, fun hne => ?_⟩
    · obtain ⟨i, hi, rfl⟩ := List.mem_map.1 hx
      exact (hq i (List.mem_range.1 hi)).2
    · have hl0 : 0 < len := by
        rcases Nat.eq_zero_or_pos len with h | h
        · subst h; simp at hne
        · exact h
      obtain ⟨b, off, spot⟩ := a
      have hs : spot = none := by simpa [Addr.add] using World.cell?_spot (hq 0 hl0).1
      subst hs
      refine ⟨b, off, rfl, fun k hk => ?_⟩
      have h3 := (hq k (by simpa using hk)).1
      simp only [List.getElem_map, List.getElem_range]
      rw [addE] at h3
      exact h3
end
end Go.Proofs.YtknpglgpkkhhiaaDoor

/- The reference's TwinDays. -/
namespace Go.Proofs.YtknpglgpkkhhiaaDoor
set_option linter.unusedSimpArgs false
set_option linter.unusedVariables false
open Go.RowKit Go.Proofs.YtknpglgpkkhhiaaDoor.Free2

theorem T.infoSl : (Tryd.prog.info? 58).map (fun i => (i.zero, i.size, i.bytes)) = some (some (.slice none 0 0), 1, 24) := by kernel_rfl
/-- Slices of these lists, none of which lies in the row v. -/
def Elts (v : Value) (ds : List (List Int)) (us : List Value) (W : World) : Prop := us.length = ds.length ∧ ∀ i (h : i < ds.length) (h' : i < us.length), IL ds[i] us[i] W ∧ (ds[i] ≠ [] → ∀ a n c, us[i] = .slice (some a) n c → Off v a.block ∧ a.block < W.heap.size)
theorem Elts.snoc {v : Value} {ds : List (List Int)} {us : List Value} {W : World} {d : List Int} {u : Value} (h : Elts v ds us W) (hd : IL d u W) (ho : d ≠ [] → ∀ a n c, u = .slice (some a) n c → Off v a.block ∧ a.block < W.heap.size) : Elts v (ds ++ [d]) (us ++ [u]) W :=
  ⟨by simp [h.1], fun i h1 h2 => by
    by_cases hi : i < ds.length
    · have hi2 : i < us.length := by rw [h.1]; exact hi
      simp only [List.getElem_append_left hi, List.getElem_append_left hi2]
      exact h.2 i hi hi2
    · have e : i = ds.length := by simp at h1; omega
      subst e
      have e2 : us.length = ds.length := h.1
      simp only [List.getElem_append_right (Nat.le_refl _), Nat.sub_self, List.getElem_cons_zero]
      have : (us ++ [u])[ds.length] = u := by simp [List.getElem_append, e2]
      rw [this]
      exact ⟨hd, ho⟩⟩
theorem Elts.dl {v : Value} {ds : List (List Int)} {us : List Value} {W : World} {base : Nat} {e : TypeId} (h : Elts v ds us W) (hr : W.ownsRow base e 1 v ds.length us) (hm : ds.length ≤ maxLen) : DL ds v W := by
  rcases hr.2 with ⟨rfl, h0⟩ | ⟨g, cap, cur, rfl, _, hg, _⟩
  · have : ds = [] := List.eq_nil_of_length_eq_zero h0
    subst this
    exact DL.nil W
  · refine ⟨_, cap, rfl, hm, fun _ => ⟨g, 0, rfl, fun k hk => ?_⟩⟩
    have hk2 : k < us.length := by rw [h.1]; exact hk
    have hc := hr.cells (g := g) rfl k us[k] (by simp [hk2])
    exact ⟨us[k], by simpa [Addr.add_lit] using hc, (h.2 k hk hk2).1⟩

end Go.Proofs.YtknpglgpkkhhiaaDoor

/- A watch made by a call in a region that draws its order, and kept in a box made there too. -/
namespace Go.Proofs.YtknpglgpkkhhiaaDoor
set_option linter.unusedSimpArgs false
set_option linter.unusedVariables false
open Go.RowKit Go.Proofs.YtknpglgpkkhhiaaDoor.Free2 Go.Proofs.YtknpglgpkkhhiaaDoor.ML RR

/-- Blocks below n0 stay, and later ones but cells of one type. -/
structure RQt (t : TypeId) (n0 : Nat) (a b : World) : Prop where
  below : Below n0 a b
  other : ∀ (k : Nat) (o : Obj), a.heap[k]? = some o → (∀ c f, o ≠ .cells c t f) → b.heap[k]? = some o
section
variable {a b c : World} {n0 : Nat} {t : TypeId}
theorem RQt.refl (t : TypeId) (n0 : Nat) (a : World) : RQt t n0 a a := ⟨Below.refl _ _, fun _ _ h _ => h⟩
theorem RQt.trans (h : RQt t n0 a b) (k : RQt t n0 b c) : RQt t n0 a c := ⟨h.below.trans k.below, fun i o h1 h2 => k.other i o (h.other i o h1 h2) h2⟩
theorem RQt.of_bel (h : Free.Bel a b) (hn : n0 ≤ a.heap.size) : RQt t n0 a b := ⟨h.mono hn, fun k o h1 _ => (h.block k (lt_of_heap h1)).trans h1⟩
theorem RQt.set {g o : Nat} {v : Value} {cs : Array Value} {f : Nat × Nat} (hg : n0 ≤ g) (hq : a.heap[g]? = some (.cells cs t f)) : RQt t n0 a (a.setCell ⟨g, o, none⟩ v) :=
  ⟨(Below.refl _ a).setCell (by simpa using hg) v, fun k p h1 h2 => by
    have hne : k ≠ g := by
      rintro rfl
      rw [hq] at h1
      cases h1
      exact h2 _ _ rfl
    exact (Below.heap_setCell _ _ _ _ (by simpa using hne)).trans h1⟩
theorem RQt.row {base : Nat} {e : TypeId} {size n : Nat} {v : Value} {xs : List Value} (h : RQt t n0 a b) (ht : e ≠ t) (ho : a.ownsRow base e size v n xs) : b.ownsRow base e size v n xs :=
  own_typed ho fun k c f hk => h.other k _ hk fun c' f' e' => by cases e'; exact ht rfl
end
/-- Operation al makes a box of two cells, operation st stores in it what operation ex gave. -/
structure JK (t : TypeId) (s0 ex al st : Nat) (X : XT) (W : World) : Prop where
  ord : X st ≠ none → X ex ≠ none ∧ X al ≠ none
  size : s0 ≤ W.heap.size
  new : ∀ v, X al = some v → ∃ b, v = .pointer (some ⟨b, 0, none⟩) ∧ s0 ≤ b ∧ (X st = none → ∃ x y, W.heap[b]? = some (.cells #[x, y] t (0, 0))) ∧ (X st ≠ none → ∃ x y, X ex = some (.agg #[x, y]) ∧ W.heap[b]? = some (.cells #[x, y] t (0, 0)))
section
variable {t : TypeId} {s0 ex al st : Nat} {X : XT} {W W' : World}
theorem JK.start (hs : s0 ≤ W.heap.size) : JK t s0 ex al st (fun _ => none) W := ⟨fun h => absurd rfl h, hs, fun v h => (by cases h)⟩
theorem JK.bel (H : JK t s0 ex al st X W) (hB : Free.Bel W W') : JK t s0 ex al st X W' :=
  ⟨H.ord, Nat.le_trans H.size hB.size, fun v hv => by
    obtain ⟨b, h1, h2, h3, h4⟩ := H.new v hv
    exact ⟨b, h1, h2, fun h => let ⟨x, y, h5⟩ := h3 h; ⟨x, y, (hB.block _ (lt_of_heap h5)).trans h5⟩, fun h => let ⟨x, y, h5, h6⟩ := h4 h; ⟨x, y, h5, (hB.block _ (lt_of_heap h6)).trans h6⟩⟩⟩
theorem JK.skip (H : JK t s0 ex al st X W) (n : Nat) (v : Value) (h1 : n ≠ al) (h2 : n ≠ st) (h3 : n = ex → X ex = none) : JK t s0 ex al st (upd X n v) W := by
  have e1 := upd_other X v (Ne.symm h1)
  have e2 := upd_other X v (Ne.symm h2)
  refine ⟨fun h => ?_, H.size, fun u hu => ?_⟩
  · rw [e2] at h
    refine ⟨?_, by rw [e1]; exact (H.ord h).2⟩
    by_cases e : n = ex
    · subst e; rw [upd_same]; simp
    · rw [upd_other _ _ (Ne.symm e)]; exact (H.ord h).1
  · rw [e1] at hu
    obtain ⟨b, a1, a2, a3, a4⟩ := H.new u hu
    refine ⟨b, a1, a2, fun h => a3 (by rwa [e2] at h), fun h => ?_⟩
    rw [e2] at h
    by_cases e : n = ex
    · exact absurd (h3 e) (H.ord h).1
    · rw [upd_other _ _ (Ne.symm e)]; exact a4 h
theorem JK.made (H : JK t s0 ex al st X W) (hst : X al = none) {b : Nat} {x y : Value} (hB : Free.Bel W W') (hb : s0 ≤ b) (hh : W'.heap[b]? = some (.cells #[x, y] t (0, 0))) (hne : al ≠ st) : JK t s0 ex al st (upd X al (.pointer (some ⟨b, 0, none⟩))) W' := by
  have hs : X st = none := by
    cases h : X st with
    | none => rfl
    | some v => exact absurd hst (H.ord (by rw [h]; simp)).2
  have e2 := upd_other X (.pointer (some ⟨b, 0, none⟩)) (Ne.symm hne)
  refine ⟨fun h => absurd hs (by rwa [e2] at h), Nat.le_trans H.size hB.size, fun u hu => ?_⟩
  rw [upd_same] at hu
  cases hu
  exact ⟨b, rfl, hb, fun _ => ⟨x, y, hh⟩, fun h => absurd hs (by rwa [e2] at h)⟩
theorem JK.put (H : JK t s0 ex al st X W) (hst : X st = none) {b : Nat} {x y v : Value} (hal : X al = some (.pointer (some ⟨b, 0, none⟩))) (hex : X ex = some (.agg #[x, y])) (n1 : al ≠ st) (n2 : ex ≠ st) : JK t s0 ex al st (upd X st v) ((W.setCell ⟨b, 0, none⟩ x).setCell ⟨b, 1, none⟩ y) := by
  have e1 := upd_other X v n1
  have e2 := upd_other X v n2
  refine ⟨fun _ => ⟨by rw [e2, hex]; simp, by rw [e1, hal]; simp⟩, by simpa using H.size, fun u hu => ?_⟩
  rw [e1, hal] at hu
  cases hu
  obtain ⟨b', h1, h2, h3, _⟩ := H.new _ hal
  cases h1
  obtain ⟨x0, y0, h5⟩ := h3 hst
  refine ⟨b, rfl, h2, fun h => (by rw [upd_same] at h; cases h), fun _ => ⟨x, y, by rw [e2]; exact hex, ?_⟩⟩
  have h6 := heap_setCell_same (o := 1) y (heap_setCell_same (o := 0) x h5)
  simpa using h6
end
end Go.Proofs.YtknpglgpkkhhiaaDoor

/- A watch with ricks of its own, given by a call with an error beside it, and kept in a box made in the same statement. -/
namespace Go.Proofs.YtknpglgpkkhhiaaDoor
set_option linter.unusedSimpArgs false
set_option linter.unusedVariables false
open Go.RowKit Go.Proofs.YtknpglgpkkhhiaaDoor.Free2 Go.Proofs.YtknpglgpkkhhiaaDoor.ML RR

/-- What a call gave: a watch, with ricks of its own. -/
def AftV (n0 : Nat) (H : Int) (ys : List Rk) (E : Int) (v : Value) (W : World) : Prop := ∃ u, v = .tuple #[.agg #[.int .i64 H, u], .int .i64 E] ∧ W.ownsRow n0 47 3 u ys.length (cellsR ys)
def AftW (n0 : Nat) (H : Int) (ys : List Rk) (v : Value) (W : World) : Prop := ∃ u, v = .agg #[.int .i64 H, u] ∧ W.ownsRow n0 47 3 u ys.length (cellsR ys)
theorem AftV.stable (n0 : Nat) (H E : Int) (ys : List Rk) (m : Nat) : Free.Stable (RQt 24 m) (AftV n0 H ys E) := fun v a b hR ⟨u, h1, h2⟩ => ⟨u, h1, hR.row (by decide) h2⟩
theorem AftW.stable (n0 : Nat) (H : Int) (ys : List Rk) (m : Nat) : Free.Stable (RQt 24 m) (AftW n0 H ys) := fun v a b hR ⟨u, h1, h2⟩ => ⟨u, h1, hR.row (by decide) h2⟩
end Go.Proofs.YtknpglgpkkhhiaaDoor

/- The first days, and the rest; what Hot gave. -/
namespace Go.Proofs.YtknpglgpkkhhiaaDoor
set_option linter.unusedSimpArgs false
set_option linter.unusedVariables false
open Go.RowKit Go.Proofs.YtknpglgpkkhhiaaDoor.Free2

set_option maxRecDepth 100000 in
theorem sizeSl (W : World) : (Go.sizeOf 58).run Tryd.prog W = .ok 1 W := by kernel_rfl
set_option maxRecDepth 100000 in
theorem headD (p : Option Addr) (n cp k : Nat) (h : k ≤ cp) (W : World) : (Instr.slice 25 (.slice p n cp) none (some (.int .i64 (k : Int))) none).run Tryd.prog W = .ok (.slice p k cp) W := by
  rw [run_slice_h W 25 p n cp Tryd.underlying25 .i64 k (by omega) (by omega)]
  have he : Tryd.prog.elem 25 = 58 := by kernel_rfl
  rw [he, sizeSl]
  cases p with
  | none => simp [Result.andThen, sliced]
  | some a => simp [Result.andThen, sliced, Addr.add]
def tailD (p : Option Addr) (cp k : Nat) : Option Addr := if cp = k then p else p.map (·.add k)
set_option maxRecDepth 100000 in
theorem restD (p : Option Addr) (n cp k : Nat) (h : k ≤ n) (W : World) : (Instr.slice 25 (.slice p n cp) (some (.int .i64 (k : Int))) none none).run Tryd.prog W = .ok (.slice (tailD p cp k) (n - k) (cp - k)) W := by
  rw [run_slice_l W 25 p n cp Tryd.underlying25 .i64 k (by omega) (by omega)]
  have he : Tryd.prog.elem 25 = 58 := by kernel_rfl
  rw [he, sizeSl]
  simp [Result.andThen, sliced, tailD]
theorem row_cap {base : Nat} {e : TypeId} {size n c : Nat} {p : Option Addr} {xs : List Value} {w : World} (h : w.ownsRow base e size (.slice p n c) n xs) : n ≤ c := by
  rcases h.2 with ⟨he, _⟩ | ⟨g, cap, cur, he, _, _, hn, _⟩
  · cases he; exact Nat.le_refl _
  · cases he
    first | exact hn | exact hn.1 | omega
theorem DL.head {ds : List (List Int)} {p : Option Addr} {n cp a : Nat} {W : World} (h : DL ds (.slice p n cp) W) (ha : a ≤ ds.length) : DL (ds.take a) (.slice p a cp) W := by
  obtain ⟨p', c', he, hm, hc⟩ := h
  cases he
  have hl : (ds.take a).length = a := by simp; omega
  refine ⟨_, _, by rw [hl], by rw [hl]; omega, fun hx => ?_⟩
  obtain ⟨b, off, h1, h2⟩ := hc (by intro e; simp [e] at hx)
  refine ⟨b, off, h1, fun k hk => ?_⟩
  have hk2 : k < ds.length := by omega
  obtain ⟨u, h3, h4⟩ := h2 k hk2
  exact ⟨u, h3, by rw [List.getElem_take]; exact h4⟩
theorem DL.tail {ds : List (List Int)} {p : Option Addr} {cp a : Nat} {W : World} (h : DL ds (.slice p ds.length cp) W) (ha : a ≤ ds.length) (hcp : ds.length ≤ cp) : DL (ds.drop a) (.slice (tailD p cp a) (ds.length - a) (cp - a)) W := by
  obtain ⟨p', c', he, hm, hc⟩ := h
  cases he
  have hl : (ds.drop a).length = ds.length - a := by simp
  refine ⟨_, _, by rw [hl], by rw [hl]; omega, fun hx => ?_⟩
  have ha2 : a < ds.length := by
    rcases Nat.lt_or_ge a ds.length with h9 | h9
    · exact h9
    · exact absurd (List.drop_eq_nil_of_le h9) hx
  obtain ⟨b, off, rfl, h2⟩ := hc (by intro e; simp [e] at ha2)
  refine ⟨b, off + a, ?_, fun k hk => ?_⟩
  · unfold tailD
    rw [if_neg (by omega)]
    simp [Addr.add]
  · have hk2 : a + k < ds.length := by omega
    obtain ⟨u, h3, h4⟩ := h2 (a + k) hk2
    exact ⟨u, by rw [Nat.add_assoc]; exact h3, by rw [List.getElem_drop]; exact h4⟩
/-- What Hot gave. -/
def HotV (hs : List (Int × Int)) (E : Int) (v : Value) (W : World) : Prop := ∃ p c, v = .tuple #[.slice p hs.length c, .int .i64 E] ∧ PL hs (.slice p hs.length c) W
def HotW (hs : List (Int × Int)) (v : Value) (W : World) : Prop := ∃ p c, v = .slice p hs.length c ∧ PL hs (.slice p hs.length c) W
theorem HotV.stable (hs : List (Int × Int)) (E : Int) : Free.Stable Free.Bel (HotV hs E) := fun v a b hR ⟨p, c, h1, h2⟩ => ⟨p, c, h1, h2.keeps hR⟩
theorem HotW.stable (hs : List (Int × Int)) : Free.Stable Free.Bel (HotW hs) := fun v a b hR ⟨p, c, h1, h2⟩ => ⟨p, c, h1, h2.keeps hR⟩
theorem hot_at (h : Int) (xs : List Rk) (ds : List (List Int)) (u v : Value) (w : World) (hT : TabR w) (hu : RL xs u w) (hv : DL ds v w) (hd : ds.length ≤ 1000) (ha : askE h xs ds = 0) (hs : List (Int × Int)) (hh : Hid (heatR 0 xs ds = hs)) :
    Calls Tryd.prog 21 #[.agg #[.int .i64 h, u], v] w fun e w' => (∃ p c, e = .returned (.tuple #[.slice p hs.length c, .int .i64 0]) ∧ PL hs (.slice p hs.length c) w') ∧ Below w.heap.size w w' := by
  refine (hotP_any h xs ds u v w hT hu hv hd).mono fun e w' ⟨⟨v2, h1, h2⟩, h3⟩ => ⟨?_, h3⟩
  have e1 : hotOut h xs ds = hs := by rw [hotOut, if_pos ha, hh.out]
  rw [e1] at h2
  rw [ha] at h1
  have h4 := h2
  obtain ⟨p, c, rfl, _, _⟩ := h2
  exact ⟨p, c, h1, h4⟩
end Go.Proofs.YtknpglgpkkhhiaaDoor

/- Turnings are few. -/
namespace Go.Proofs.YtknpglgpkkhhiaaDoor
open Go.RowKit

theorem day_max {h : Int} {xs : List Rk} {ds : List (List Int)} {d : List Int} (hw : watchB h xs = true) (ha : ds.all (turnB h xs) = true) (hd : d ∈ ds) : d.length ≤ maxLen := by
  have h1 := List.all_eq_true.1 ha d hd
  unfold turnB at h1
  rw [Bool.and_eq_true, decide_eq_true_eq] at h1
  have := (watchB_iff.1 hw).1
  unfold maxLen
  omega
end Go.Proofs.YtknpglgpkkhhiaaDoor

/- cool, of chapter 07's laws. -/
namespace Go.Proofs.YtknpglgpkkhhiaaDoor
set_option linter.unusedSimpArgs false
set_option linter.unusedVariables false
open Go.RowKit Go.Proofs.YtknpglgpkkhhiaaDoor.Free2

theorem RL.other {xs : List Rk} {v x : Value} {w : World} {g o : Nat} (h : RL xs v w) (hn : xs ≠ [] → ∀ a n c, v = .slice (some a) n c → a.block ≠ g) : RL xs v (w.setCell ⟨g, o, none⟩ x) :=
  let ⟨p, cap, h1, h2, h3⟩ := h
  ⟨p, cap, h1, h2, fun hx => let ⟨b, off, h4, h5⟩ := h3 hx
    have hne : b ≠ g := hn hx ⟨b, off, none⟩ xs.length cap (by subst h4; exact h1)
    have hc : ∀ (o' : Nat) (y : Value), w.cell? ⟨b, o', none⟩ = some y → (w.setCell ⟨g, o, none⟩ x).cell? ⟨b, o', none⟩ = some y := fun o' y hy => (World.cell?_of_block (Below.heap_setCell _ _ _ _ (by simpa using hne))).trans hy
    ⟨b, off, h4, fun k hk => ⟨hc _ _ (h5 k hk).1, hc _ _ (h5 k hk).2.1, hc _ _ (h5 k hk).2.2⟩⟩⟩
def CoolPost (h : Int) (xs : List Rk) (ds : List (List Int)) (e : Ending) (w' : World) : Prop :=
  (coolD xs ds = true ∧ ∃ u, e = .returned (.tuple #[.agg #[.int .i64 h, u], .bool true]) ∧ RL (endR xs ds) u w') ∨ (coolD xs ds = false ∧ ∃ hh p n c, e = .returned (.tuple #[.agg #[.int .i64 hh, .slice p n c], .bool false]))
set_option maxRecDepth 100000 in
set_option maxHeartbeats 8000000 in
theorem cool_any (h : Int) (xs : List Rk) (ds : List (List Int)) (u v : Value) (w : World) (hu : RL xs u w) (hz : NZ u) (hv : DL ds v w) (hw : watchB h xs = true) :
    Calls Tryd.prog 63 #[.agg #[.int .i64 h, u], v] w fun e w' => CoolPost h xs ds e w' ∧ Below w.heap.size w w' := by
  have HU := Lib.hid hu
  have HNZ := Lib.hid hz
  have HW := Lib.hid hw
  have HV := Lib.hid hv
  obtain ⟨p, cp, rfl, hj1, hj2⟩ := hu
  have HARG : Hid (xs ≠ [] → ∀ a n c, Value.slice p xs.length cp = .slice (some a) n c → a.block ≠ w.heap.size + 1) := fun hx a n c he => by
    obtain ⟨b, off, rfl, hc⟩ := hj2 hx
    cases he
    have h1 : 0 < xs.length := by cases xs with | nil => exact absurd rfl hx | cons _ _ => simp
    have := lt_of_cell (hc 0 h1).1
    simp only at this ⊢
    omega
  clear hj1 hj2
  obtain ⟨q, cq, rfl, hm, hq⟩ := hv
  unfold maxLen at hm
  have HQ := Lib.hid hq
  clear hq hz hw
  have hb0 : Free.Bel w ((w.alloc (.cells #[.int .i64 h, .slice p xs.length cp] 24)).alloc (.cells #[.int .i64 0, .slice none 0 0] 24)) := bt (belAlloc _ _) (belAlloc _ _)
  have m0 : ((w.alloc (.cells #[.int .i64 h, .slice p xs.length cp] 24)).alloc (.cells #[.int .i64 0, .slice none 0 0] 24)).heap[w.heap.size]? = some (.cells #[.int .i64 h, .slice p xs.length cp] 24 (0, 0)) := heap_old (World.alloc_heap_new w _)
  have m1 : ((w.alloc (.cells #[.int .i64 h, .slice p xs.length cp] 24)).alloc (.cells #[.int .i64 0, .slice none 0 0] 24)).heap[w.heap.size + 1]? = some (.cells #[.int .i64 0, .slice none 0 0] 24 (0, 0)) := by
    have := World.alloc_heap_new (w.alloc (.cells #[.int .i64 h, .slice p xs.length cp] 24)) (.cells #[.int .i64 0, .slice none 0 0] 24)
    simpa using this
  have HI := Lib.hid (And.intro hb0 (And.intro m0 (And.intro m1 (HU.out.keeps hb0))))
  clear hb0 m0 m1
  go_enter Tryd.func63, Tryd.ntmps63
  go_wp2_with fail
  go_loopw [12] (fun i wr => ∃ (k : Nat) (v : Value), k ≤ ds.length ∧ i = .int .i64 k ∧ Below w.heap.size w wr ∧ wr.heap[w.heap.size]? = some (.cells #[.int .i64 h, v] 24 (0, 0)) ∧ wr.heap[w.heap.size + 1]? = some (.cells #[.int .i64 0, .slice none 0 0] 24 (0, 0)) ∧ RL (endR xs (ds.take k)) v wr ∧ NZ v ∧ coolD xs (ds.take k) = true ∧ (xs ≠ [] → ∀ a n c, v = .slice (some a) n c → a.block ≠ w.heap.size + 1)) (fun i _ => ds.length - (intOf i).toNat)
  case atStart => exact ⟨0, _, Nat.zero_le _, rfl, HI.out.1, HI.out.2.1, HI.out.2.2.1, HI.out.2.2.2, HNZ.out, rfl, HARG.out⟩
  case round =>
    obtain ⟨k, v, hk, rfl, hB, hbx, hrz, hrl, hnz, hcool, hav⟩ := hrel
    have HAV := Lib.hid hav
    clear hav
    obtain ⟨wa, hwr⟩ : ∃ x, x = wr := ⟨_, rfl⟩
    subst hwr
    have n0 : wa.cell? ⟨w.heap.size, 0, none⟩ = some (.int .i64 h) := cell_of_heap (o := 0) hbx rfl
    have n1 : wa.cell? ⟨w.heap.size, 1, none⟩ = some v := cell_of_heap (o := 1) hbx rfl
    have z0 : wa.cell? ⟨w.heap.size + 1, 0, none⟩ = some (.int .i64 0) := cell_of_heap (o := 0) hrz rfl
    have z1 : wa.cell? ⟨w.heap.size + 1, 1, none⟩ = some (.slice none 0 0) := cell_of_heap (o := 1) hrz rfl
    have hgs : w.heap.size + 1 < wa.heap.size := lt_of_heap hrz
    have HRL := Lib.hid hrl
    obtain ⟨pv, cv, rfl, hj1, hj2⟩ := hrl
    clear hj1 hj2
    by_cases hlt : k < ds.length
    · have hx : ds ≠ [] := by intro e; simp [e] at hlt
      obtain ⟨b, off, rfl, hcp⟩ := HQ.out hx
      obtain ⟨u1, d1, il1⟩ := hcp k hlt
      have e1 := keepsB hB d1
      have il2 := il1.keeps hB
      have hklt : (k : Int) < ds.length := by omega
      have hkw : IntKind.i64.wrap ((k : Int) + 1) = (k : Int) + 1 := IntWalk.i64_in _ (by omega)
      have hwk : Hid (watchB h (endR xs (ds.take k)) = true) := watch_cool HW.out hcool
      have hend : Hid (endR xs (ds.take (k + 1)) = dayR ds[k] (endR xs (ds.take k))) := endR_step xs ds k hlt
      have hst : Hid (coolD xs (ds.take (k + 1)) = coolB (dayR ds[k] (endR xs (ds.take k)))) := by
        show _ = _
        rw [Bool.eq_iff_iff, coolD_step hlt]
        simp [hcool]
      have HPRT : Hid (coolD xs ds = true → coolD xs (ds.take (k + 1)) = true) := fun h9 => coolD_part h9
      have hdn := doneR_any h (endR xs (ds.take k)) ds[k] _ u1 wa HRL.out hnz il2 (by have := (watchB_iff.1 hwk.out).2.1; omega) (fun x hx => by have := watchB_ok hwk.out x hx; unfold okR at this; omega)
      have hlen : (endR xs (ds.take k)).length ≤ 4 := (watchB_iff.1 hwk.out).2.1
      obtain ⟨r, hr⟩ : ∃ r, coolB (dayR ds[k] (endR xs (ds.take k))) = r := ⟨_, rfl⟩
      obtain ⟨ys, hys⟩ : ∃ ys, dayR ds[k] (endR xs (ds.take k)) = ys := ⟨_, rfl⟩
      rw [hr, hys] at hdn
      have hl2 : ys.length = (endR xs (ds.take k)).length := by rw [← hys]; simp [dayR]
      obtain ⟨p1, c1, rfl, hm1, hq1⟩ := il2
      have HDN := Lib.hid hdn
      have HR := Lib.hid (And.intro hr (And.intro hys hl2))
      have HBX := Lib.hid hbx
      have HRZ := Lib.hid hrz
      have f0 : wa.frozen? ⟨w.heap.size, 0, none⟩ = false := frozen_of_heap (o := 0) hbx
      have f1 : wa.frozen? ⟨w.heap.size, 1, none⟩ = false := frozen_of_heap (o := 1) hbx
      have f2 : wa.frozen? ⟨w.heap.size + 1, 0, none⟩ = false := frozen_of_heap (o := 0) hrz
      have f3 : wa.frozen? ⟨w.heap.size + 1, 1, none⟩ = false := frozen_of_heap (o := 1) hrz
      have HB := Lib.hid hB
      clear hcp hx d1 il1 hm1 hq1 hnz hcool hdn hr hys hl2 hbx hrz hB
      generalize ds[k] = day at *
      have hgs1 : w.heap.size < wa.heap.size := by omega
      go_wp2_with fail
      refine HDN.out.mono ?_
      rintro e wb ⟨⟨v2, rfl, ho2⟩, hB2⟩
      rw [← HR.out.2.2] at ho2
      obtain ⟨q8, c8, rfl⟩ := row_slice ho2
      have KA : Free.Bel wa (wb.alloc (.cells #[.int .i64 h, .slice q8 ys.length c8] 24)) := bt hB2 (belAlloc _ _)
      have y0 := keepsB KA n0
      have y1 := keepsB KA n1
      have y2 := keepsB KA z0
      have y3 := keepsB KA z1
      have g0 := (KA.frozen (p := ⟨w.heap.size, 0, none⟩) (by simp; omega)).trans f0
      have g1 := (KA.frozen (p := ⟨w.heap.size, 1, none⟩) (by simp; omega)).trans f1
      have g2 := (KA.frozen (p := ⟨w.heap.size + 1, 0, none⟩) (by simp; omega)).trans f2
      have g3 := (KA.frozen (p := ⟨w.heap.size + 1, 1, none⟩) (by simp; omega)).trans f3
      have hbs : wa.heap.size ≤ wb.heap.size := hB2.size
      have HKA := Lib.hid (And.intro KA (bel_row ho2 (belAlloc wb (.cells #[.int .i64 h, .slice q8 ys.length c8] 24))))
      have x0 : (wb.alloc (.cells #[.int .i64 h, .slice q8 ys.length c8] 24)).cell? ⟨wb.heap.size, 0, none⟩ = some (.int .i64 h) := by simp [go_sem]
      have x1 : (wb.alloc (.cells #[.int .i64 h, .slice q8 ys.length c8] 24)).cell? ⟨wb.heap.size, 1, none⟩ = some (.slice q8 ys.length c8) := by simp [go_sem]
      have hno : w.heap.size ≠ w.heap.size + 1 := by omega
      clear ho2 hB2 KA n0 n1 z0 z1 f0 f1 f2 f3
      cases r with
      | true =>
        go_wp2_with fail
        go_roundw
        case rel => exact ⟨k + 1, .slice q8 ys.length c8, by omega, by go_num, ((HB.out.trans (HKA.out.1.mono HB.out.size)).setCell (p := ⟨w.heap.size, 0, none⟩) (Nat.le_refl _) _).setCell (p := ⟨w.heap.size, 1, none⟩) (Nat.le_refl _) _, by
          have h9 := heap_setCell_same (o := 1) (.slice q8 ys.length c8) (heap_setCell_same (o := 0) (.int .i64 h) ((HKA.out.1.block _ (by omega)).trans HBX.out))
          simpa using h9, heap_other (heap_other ((HKA.out.1.block _ hgs).trans HRZ.out) (by show _ ≠ _; simp)) (by show _ ≠ _; simp), by rw [hend.out, HR.out.2.1]; exact RL.of_row rfl (by rw [HR.out.2.2]; unfold maxLen; omega) (ownsRow_setCell_below (ownsRow_setCell_below HKA.out.2 (by simp; omega) _) (by simp; omega) _), NZ.row HKA.out.2, by rw [hst.out, HR.out.1], fun _ a n c he => by
          rcases HKA.out.2.2 with ⟨h9, _⟩ | ⟨g, cap, cur, h9, h8, _⟩
          · rw [h9] at he; cases he
          · rw [h9] at he; cases he; simp only; omega⟩
        case measure => simp [intOf]; omega
      | false =>
        go_wp2_with fail
        have hcf : coolD xs ds = false := by
          cases hc : coolD xs ds with
          | false => rfl
          | true => have h9 := HPRT.out hc; rw [hst.out, HR.out.1] at h9; cases h9
        have hst9 := two_stores (.int .i64 h) (.slice pv (endR xs (ds.take k)).length cv) y2 y3
        exact bodyPost_ret (v := .tuple #[.agg #[.int .i64 h, .slice pv (endR xs (ds.take k)).length cv], .bool false]) (by simp [results, Tryd.results63, go_sem, hst9]) rfl ⟨.inr ⟨hcf, h, pv, _, cv, rfl⟩, ((HB.out.trans (HKA.out.1.mono HB.out.size)).setCell (p := ⟨w.heap.size + 1, 0, none⟩) (Nat.le_succ _) _).setCell (p := ⟨w.heap.size + 1, 1, none⟩) (Nat.le_succ _) _⟩
    · obtain rfl : k = ds.length := by omega
      rw [List.take_length] at hcool
      have HRL2 : Hid (RL (endR xs ds) (.slice pv (endR xs ds).length cv) wa) := by have := HRL.out; rw [List.take_length] at this; exact this
      have HAV2 : Hid (xs ≠ [] → ∀ a n c, Value.slice pv (endR xs ds).length cv = .slice (some a) n c → a.block ≠ w.heap.size + 1) := by have := HAV.out; rw [List.take_length] at this; exact this
      rw [List.take_length] at n1
      have HCB := Lib.hid (And.intro hcool hB)
      have f2 : wa.frozen? ⟨w.heap.size + 1, 0, none⟩ = false := frozen_of_heap (o := 0) hrz
      have f3 : wa.frozen? ⟨w.heap.size + 1, 1, none⟩ = false := frozen_of_heap (o := 1) hrz
      clear hcool hB hbx hrz hnz
      go_wp2_with fail
      have hst9 := two_stores (.int .i64 h) (.slice pv (endR xs ds).length cv) z0 z1
      exact bodyPost_ret (v := .tuple #[.agg #[.int .i64 h, .slice pv (endR xs ds).length cv], .bool true]) (by simp [results, Tryd.results63, go_sem, hst9]) rfl ⟨.inl ⟨HCB.out.1, _, rfl, (HRL2.out.other fun h9 => HAV2.out (fun h8 => h9 (by rw [h8]; simp [endR_map]))).other fun h9 => HAV2.out (fun h8 => h9 (by rw [h8]; simp [endR_map]))⟩, (HCB.out.2.setCell (p := ⟨w.heap.size + 1, 0, none⟩) (Nat.le_succ _) _).setCell (p := ⟨w.heap.size + 1, 1, none⟩) (Nat.le_succ _) _⟩
end Go.Proofs.YtknpglgpkkhhiaaDoor

/- RoundParts: days in two parts are days. -/
namespace Go.Proofs.YtknpglgpkkhhiaaDoor
set_option linter.unusedSimpArgs false
set_option linter.unusedVariables false
open Go.RowKit Go.Proofs.YtknpglgpkkhhiaaDoor.Free2 Go.Proofs.YtknpglgpkkhhiaaDoor.ML RR

theorem aftL_len (h : Int) (xs : List Rk) (ds : List (List Int)) : (aftL h xs ds).length ≤ xs.length := by
  unfold aftL
  split
  · rw [endR_length]; exact Nat.le_refl _
  · simp
theorem all_take {α : Type} {p : α → Bool} {l : List α} (h : l.all p = true) (k : Nat) : (l.take k).all p = true :=
  List.all_eq_true.2 fun x hx => List.all_eq_true.1 h x (List.mem_of_mem_take hx)
theorem all_drop {α : Type} {p : α → Bool} {l : List α} (h : l.all p = true) (k : Nat) : (l.drop k).all p = true :=
  List.all_eq_true.2 fun x hx => List.all_eq_true.1 h x (List.mem_of_mem_drop hx)
set_option maxRecDepth 100000 in
set_option maxHeartbeats 32000000 in
theorem partsL_walk (h : Int) (xs : List Rk) (bs : List Int) (q : Int) (u v : Value) (w : World) (hT : TabR w) (hu : RL xs u w) (hz : NZ u) (hb : BL bs v w) (hq0 : 0 ≤ q) (hq1 : q ≤ 255) :
    Calls Tryd.prog 12 #[.agg #[.int .i64 h, u], v, .int .u8 q] w fun e w' => e = .returned (.bool true) ∧ Below w.heap.size w w' := by
  obtain ⟨p2, cp2, rfl, hm2, hby, hq2⟩ := hb
  have HBY := Lib.hid hby
  have HQ2 := Lib.hid hq2
  have HM2 := Lib.hid hm2
  clear hby hq2 hm2
  obtain ⟨i1, hi1, hy0, hy1, hy2⟩ := info_parts T.infoSl
  have HY := Lib.hid (And.intro hi1 (And.intro hy0 (And.intro hy1 hy2)))
  clear hi1 hy0 hy1 hy2
  have HNZ := Lib.hid hz
  have HTX := Lib.hid (fun (W : World) (hW : Below w.heap.size w W) => hT.bel hW)
  have HUX := Lib.hid (fun (W : World) (hW : Below w.heap.size w W) => hu.keeps hW)
  obtain ⟨p, cp, rfl, hm, hp⟩ := hu
  have HP := Lib.hid hp
  have HKX := Lib.hid (fun (W : World) (hW : Below w.heap.size w W) (a : Addr) (v : Value) (hv : w.cell? a = some v) => keepsB hW hv)
  clear hm hp hz hT
  have hB0 : Below w.heap.size w (w.alloc (.cells #[.int .i64 h, .slice p xs.length cp] 24)) := (Below.refl _ w).alloc (Nat.le_refl _) _
  have c0_0 : (w.alloc (.cells #[.int .i64 h, .slice p xs.length cp] 24)).cell? ⟨w.heap.size, 0, none⟩ = some (.int .i64 h) := by simp [go_sem]
  have c0_1 : (w.alloc (.cells #[.int .i64 h, .slice p xs.length cp] 24)).cell? ⟨w.heap.size, 1, none⟩ = some (.slice p xs.length cp) := by simp [go_sem]
  have HTB := Lib.hid (HTX.out _ hB0)
  go_enter Tryd.func12, Tryd.ntmps12
  go_wp2_with fail
  refine (alive_any _ HTB.out).mono ?_
  rintro e w1 ⟨rfl, hB1⟩
  have hBz : Below w.heap.size w w1 := hB0.trans (hB1.mono (by simp))
  have hzz : w.heap.size ≤ w1.heap.size := hBz.size
  have hzn : w.heap.size + 1 ≤ w1.heap.size := by have := hB1.size; simp at this; omega
  have kc0_0 := keepsB hB1 c0_0
  have kc0_1 := keepsB hB1 c0_1
  clear hB0 hB1 HTB c0_0 c0_1
  generalize hbb : w.heap.size = bb at *
  have HBB := Lib.hid hbb
  clear hbb
  have HB_w1 := Lib.hid (show Below bb w w1 from hBz)
  have hz_w1 : bb ≤ w1.heap.size := hzz
  have FA : ∀ W, Free.Bel w1 W → W.cell? ⟨bb, 0, none⟩ = some (.int .i64 h) ∧ W.cell? ⟨bb, 1, none⟩ = some (.slice p xs.length cp) ∧ Hid (TabR W) ∧ Hid (RL xs (.slice p xs.length cp) W) ∧ bb + 1 ≤ W.heap.size ∧ bb ≤ W.heap.size := fun W hW => ⟨keepsB hW kc0_0, keepsB hW kc0_1, Lib.hid (HTX.out W (hBz.trans (hW.mono hzz))), Lib.hid (HUX.out W (hBz.trans (hW.mono hzz))), Nat.le_trans hzn hW.size, Nat.le_trans hz_w1 hW.size⟩
  have KR : Free.Bel w1 w1 := Free.Bel.refl _
  clear hBz hzz kc0_0 kc0_1 hzn
  go_wp2_with fail
  cases hw : watchB h xs with
  | false =>
    refine (ready_v h xs _ w1 (FA w1 (Free.Bel.refl _)).2.2.2.1.out false (Lib.hid hw)).mono ?_
    rintro e w2 ⟨rfl, hB⟩
    have HB_w2 := Lib.hid (HB_w1.out.trans ((hB).mono hz_w1))
    have hz_w2 : bb ≤ w2.heap.size := Nat.le_trans hz_w1 (hB).size
    have FN := fun (W : World) (hW : Free.Bel w2 W) => FA W (bt (hB) hW)
    clear FA HB_w1 hz_w1 KR
    have FA := FN
    clear FN
    have KR := Free.Bel.refl w2
    clear hB
    go_wp2_with fail
    go_ret
    have hbb := HBB.out
    subst hbb
    exact ⟨rfl, HB_w2.out⟩
  | true =>
    have HW := Lib.hid hw
    refine (ready_v h xs _ w1 (FA w1 (Free.Bel.refl _)).2.2.2.1.out true (Lib.hid hw)).mono ?_
    rintro e w3 ⟨rfl, hB⟩
    have HB_w3 := Lib.hid (HB_w1.out.trans ((hB).mono hz_w1))
    have hz_w3 : bb ≤ w3.heap.size := Nat.le_trans hz_w1 (hB).size
    have FN := fun (W : World) (hW : Free.Bel w3 W) => FA W (bt (hB) hW)
    clear FA HB_w1 hz_w1 KR
    have FA := FN
    clear FN
    have KR := Free.Bel.refl w3
    clear hB
    clear hw
    go_wp2_with fail
    go_loopw [36, 8] (fun i v wr => ∃ (k : Nat) (ds : List (List Int)), k ≤ bs.length ∧ i = .int .i64 k ∧ ds.length ≤ 60 ∧ ds.all (turnB h xs) = true ∧ DO w3.heap.size ds v wr ∧ Free.Bel w3 wr) (fun i _ _ => bs.length - (intOf i).toNat)
    case atStart => exact ⟨0, [], Nat.zero_le _, rfl, by decide, rfl, DO.nil _ _, Free.Bel.refl _⟩
    case round =>
      obtain ⟨k, ds, hk, rfl, h60, hall, hdo, hB⟩ := hrel
      have HALL := Lib.hid hall
      clear hall
      by_cases hlt : k < bs.length
      · have hx2 : bs ≠ [] := by intro e; simp [e] at hlt
        obtain ⟨b2, off2, rfl, hc2⟩ := HQ2.out hx2
        have e1 := HKX.out wr (HB_w3.out.trans (hB.mono hz_w3)) _ _ (hc2 k hlt)
        have hklt : (k : Int) < bs.length := by omega
        have hkm := HM2.out
        unfold maxLen at hkm
        have hkw : IntKind.i64.wrap ((k : Int) + 1) = (k : Int) + 1 := IntWalk.i64_in _ (by omega)
        clear hc2 hx2
        generalize bs[k] = x at *
        obtain ⟨vs, hvl, how, hvd⟩ := hdo
        obtain ⟨q6, c6, rfl⟩ := row_slice how
        by_cases hd : ds.length < 60
        · have hd60 : (ds.length : Int) < 60 := by omega
          go_wp2_with fail
          refine (turns_any h xs x _ wr ((FA wr hB).2.2.2.1.out) HW.out).mono ?_
          rintro e w2 ⟨⟨v2, l2, rfl, ht2, hl2, ho2⟩, hB2⟩
          obtain ⟨q2, c2, rfl⟩ := row_slice ho2
          have KA : Free.Bel wr (w2.alloc (.cells #[.slice q2 l2.length c2] 58)) := bt hB2 (belAlloc _ _)
          have HT2 := Lib.hid ht2
          have HO2 := Lib.hid (And.intro (DayR.stay (d := l2) ⟨_, ho2⟩ fun k c f hk => ((belAlloc w2 (.cells #[.slice q2 l2.length c2] 58)).block k (lt_of_heap hk)).trans hk) (And.intro hl2 hB2))
          clear ht2 hl2 ho2
          have hs2 : w3.heap.size ≤ w2.heap.size := Nat.le_trans hB.size hB2.size
          clear hB2
          go_wp2_with (first | (at_builtin; go_loud (refine wpList_append_own _ rfl _ _ 25 rfl w3.heap.size 58 i1 (.slice none 0 0) 1 24 Tryd.underlying25 HY.out.1 HY.out.2.1 HY.out.2.2.1 HY.out.2.2.2 rfl (by decide) _ _ _ rfl (bel_row how KA) ⟨w2.heap.size, 0, none⟩ 1 1 [.slice q2 l2.length c2] rfl rfl (cell_one_new _ _ _) (fun x hx => by simp at hx; subst hx; rfl) (by unfold maxLen; omega) (by omega) (by simp; omega) ?_); intro v9 w9 hown9 hgrow9 hnil9) | fail)
          have HG := Lib.hid (show Free.Bel w3 w9 from Below.trans (show Below w3.heap.size w3 wr from hB) (((show Below wr.heap.size wr (w2.alloc (.cells #[.slice q2 l2.length c2] 58)) from KA).mono hB.size).trans (grown_belR (bel_row how KA) hgrow9 (by simp; omega))))
          have HDO := Lib.hid (DO.snoc hvl (bel_row how KA) (fun i hi u hu => (hvd i hi u hu).stay fun k c f hk => ((show Free.Bel wr _ from KA).block k (lt_of_heap hk)).trans hk) HO2.out.1 hgrow9 hown9)
          clear hown9 hgrow9 hnil9 how hvl hvd hs2 KA
          go_roundw
          case rel => exact ⟨k + 1, ds ++ [l2], by omega, by go_num, by simp; omega, by rw [List.all_append, HALL.out]; simpa using HT2.out, HDO.out, HG.out⟩
          case measure => simp [intOf]; omega
        · have hd60 : ¬ (ds.length : Int) < 60 := by omega
          have HO := Lib.hid (And.intro hvl (And.intro how (And.intro hvd hB)))
          clear hvl how hvd
          go_wp2_with fail
          go_roundw
          case rel => exact ⟨k + 1, ds, by omega, by go_num, h60, HALL.out, ⟨vs, HO.out.1, HO.out.2.1, HO.out.2.2.1⟩, HO.out.2.2.2⟩
          case measure => simp [intOf]; omega
      · obtain rfl : k = bs.length := by omega
        have HDO := Lib.hid hdo
        obtain ⟨vs, hvl, how, hvd⟩ := hdo
        obtain ⟨q6, c6, rfl⟩ := row_slice how
        clear hvl how hvd hlt hk
        obtain ⟨w4, hwr⟩ : ∃ x, x = wr := ⟨_, rfl⟩
        subst hwr
        obtain ⟨s6, hs6⟩ : ∃ x, w3.heap.size = x := ⟨_, rfl⟩
        rw [hs6] at HDO
        clear hs6
        have HB_w4 := Lib.hid (HB_w3.out.trans ((hB).mono hz_w3))
        have hz_w4 : bb ≤ w4.heap.size := Nat.le_trans hz_w3 (hB).size
        have FN := fun (W : World) (hW : Free.Bel w4 W) => And.intro (Lib.hid (HDO.out.bel hW)) (FA W (bt (hB) hW))
        clear FA HB_w3 hz_w3 KR
        have FA := FN
        clear FN
        have KR := Free.Bel.refl w4
        clear hB HDO
        have hask : Hid (askE h xs ds = 0) := ask_valid HW.out h60 HALL.out
        have hl0 : (0 : Int) < (ds.length : Int) + 1 := by omega
        have hm0 := Int.emod_nonneg q (show (ds.length : Int) + 1 ≠ 0 by omega)
        have hm1 := Int.emod_lt_of_pos q hl0
        obtain ⟨a, hk9⟩ : ∃ k : Nat, q % ((ds.length : Int) + 1) = k := ⟨_, (Int.toNat_of_nonneg hm0).symm⟩
        rw [hk9] at hm1
        have hal : a ≤ ds.length := by omega
        have cq : IntKind.i64.wrap q = q := IntWalk.i64_in _ (by omega)
        have cl : IntKind.i64.wrap ((ds.length : Int) + 1) = (ds.length : Int) + 1 := IntWalk.i64_in _ (by omega)
        have da : q.tmod ((ds.length : Int) + 1) = a := by rw [Int.tmod_eq_emod_of_nonneg (by omega), hk9]
        have ea : IntKind.i64.wrap (a : Int) = a := IntWalk.i64_in _ (by omega)
        have hln : ¬ ((ds.length : Int) + 1 = 0) := by omega
        have hlnb : (((ds.length : Int) + 1) == 0) = false := by simp; omega
        have han : ¬ ((a : Int) < 0) := by omega
        clear hm0 hm1 hk9 hl0
        obtain ⟨hs, hhs⟩ : ∃ y, heatR 0 xs ds = y := ⟨_, rfl⟩
        have HHS := Lib.hid hhs
        clear hhs
        go_wp2_with fail
        refine (hot_at h xs ds _ _ w4 (FA w4 (Free.Bel.refl _)).2.2.2.1.out (FA w4 (Free.Bel.refl _)).2.2.2.2.1.out (((FA w4 (Free.Bel.refl _)).1).out.dz (by unfold maxLen; omega) (fun d hd => day_max HW.out HALL.out hd)).dl (by omega) hask.out hs HHS).mono ?_
        rintro e w5 ⟨⟨p7, c7, rfl, hpl⟩, hB⟩
        have HB_w5 := Lib.hid (HB_w4.out.trans ((hB).mono hz_w4))
        have hz_w5 : bb ≤ w5.heap.size := Nat.le_trans hz_w4 (hB).size
        have FN := fun (W : World) (hW : Free.Bel w5 W) => And.intro (Lib.hid (hpl.keeps hW)) (FA W (bt (hB) hW))
        clear FA HB_w4 hz_w4 KR
        have FA := FN
        clear FN
        have KR := Free.Bel.refl w5
        clear hB hpl
        go_wp2_with fail
        obtain ⟨H1, hH⟩ : ∃ y, aftH h xs ds = y := ⟨_, rfl⟩
        obtain ⟨L1, hL⟩ : ∃ y, aftL h xs ds = y := ⟨_, rfl⟩
        obtain ⟨E1, hE⟩ : ∃ y, aftE h xs ds = y := ⟨_, rfl⟩
        have HA1 := Lib.hid (And.intro hE (And.intro hH hL))
        clear hE hH hL
        obtain ⟨H2, hH⟩ : ∃ y, aftH h xs (ds.take a) = y := ⟨_, rfl⟩
        obtain ⟨L2, hL⟩ : ∃ y, aftL h xs (ds.take a) = y := ⟨_, rfl⟩
        obtain ⟨E2, hE⟩ : ∃ y, aftE h xs (ds.take a) = y := ⟨_, rfl⟩
        have HA2 := Lib.hid (And.intro hE (And.intro hH hL))
        clear hE hH hL
        obtain ⟨H3, hH⟩ : ∃ y, aftH h (endR xs (ds.take a)) (ds.drop a) = y := ⟨_, rfl⟩
        obtain ⟨L3, hL⟩ : ∃ y, aftL h (endR xs (ds.take a)) (ds.drop a) = y := ⟨_, rfl⟩
        obtain ⟨E3, hE⟩ : ∃ y, aftE h (endR xs (ds.take a)) (ds.drop a) = y := ⟨_, rfl⟩
        have HA3 := Lib.hid (And.intro hE (And.intro hH hL))
        clear hE hH hL
        have HF1 := Lib.hid (show Calls Tryd.prog 23 #[.agg #[.int .i64 h, .slice p xs.length cp], .slice q6 ds.length c6] w5 fun e w' => (∃ u, e = .returned (.tuple #[.agg #[.int .i64 H1, u], .int .i64 E1]) ∧ w'.ownsRow w5.heap.size 47 3 u L1.length (cellsR L1)) ∧ Below w5.heap.size w5 w' from by
          have h9 := aftP_any h xs ds _ _ w5 (FA w5 (Free.Bel.refl _)).2.2.2.2.1.out (FA w5 (Free.Bel.refl _)).2.2.2.2.2.1.out HNZ.out (((FA w5 (Free.Bel.refl _)).2.1).out.dz (by unfold maxLen; omega) (fun d hd => day_max HW.out HALL.out hd)).dl (by omega)
          rw [HA1.out.1, HA1.out.2.1, HA1.out.2.2] at h9
          exact h9)
        refine (HF1.out).mono ?_
        rintro e w6 ⟨⟨v1, rfl, ho1⟩, hB⟩
        obtain ⟨qr6, kr6, rfl⟩ := row_slice ho1
        have hoC := row_mono ho1 hz_w5
        have HB_w6 := Lib.hid (HB_w5.out.trans ((hB).mono hz_w5))
        have hz_w6 : bb ≤ w6.heap.size := Nat.le_trans hz_w5 (hB).size
        have FN := fun (W : World) (hW : Free.Bel w6 W) => And.intro (Lib.hid (bel_row hoC hW)) (FA W (bt (hB) hW))
        clear FA HB_w5 hz_w5 KR
        have FA := FN
        clear FN
        have KR := Free.Bel.refl w6
        clear hB ho1 hoC
        have KA0 : Free.Bel w6 (w6.alloc (.cells #[.int .i64 (H1), .slice qr6 (List.length (L1)) kr6] 24)) := Bel.allocT (Free.Bel.refl _) _
        go_upto_region 14 with fail
        clear KA0
        have hN : Free.Bel w6 (w6.alloc (.cells #[.int .i64 (H1), .slice qr6 (List.length (L1)) kr6] 24)) := (Bel.allocT (Free.Bel.refl w6) _)
        have n_g60_0 : (w6.alloc (.cells #[.int .i64 (H1), .slice qr6 (List.length (L1)) kr6] 24)).cell? ⟨w6.heap.size, 0, none⟩ = some (.int .i64 (H1)) := by simp [go_sem]
        have n_g60_1 : (w6.alloc (.cells #[.int .i64 (H1), .slice qr6 (List.length (L1)) kr6] 24)).cell? ⟨w6.heap.size, 1, none⟩ = some (.slice qr6 (List.length (L1)) kr6) := by simp [go_sem]
        generalize (w6.alloc (.cells #[.int .i64 (H1), .slice qr6 (List.length (L1)) kr6] 24)) = w7 at *
        obtain ⟨g60, hgz⟩ : ∃ x, x = w6.heap.size := ⟨_, rfl⟩
        rw [← hgz] at n_g60_0 n_g60_1 ⊢
        clear hgz
        have HB_w7 := Lib.hid (HB_w6.out.trans ((hN).mono hz_w6))
        have hz_w7 : bb ≤ w7.heap.size := Nat.le_trans hz_w6 (hN).size
        have FN := fun (W : World) (hW : Free.Bel w7 W) => And.intro (keepsB hW n_g60_0) (And.intro (keepsB hW n_g60_1) (FA W (bt (hN) hW)))
        clear FA HB_w6 hz_w6 KR
        have FA := FN
        clear FN
        have KR := Free.Bel.refl w7
        clear hN n_g60_0 n_g60_1
        clear HF1
        have hcap : ds.length ≤ c6 := row_cap ((FA w7 (Free.Bel.refl _)).2.2.2.2.1).out.choose_spec.2.1
        have HSL1 := Lib.hid (headD q6 ds.length c6 a (by omega))
        have HSL2 := Lib.hid (restD q6 ds.length c6 a hal)
        have HCAP := Lib.hid hcap
        clear hcap
        have HF2 := Lib.hid (fun (W : World) (hW : Free.Bel w7 W) => show Calls Tryd.prog 23 #[.agg #[.int .i64 h, .slice p xs.length cp], .slice q6 a c6] W fun e w' => (∃ u, e = .returned (.tuple #[.agg #[.int .i64 H2, u], .int .i64 E2]) ∧ w'.ownsRow W.heap.size 47 3 u L2.length (cellsR L2)) ∧ Below W.heap.size W w' from by
          have h9 := aftP_any h xs (ds.take a) _ _ W (FA W hW).2.2.2.2.2.2.2.1.out (FA W hW).2.2.2.2.2.2.2.2.1.out HNZ.out (DL.head (((FA W hW).2.2.2.2.1).out.dz (by unfold maxLen; omega) (fun d hd => day_max HW.out HALL.out hd)).dl hal) (by simp; omega)
          rw [HA2.out.1, HA2.out.2.1, HA2.out.2.2] at h9
          exact h9)
        have FBW : ∀ W', RQt 24 w7.heap.size w7.drew W' → Free.Bel w7 W' := fun W' hR => bt (Bel.drewT (Free.Bel.refl _)) (show Free.Bel w7.drew W' from hR.below)
        have hF := fun (W' : World) (hR : RQt 24 w7.heap.size w7.drew W') => FA W' (FBW W' hR)
        refine Free2.wp_free (R := RQt 24 w7.heap.size) (J := JK 24 w7.heap.size 6 8 9) (by kernel_rfl) (by kernel_rfl) (RQt.refl _ _) (fun _ _ _ => RQt.trans) (JK.start (Nat.le_refl _)) ?_
        refine Free2.Chain.ex ?_ 0 rfl [] [3] (by kernel_rfl) (by kernel_rfl) rfl (RQt.refl _ _) (fun X W v h => JK.skip h 0 v (by decide) (by decide) (fun e => absurd e (by decide))) ?_ ?_
        rotate_left
        · (intro ev W hb hR hO hD; have hS := hF W hR; obtain ⟨hb1, hb2, hb3⟩ := hb; simp only [Free.AllDeps, Free.AllOuts, Free.At, al1, al2, al3, al4, al5, and_true] at hO hD; go_simp; rfl)
        simp only [an1, an2]
        refine Free2.Chain.ex ?_ 1 rfl [] [8] (by kernel_rfl) (by kernel_rfl) rfl (RQt.refl _ _) (fun X W v h => JK.skip h 1 v (by decide) (by decide) (fun e => absurd e (by decide))) ?_ ?_
        rotate_left
        · (intro ev W hb hR hO hD; have hS := hF W hR; obtain ⟨hb1, hb2, hb3⟩ := hb; simp only [Free.AllDeps, Free.AllOuts, Free.At, al1, al2, al3, al4, al5, and_true] at hO hD; go_simp; rfl)
        simp only [an1, an2]
        refine Free2.Chain.ex ?_ 2 rfl [] [11] (by kernel_rfl) (by kernel_rfl) rfl (RQt.refl _ _) (fun X W v h => JK.skip h 2 v (by decide) (by decide) (fun e => absurd e (by decide))) ?_ ?_
        rotate_left
        · (intro ev W hb hR hO hD; have hS := hF W hR; obtain ⟨hb1, hb2, hb3⟩ := hb; simp only [Free.AllDeps, Free.AllOuts, Free.At, al1, al2, al3, al4, al5, and_true] at hO hD; go_simp; rfl)
        simp only [an1, an2]
        refine Free2.Chain.pr (fun v _ => v = .slice q6 a c6) 3 rfl [(1, 70), (2, 71)] [] (by kernel_rfl) (by kernel_rfl) rfl (fun _ _ _ _ h => h) ?_ ?_
        · (intro ev W X hb hR hO hD hj hx hax; have hS := hF W hR; obtain ⟨hb1, hb2, hb3⟩ := hb; simp only [Free.AllDeps, Free.AllOuts, Free.At, al1, al2, al3, al4, al5, and_true] at hO hD; simp only [Free2.AllX, and_true] at hax; have hq9 : (Instr.slice 25 (.slice q6 ds.length c6) none (some (.int .i64 (a : Int))) none).run Tryd.prog W = _ := HSL1.out W; go_simp; exact ⟨RQt.refl _ _ _, rfl, JK.skip hj 3 _ (by decide) (by decide) (fun e => absurd e (by decide))⟩)
        simp only [an1, an2]
        refine Free2.Chain.pr (AftV w7.heap.size (H2) (L2) (E2)) 4 rfl [(0, 69), (3, 72)] [] (by kernel_rfl) (by kernel_rfl) rfl (AftV.stable _ _ _ _ _) ?_ ?_
        · (intro ev W X hb hR hO hD hj hx hax; have hS := hF W hR; obtain ⟨hb1, hb2, hb3⟩ := hb; simp only [Free.AllDeps, Free.AllOuts, Free.At, al1, al2, al3, al4, al5, and_true] at hO hD; simp only [Free2.AllX, and_true] at hax; have hb := FBW W hR; go_simp; refine yields_enter ?_; (with_reducible refine (HF2.out W hb).mono ?_); rintro e W2 ⟨⟨u9, rfl, ho9⟩, hB2⟩; exact ⟨_, rfl, RQt.of_bel hB2 hj.size, ⟨u9, rfl, row_mono ho9 hj.size⟩, JK.skip (JK.bel hj hB2) 4 _ (by decide) (by decide) (fun e => absurd e (by decide))⟩)
        simp only [an1, an2]
        refine Free2.Chain.pr (AftV w7.heap.size (H2) (L2) (E2)) 5 rfl [(4, 73)] [] (by kernel_rfl) (by kernel_rfl) rfl (AftV.stable _ _ _ _ _) ?_ ?_
        · (intro ev W X hb hR hO hD hj hx hax; have hS := hF W hR; obtain ⟨hb1, hb2, hb3⟩ := hb; simp only [Free.AllDeps, Free.AllOuts, Free.At, al1, al2, al3, al4, al5, and_true] at hO hD; simp only [Free2.AllX, and_true] at hax; obtain ⟨u9, hu9, ho9⟩ := hD; go_simp; exact ⟨RQt.refl _ _ _, ⟨u9, rfl, ho9⟩, JK.skip hj 5 _ (by decide) (by decide) (fun e => absurd e (by decide))⟩)
        simp only [an1, an2]
        refine Free2.Chain.pr (AftW w7.heap.size (H2) (L2)) 6 rfl [(5, 68)] [] (by kernel_rfl) (by kernel_rfl) rfl (AftW.stable _ _ _ _) ?_ ?_
        · (intro ev W X hb hR hO hD hj hx hax; have hS := hF W hR; obtain ⟨hb1, hb2, hb3⟩ := hb; simp only [Free.AllDeps, Free.AllOuts, Free.At, al1, al2, al3, al4, al5, and_true] at hO hD; simp only [Free2.AllX, and_true] at hax; obtain ⟨u9, hu9, ho9⟩ := hD; go_simp; exact ⟨RQt.refl _ _ _, ⟨u9, rfl, ho9⟩, JK.skip hj 6 _ (by decide) (by decide) (fun _ => hx)⟩)
        simp only [an1, an2]
        refine Free2.Chain.pr (fun v _ => v = .int .i64 (E2)) 7 rfl [(5, 68)] [] (by kernel_rfl) (by kernel_rfl) rfl (fun _ _ _ _ h => h) ?_ ?_
        · (intro ev W X hb hR hO hD hj hx hax; have hS := hF W hR; obtain ⟨hb1, hb2, hb3⟩ := hb; simp only [Free.AllDeps, Free.AllOuts, Free.At, al1, al2, al3, al4, al5, and_true] at hO hD; simp only [Free2.AllX, and_true] at hax; obtain ⟨u9, hu9, ho9⟩ := hD; go_simp; first | exact ⟨RQt.refl _ _ _, rfl, JK.skip hj 7 _ (by decide) (by decide) (fun e => absurd e (by decide))⟩ | exact ⟨RQt.refl _ _ _, JK.skip hj 7 _ (by decide) (by decide) (fun e => absurd e (by decide))⟩)
        simp only [an1, an2]
        refine Free2.Chain.pr (fun _ _ => True) 8 rfl [] [] (by kernel_rfl) (by kernel_rfl) rfl (fun _ _ _ _ h => h) ?_ ?_
        · (intro ev W X hb hR hO hD hj hx hax; have hS := hF W hR; obtain ⟨hb1, hb2, hb3⟩ := hb; simp only [Free.AllDeps, Free.AllOuts, Free.At, al1, al2, al3, al4, al5, and_true] at hO hD; simp only [Free2.AllX, and_true] at hax; go_simp; exact ⟨RQt.of_bel (belAlloc _ _) hj.size, JK.made hj hx (belAlloc _ _) hj.size (World.alloc_heap_new _ _) (by decide)⟩)
        simp only [an1, an2]
        refine Free2.Chain.pr (fun _ _ => True) 9 rfl [(8, 16), (6, 74), (4, 73), (0, 69), (1, 70), (2, 71), (3, 72), (4, 73), (5, 68), (6, 74), (8, 16)] [] (by kernel_rfl) (by kernel_rfl) rfl (fun _ _ _ _ h => h) ?_ ?_
        · (intro ev W X hb hR hO hD hj hx hax; have hS := hF W hR; obtain ⟨hb1, hb2, hb3⟩ := hb; simp only [Free.AllDeps, Free.AllOuts, Free.At, al1, al2, al3, al4, al5, and_true] at hO hD; simp only [Free2.AllX, and_true] at hax; obtain ⟨u9, hu9, ho9⟩ := hD.2.1; obtain ⟨q9, c9, rfl⟩ := row_slice ho9; have hXe := hax.2.1; rw [hu9] at hXe; obtain ⟨b9, hb9, hs9, h39, _⟩ := hj.new _ hax.1; obtain ⟨x0, y0, h59⟩ := h39 hx; have hXa := hax.1; rw [hb9] at hXa; have c0 := cell_of_heap (o := 0) h59 rfl; have c1 := cell_of_heap (o := 1) h59 rfl; have f0 := frozen_of_heap (o := 0) h59; have f1 := frozen_of_heap (o := 1) h59; go_simp; exact ⟨RQt.trans (RQt.set hs9 h59) (RQt.set hs9 (heap_setCell_same (o := 0) _ h59)), JK.put hj hx hXa hXe (by decide) (by decide)⟩)
        simp only [an1, an2]
        refine Free2.Chain.ex ?_ 10 rfl [(7, 75), (0, 69), (1, 70), (2, 71), (3, 72), (4, 73), (5, 68), (6, 74), (7, 75), (8, 16)] [] (by kernel_rfl) (by kernel_rfl) rfl (RQt.refl _ _) (fun X W v h => JK.skip h 10 v (by decide) (by decide) (fun e => absurd e (by decide))) ?_ ?_
        rotate_left
        · (intro ev W hb hR hO hD; have hS := hF W hR; obtain ⟨hb1, hb2, hb3⟩ := hb; simp only [Free.AllDeps, Free.AllOuts, Free.At, al1, al2, al3, al4, al5, and_true] at hO hD; go_simp; rfl)
        simp only [an1, an2]
        intro ys w8 hR hV hX
        obtain ⟨X, hj, hxx⟩ := hX
        simp only [Free.AllV, Free.At, List.length_cons, List.length_nil, Nat.reduceAdd, List.getElem?_cons_succ, List.getElem?_cons_zero, true_and, and_true] at hV
        obtain ⟨b2, hbB, hsB, -, h4B⟩ := hj.new _ (hxx 8 (by decide))
        obtain ⟨xB, yB, hexB, hblB⟩ := h4B (by rw [hxx 9 (by decide)]; simp)
        have hvW : AftW w7.heap.size (H2) (L2) (ys 6) w8 := hV.1.1.2
        obtain ⟨uB, huB, hoB⟩ := hvW
        have hxy : Value.agg #[xB, yB] = .agg #[.int .i64 (H2), uB] := by rw [← huB]; exact (Option.some.inj ((hxx 6 (by decide)).symm.trans hexB)).symm
        obtain ⟨rfl, rfl⟩ : xB = .int .i64 (H2) ∧ yB = uB := by simpa using hxy
        obtain ⟨qb2, kb2, rfl⟩ := row_slice hoB
        simp only [Free.putsFrom, Act.put, Nat.zero_add, Nat.reduceAdd, hV, hbB, List.setIfInBounds_toArray, List.set_cons_succ, List.set_cons_zero]
        have hN : Free.Bel w7 w8 := FBW w8 hR
        have hoC := row_mono hoB hz_w7
        have hg_b2 : bb + 1 ≤ b2 := Nat.le_trans (FA w7 (Free.Bel.refl _)).2.2.2.2.2.2.2.2.2.1 hsB
        have HB_w8 := Lib.hid (HB_w7.out.trans ((hN).mono hz_w7))
        have hz_w8 : bb ≤ w8.heap.size := Nat.le_trans hz_w7 (hN).size
        have FN := fun (W : World) (hW : Free.Bel w8 W) => And.intro (keepsB hW (cell_of_heap (o := 0) hblB rfl)) (And.intro (keepsB hW (cell_of_heap (o := 1) hblB rfl)) (And.intro (Lib.hid (bel_row hoC hW)) (FA W (bt (hN) hW))))
        clear FA HB_w7 hz_w7 KR
        have FA := FN
        clear FN
        have KR := Free.Bel.refl w8
        clear hR hV hj hxx hF FBW hexB hblB hoB hoC hsB h4B huB hxy hbB hN
        clear HF2
        have ha2 : Hid (askE h xs (ds.take a) = 0) := ask_valid HW.out (by simp; omega) (all_take HALL.out a)
        have hl4 : xs.length ≤ 4 := (watchB_iff.1 HW.out).2.1
        have hLL : Hid (L1.length ≤ 4 ∧ L2.length ≤ 4 ∧ L3.length ≤ 4) := by
          refine ⟨?_, ?_, ?_⟩
          · rw [← HA1.out.2.2]; exact Nat.le_trans (aftL_len _ _ _) (by first | exact hl4 | (rw [endR_length]; exact hl4))
          · rw [← HA2.out.2.2]; exact Nat.le_trans (aftL_len _ _ _) (by first | exact hl4 | (rw [endR_length]; exact hl4))
          · rw [← HA3.out.2.2]; exact Nat.le_trans (aftL_len _ _ _) (by first | exact hl4 | (rw [endR_length]; exact hl4))
        have HC12 : Hid (coolD xs ds = true → coolD xs (ds.take a) = true) := fun h9 => coolD_part h9
        cases hc2 : coolD xs (ds.take a) with
        | false =>
          obtain rfl : E2 = 73 := HA2.out.1.symm.trans (aft_warm ha2.out hc2).1
          have hc1 : coolD xs ds = false := by
            cases hc : coolD xs ds with
            | false => rfl
            | true => have h9 := HC12.out hc; rw [hc2] at h9; cases h9
          obtain rfl : E1 = 73 := HA1.out.1.symm.trans (aft_warm hask.out hc1).1
          obtain ⟨p0, r0, hpr, hp1⟩ := heat_early (b := ds.drop a) hc2
          rw [List.take_append_drop, HHS.out] at hpr
          have hla : (ds.take a).length = a := by simp; omega
          rw [hla] at hp1
          have hsn : hs ≠ [] := by rw [hpr]; simp
          have hsl : 0 < hs.length := by rw [hpr]; simp
          have hg0 : hs[0]'hsl = p0 := by simp only [hpr, List.getElem_cons_zero]
          obtain ⟨pz, cz, hez, hmz, hcz⟩ := ((FA w8 (Free.Bel.refl _)).2.2.2.2.2.2.1).out
          cases hez
          obtain ⟨b7, off7, rfl, hc7⟩ := hcz hsn
          have hd0 := (hc7 0 hsl).1
          rw [hg0] at hd0
          obtain ⟨d0, d1⟩ := p0
          simp only [Nat.zero_mul, Nat.add_zero] at hd0 hp1
          have hlb : ((hs.length : Int) == 0) = false := by simp; omega
          have hl1 : (0 : Int) < hs.length := by omega
          have hdb : decide (d0 ≤ (a : Int)) = true := decide_eq_true hp1
          clear hpr hg0 hsn hsl hla hc7 hmz hcz hc1 hc2
          go_wp2_with fail
          go_ret
          have hbb := HBB.out
          subst hbb
          exact ⟨rfl, HB_w8.out⟩
        | true =>
          obtain rfl : E2 = 0 := HA2.out.1.symm.trans (aft_cool ha2.out hc2).1
          have HE2 : Hid (H2 = h ∧ L2 = endR xs (ds.take a)) := ⟨HA2.out.2.1.symm.trans (aft_cool ha2.out hc2).2.1, HA2.out.2.2.symm.trans (aft_cool ha2.out hc2).2.2⟩
          have hw2 : Hid (watchB h (endR xs (ds.take a)) = true) := watch_cool HW.out hc2
          have ha3 : Hid (askE h (endR xs (ds.take a)) (ds.drop a) = 0) := ask_valid hw2.out (by simp; omega) (by rw [turnB_end]; exact all_drop HALL.out a)
          have hc3 : Hid (coolD (endR xs (ds.take a)) (ds.drop a) = coolD xs ds) := by
            show _ = _
            have h9 := coolD_append (xs := xs) (a := ds.take a) (b := ds.drop a)
            rw [List.take_append_drop] at h9
            rw [Bool.eq_iff_iff, h9]
            simp [hc2]
          obtain ⟨hs2, hhs2⟩ : ∃ y, heatR 0 (endR xs (ds.take a)) (ds.drop a) = y := ⟨_, rfl⟩
          have HHS2 := Lib.hid hhs2
          have HSH : Hid (hs = hs2.map fun p => (p.1 + (a : Int), p.2)) := by
            show _ = _
            have h9 := heat_second (b := ds.drop a) hc2
            have hla : (ds.take a).length = a := by simp; omega
            rw [List.take_append_drop, HHS.out, HHS2.out, hla] at h9
            exact h9
          have hsl : Hid (hs2.length = hs.length) := by have h9 := congrArg List.length HSH.out; show _ = _; simpa using h9.symm
          have hlc : ((hs2.length : Int) != (hs.length : Int)) = false := by rw [hsl.out]; simp
          obtain ⟨HHe, HLe, HEe⟩ : H3 = H1 ∧ L3 = L1 ∧ E3 = E1 := by
            cases hc1 : coolD xs ds with
            | true =>
              obtain ⟨e1, e2, e3⟩ := aft_cool hask.out hc1
              obtain ⟨f1, f2, f3⟩ := aft_cool ha3.out (hc3.out.trans hc1)
              rw [HA1.out.1] at e1; rw [HA1.out.2.1] at e2; rw [HA1.out.2.2] at e3
              rw [HA3.out.1] at f1; rw [HA3.out.2.1] at f2; rw [HA3.out.2.2] at f3
              rw [← endR_append, List.take_append_drop] at f3
              exact ⟨f2.trans e2.symm, f3.trans e3.symm, f1.trans e1.symm⟩
            | false =>
              obtain ⟨e1, e2, e3⟩ := aft_warm hask.out hc1
              obtain ⟨f1, f2, f3⟩ := aft_warm ha3.out (hc3.out.trans hc1)
              rw [HA1.out.1] at e1; rw [HA1.out.2.1] at e2; rw [HA1.out.2.2] at e3
              rw [HA3.out.1] at f1; rw [HA3.out.2.1] at f2; rw [HA3.out.2.2] at f3
              exact ⟨f2.trans e2.symm, f3.trans e3.symm, f1.trans e1.symm⟩
          have HEQ := Lib.hid (And.intro HHe (And.intro HLe HEe))
          clear HHe HLe HEe hc2 hhs2
          go_upto_region 15 with fail
          go_cut [101] (fun s101 W => s101 = .bool false ∧ Free.Bel w8 W)
          case first =>
            cases hc1 : coolD xs ds with
            | false =>
              obtain rfl : E1 = 73 := HA1.out.1.symm.trans (aft_warm hask.out hc1).1
              have hlz : ((hs.length : Int) == 0) = false := by unfold coolD at hc1; rw [HHS.out] at hc1; cases hs with | nil => cases hc1 | cons _ _ => simp; omega
              clear hc1
              go_wp2_with fail
              go_meet
              exact ⟨rfl, (Free.Bel.refl _)⟩
            | true =>
              obtain rfl : E1 = 0 := HA1.out.1.symm.trans (aft_cool hask.out hc1).1
              have hlz : ((hs.length : Int) == 0) = true := by unfold coolD at hc1; rw [HHS.out] at hc1; rw [List.isEmpty_iff.1 hc1]; rfl
              clear hc1
              go_wp2_with fail
              go_meet
              exact ⟨rfl, (Free.Bel.refl _)⟩
          obtain ⟨rfl, hN⟩ := hcut
          obtain ⟨w9, hwc⟩ : ∃ x, x = wc := ⟨_, rfl⟩
          subst hwc
          have HB_w9 := Lib.hid (HB_w8.out.trans ((hN).mono hz_w8))
          have hz_w9 : bb ≤ w9.heap.size := Nat.le_trans hz_w8 (hN).size
          have FN := fun (W : World) (hW : Free.Bel w9 W) => FA W (bt (hN) hW)
          clear FA HB_w8 hz_w8 KR
          have FA := FN
          clear FN
          have KR := Free.Bel.refl w9
          clear hN
          go_wp2_with fail
          have HF3 := Lib.hid (fun (W : World) (hW : Free.Bel w9 W) => show Calls Tryd.prog 23 #[.agg #[.int .i64 H2, .slice qb2 (List.length (L2)) kb2], .slice (tailD q6 c6 a) (ds.length - a) (c6 - a)] W fun e w' => (∃ u, e = .returned (.tuple #[.agg #[.int .i64 H3, u], .int .i64 E3]) ∧ w'.ownsRow W.heap.size 47 3 u L3.length (cellsR L3)) ∧ Below W.heap.size W w' from by
            have h9 := aftP_any H2 L2 (ds.drop a) _ _ W (FA W hW).2.2.2.2.2.2.2.2.2.2.1.out (RL.of_row rfl (by have := hLL.out; unfold maxLen; omega) ((FA W hW).2.2.1).out) (NZ.row ((FA W hW).2.2.1).out) (DL.tail (((FA W hW).2.2.2.2.2.2.2.1).out.dz (by unfold maxLen; omega) (fun d hd => day_max HW.out HALL.out hd)).dl hal HCAP.out) (by simp; omega)
            rw [show aftE H2 L2 (ds.drop a) = E3 by rw [HE2.out.1, HE2.out.2]; exact HA3.out.1, show aftH H2 L2 (ds.drop a) = H3 by rw [HE2.out.1, HE2.out.2]; exact HA3.out.2.1, show aftL H2 L2 (ds.drop a) = L3 by rw [HE2.out.1, HE2.out.2]; exact HA3.out.2.2] at h9
            exact h9)
          have FBW : ∀ W', RQt 24 w9.heap.size w9.drew W' → Free.Bel w9 W' := fun W' hR => bt (Bel.drewT (Free.Bel.refl _)) (show Free.Bel w9.drew W' from hR.below)
          have hF := fun (W' : World) (hR : RQt 24 w9.heap.size w9.drew W') => FA W' (FBW W' hR)
          refine Free2.wp_free (R := RQt 24 w9.heap.size) (J := JK 24 w9.heap.size 6 8 9) (by kernel_rfl) (by kernel_rfl) (RQt.refl _ _) (fun _ _ _ => RQt.trans) (JK.start (Nat.le_refl _)) ?_
          refine Free2.Chain.ex ?_ 0 rfl [] [16] (by kernel_rfl) (by kernel_rfl) rfl (RQt.refl _ _) (fun X W v h => JK.skip h 0 v (by decide) (by decide) (fun e => absurd e (by decide))) ?_ ?_
          rotate_left
          · (intro ev W hb hR hO hD; have hS := hF W hR; obtain ⟨hb1, hb2, hb3⟩ := hb; simp only [Free.AllDeps, Free.AllOuts, Free.At, al1, al2, al3, al4, al5, and_true] at hO hD; go_simp; rfl)
          simp only [an1, an2]
          refine Free2.Chain.ex ?_ 1 rfl [] [8] (by kernel_rfl) (by kernel_rfl) rfl (RQt.refl _ _) (fun X W v h => JK.skip h 1 v (by decide) (by decide) (fun e => absurd e (by decide))) ?_ ?_
          rotate_left
          · (intro ev W hb hR hO hD; have hS := hF W hR; obtain ⟨hb1, hb2, hb3⟩ := hb; simp only [Free.AllDeps, Free.AllOuts, Free.At, al1, al2, al3, al4, al5, and_true] at hO hD; go_simp; rfl)
          simp only [an1, an2]
          refine Free2.Chain.ex ?_ 2 rfl [] [11] (by kernel_rfl) (by kernel_rfl) rfl (RQt.refl _ _) (fun X W v h => JK.skip h 2 v (by decide) (by decide) (fun e => absurd e (by decide))) ?_ ?_
          rotate_left
          · (intro ev W hb hR hO hD; have hS := hF W hR; obtain ⟨hb1, hb2, hb3⟩ := hb; simp only [Free.AllDeps, Free.AllOuts, Free.At, al1, al2, al3, al4, al5, and_true] at hO hD; go_simp; rfl)
          simp only [an1, an2]
          refine Free2.Chain.pr (fun v _ => v = .slice (tailD q6 c6 a) (ds.length - a) (c6 - a)) 3 rfl [(1, 120), (2, 121)] [] (by kernel_rfl) (by kernel_rfl) rfl (fun _ _ _ _ h => h) ?_ ?_
          · (intro ev W X hb hR hO hD hj hx hax; have hS := hF W hR; obtain ⟨hb1, hb2, hb3⟩ := hb; simp only [Free.AllDeps, Free.AllOuts, Free.At, al1, al2, al3, al4, al5, and_true] at hO hD; simp only [Free2.AllX, and_true] at hax; have hq9 : (Instr.slice 25 (.slice q6 ds.length c6) (some (.int .i64 (a : Int))) none none).run Tryd.prog W = _ := HSL2.out W; go_simp; exact ⟨RQt.refl _ _ _, rfl, JK.skip hj 3 _ (by decide) (by decide) (fun e => absurd e (by decide))⟩)
          simp only [an1, an2]
          refine Free2.Chain.pr (AftV w9.heap.size (H3) (L3) (E3)) 4 rfl [(0, 119), (3, 122)] [] (by kernel_rfl) (by kernel_rfl) rfl (AftV.stable _ _ _ _ _) ?_ ?_
          · (intro ev W X hb hR hO hD hj hx hax; have hS := hF W hR; obtain ⟨hb1, hb2, hb3⟩ := hb; simp only [Free.AllDeps, Free.AllOuts, Free.At, al1, al2, al3, al4, al5, and_true] at hO hD; simp only [Free2.AllX, and_true] at hax; have hb := FBW W hR; go_simp; refine yields_enter ?_; (with_reducible refine (HF3.out W hb).mono ?_); rintro e W2 ⟨⟨u9, rfl, ho9⟩, hB2⟩; exact ⟨_, rfl, RQt.of_bel hB2 hj.size, ⟨u9, rfl, row_mono ho9 hj.size⟩, JK.skip (JK.bel hj hB2) 4 _ (by decide) (by decide) (fun e => absurd e (by decide))⟩)
          simp only [an1, an2]
          refine Free2.Chain.pr (AftV w9.heap.size (H3) (L3) (E3)) 5 rfl [(4, 123)] [] (by kernel_rfl) (by kernel_rfl) rfl (AftV.stable _ _ _ _ _) ?_ ?_
          · (intro ev W X hb hR hO hD hj hx hax; have hS := hF W hR; obtain ⟨hb1, hb2, hb3⟩ := hb; simp only [Free.AllDeps, Free.AllOuts, Free.At, al1, al2, al3, al4, al5, and_true] at hO hD; simp only [Free2.AllX, and_true] at hax; obtain ⟨u9, hu9, ho9⟩ := hD; go_simp; exact ⟨RQt.refl _ _ _, ⟨u9, rfl, ho9⟩, JK.skip hj 5 _ (by decide) (by decide) (fun e => absurd e (by decide))⟩)
          simp only [an1, an2]
          refine Free2.Chain.pr (AftW w9.heap.size (H3) (L3)) 6 rfl [(5, 118)] [] (by kernel_rfl) (by kernel_rfl) rfl (AftW.stable _ _ _ _) ?_ ?_
          · (intro ev W X hb hR hO hD hj hx hax; have hS := hF W hR; obtain ⟨hb1, hb2, hb3⟩ := hb; simp only [Free.AllDeps, Free.AllOuts, Free.At, al1, al2, al3, al4, al5, and_true] at hO hD; simp only [Free2.AllX, and_true] at hax; obtain ⟨u9, hu9, ho9⟩ := hD; go_simp; exact ⟨RQt.refl _ _ _, ⟨u9, rfl, ho9⟩, JK.skip hj 6 _ (by decide) (by decide) (fun _ => hx)⟩)
          simp only [an1, an2]
          refine Free2.Chain.pr (fun v _ => v = .int .i64 (E3)) 7 rfl [(5, 118)] [] (by kernel_rfl) (by kernel_rfl) rfl (fun _ _ _ _ h => h) ?_ ?_
          · (intro ev W X hb hR hO hD hj hx hax; have hS := hF W hR; obtain ⟨hb1, hb2, hb3⟩ := hb; simp only [Free.AllDeps, Free.AllOuts, Free.At, al1, al2, al3, al4, al5, and_true] at hO hD; simp only [Free2.AllX, and_true] at hax; obtain ⟨u9, hu9, ho9⟩ := hD; go_simp; first | exact ⟨RQt.refl _ _ _, rfl, JK.skip hj 7 _ (by decide) (by decide) (fun e => absurd e (by decide))⟩ | exact ⟨RQt.refl _ _ _, JK.skip hj 7 _ (by decide) (by decide) (fun e => absurd e (by decide))⟩)
          simp only [an1, an2]
          refine Free2.Chain.pr (fun _ _ => True) 8 rfl [] [] (by kernel_rfl) (by kernel_rfl) rfl (fun _ _ _ _ h => h) ?_ ?_
          · (intro ev W X hb hR hO hD hj hx hax; have hS := hF W hR; obtain ⟨hb1, hb2, hb3⟩ := hb; simp only [Free.AllDeps, Free.AllOuts, Free.At, al1, al2, al3, al4, al5, and_true] at hO hD; simp only [Free2.AllX, and_true] at hax; go_simp; exact ⟨RQt.of_bel (belAlloc _ _) hj.size, JK.made hj hx (belAlloc _ _) hj.size (World.alloc_heap_new _ _) (by decide)⟩)
          simp only [an1, an2]
          refine Free2.Chain.pr (fun _ _ => True) 9 rfl [(8, 18), (6, 124), (4, 123), (0, 119), (1, 120), (2, 121), (3, 122), (4, 123), (5, 118), (6, 124), (8, 18)] [] (by kernel_rfl) (by kernel_rfl) rfl (fun _ _ _ _ h => h) ?_ ?_
          · (intro ev W X hb hR hO hD hj hx hax; have hS := hF W hR; obtain ⟨hb1, hb2, hb3⟩ := hb; simp only [Free.AllDeps, Free.AllOuts, Free.At, al1, al2, al3, al4, al5, and_true] at hO hD; simp only [Free2.AllX, and_true] at hax; obtain ⟨u9, hu9, ho9⟩ := hD.2.1; obtain ⟨q9, c9, rfl⟩ := row_slice ho9; have hXe := hax.2.1; rw [hu9] at hXe; obtain ⟨b9, hb9, hs9, h39, _⟩ := hj.new _ hax.1; obtain ⟨x0, y0, h59⟩ := h39 hx; have hXa := hax.1; rw [hb9] at hXa; have c0 := cell_of_heap (o := 0) h59 rfl; have c1 := cell_of_heap (o := 1) h59 rfl; have f0 := frozen_of_heap (o := 0) h59; have f1 := frozen_of_heap (o := 1) h59; go_simp; exact ⟨RQt.trans (RQt.set hs9 h59) (RQt.set hs9 (heap_setCell_same (o := 0) _ h59)), JK.put hj hx hXa hXe (by decide) (by decide)⟩)
          simp only [an1, an2]
          refine Free2.Chain.ex ?_ 10 rfl [(7, 125), (0, 119), (1, 120), (2, 121), (3, 122), (4, 123), (5, 118), (6, 124), (7, 125), (8, 18)] [] (by kernel_rfl) (by kernel_rfl) rfl (RQt.refl _ _) (fun X W v h => JK.skip h 10 v (by decide) (by decide) (fun e => absurd e (by decide))) ?_ ?_
          rotate_left
          · (intro ev W hb hR hO hD; have hS := hF W hR; obtain ⟨hb1, hb2, hb3⟩ := hb; simp only [Free.AllDeps, Free.AllOuts, Free.At, al1, al2, al3, al4, al5, and_true] at hO hD; go_simp; rfl)
          simp only [an1, an2]
          intro ys w10 hR hV hX
          obtain ⟨X, hj, hxx⟩ := hX
          simp only [Free.AllV, Free.At, List.length_cons, List.length_nil, Nat.reduceAdd, List.getElem?_cons_succ, List.getElem?_cons_zero, true_and, and_true] at hV
          obtain ⟨b3, hbB, hsB, -, h4B⟩ := hj.new _ (hxx 8 (by decide))
          obtain ⟨xB, yB, hexB, hblB⟩ := h4B (by rw [hxx 9 (by decide)]; simp)
          have hvW : AftW w9.heap.size (H3) (L3) (ys 6) w10 := hV.1.1.2
          obtain ⟨uB, huB, hoB⟩ := hvW
          have hxy : Value.agg #[xB, yB] = .agg #[.int .i64 (H3), uB] := by rw [← huB]; exact (Option.some.inj ((hxx 6 (by decide)).symm.trans hexB)).symm
          obtain ⟨rfl, rfl⟩ : xB = .int .i64 (H3) ∧ yB = uB := by simpa using hxy
          obtain ⟨qb3, kb3, rfl⟩ := row_slice hoB
          simp only [Free.putsFrom, Act.put, Nat.zero_add, Nat.reduceAdd, hV, hbB, List.setIfInBounds_toArray, List.set_cons_succ, List.set_cons_zero]
          have hN : Free.Bel w9 w10 := FBW w10 hR
          have hoC := row_mono hoB hz_w9
          have hg_b3 : bb + 1 ≤ b3 := Nat.le_trans (FA w9 (Free.Bel.refl _)).2.2.2.2.2.2.2.2.2.2.2.2.1 hsB
          have HB_w10 := Lib.hid (HB_w9.out.trans ((hN).mono hz_w9))
          have hz_w10 : bb ≤ w10.heap.size := Nat.le_trans hz_w9 (hN).size
          have FN := fun (W : World) (hW : Free.Bel w10 W) => And.intro (keepsB hW (cell_of_heap (o := 0) hblB rfl)) (And.intro (keepsB hW (cell_of_heap (o := 1) hblB rfl)) (And.intro (Lib.hid (bel_row hoC hW)) (FA W (bt (hN) hW))))
          clear FA HB_w9 hz_w9 KR
          have FA := FN
          clear FN
          have KR := Free.Bel.refl w10
          clear hR hV hj hxx hF FBW hexB hblB hoB hoC hsB h4B huB hxy hbB hN
          clear HF3
          go_wp2_with fail
          have HH2 := Lib.hid (fun (W : World) (hW : Free.Bel w10 W) => hot_at H2 L2 (ds.drop a) _ _ W (FA W hW).2.2.2.2.2.2.2.2.2.2.2.2.2.1.out (RL.of_row rfl (by have := hLL.out; unfold maxLen; omega) ((FA W hW).2.2.2.2.2.1).out) (DL.tail (((FA W hW).2.2.2.2.2.2.2.2.2.2.1).out.dz (by unfold maxLen; omega) (fun d hd => day_max HW.out HALL.out hd)).dl hal HCAP.out) (by simp; omega) (by rw [HE2.out.1, HE2.out.2]; exact ha3.out) hs2 (by rw [HE2.out.2]; exact HHS2))
          have hF : ∀ W, Free.Bel w10.drew W → Free.Bel w10 W := fun W hW => bt (Bel.drewT (Free.Bel.refl _)) hW
          refine Free.wp_free (R := Free.Bel) (by kernel_rfl) (by kernel_rfl) Free.Bel.refl Free.Bel.trans ?_
          refine Free.Chain.ex ?_ [] [16] (by kernel_rfl) (by kernel_rfl) rfl Free.Bel.refl ?_ ?_
          rotate_left 2
          simp only [an1, an2]
          refine Free.Chain.ex ?_ [] [8] (by kernel_rfl) (by kernel_rfl) rfl Free.Bel.refl ?_ ?_
          rotate_left 2
          simp only [an1, an2]
          refine Free.Chain.ex ?_ [] [11] (by kernel_rfl) (by kernel_rfl) rfl Free.Bel.refl ?_ ?_
          rotate_left 2
          simp only [an1, an2]
          rotate_left
          iterate 3 (rotate_left; intro ev W hb hR hO hD; have hS := hF W hR; obtain ⟨hb1, hb2, hb3⟩ := hb; simp only [Free.AllDeps, Free.AllOuts, Free.At, al1, al2, al3, al4, al5, and_true] at hO hD; go_simp; rfl)
          refine Free.Chain.ex ?_ [(1, 128), (2, 129)] [] (by kernel_rfl) (by kernel_rfl) rfl Free.Bel.refl ?_ ?_
          rotate_left
          · (intro ev W hb hR hO hD; have hS := hF W hR; obtain ⟨hb1, hb2, hb3⟩ := hb; simp only [Free.AllDeps, Free.AllOuts, Free.At, al1, al2, al3, al4, al5, and_true] at hO hD; have hq9 : (Instr.slice 25 (.slice q6 ds.length c6) (some (.int .i64 (a : Int))) none none).run Tryd.prog W = _ := HSL2.out W; go_simp; rfl)
          simp only [an1, an2]
          refine Free.Chain.pr (HotV hs2 0) [(0, 127), (3, 130)] [] (by kernel_rfl) (by kernel_rfl) rfl (HotV.stable _ _) ?_ ?_
          · (intro ev W hb hR hO hD; have hS := hF W hR; obtain ⟨hb1, hb2, hb3⟩ := hb; simp only [Free.AllDeps, Free.AllOuts, Free.At, al1, al2, al3, al4, al5, and_true] at hO hD; go_simp; refine yields_enter ?_; (with_reducible refine (HH2.out W (bt (Bel.drewT (Free.Bel.refl _)) hR)).mono ?_); rintro e W2 ⟨⟨p9, c9, rfl, hp9⟩, hB2⟩; exact ⟨_, rfl, hB2, p9, c9, rfl, hp9⟩)
          simp only [an1, an2]
          refine Free.Chain.pr (HotV hs2 0) [(4, 131)] [] (by kernel_rfl) (by kernel_rfl) rfl (HotV.stable _ _) ?_ ?_
          · (intro ev W hb hR hO hD; have hS := hF W hR; obtain ⟨hb1, hb2, hb3⟩ := hb; simp only [Free.AllDeps, Free.AllOuts, Free.At, al1, al2, al3, al4, al5, and_true] at hO hD; obtain ⟨p9, c9, h9, hp9⟩ := hD; go_simp; exact ⟨Free.Bel.refl _, p9, c9, rfl, hp9⟩)
          simp only [an1, an2]
          refine Free.Chain.pr (HotW hs2) [(5, 126)] [] (by kernel_rfl) (by kernel_rfl) rfl (HotW.stable _) ?_ ?_
          · (intro ev W hb hR hO hD; have hS := hF W hR; obtain ⟨hb1, hb2, hb3⟩ := hb; simp only [Free.AllDeps, Free.AllOuts, Free.At, al1, al2, al3, al4, al5, and_true] at hO hD; obtain ⟨p9, c9, h9, hp9⟩ := hD; go_simp; exact ⟨Free.Bel.refl _, p9, c9, rfl, hp9⟩)
          simp only [an1, an2]
          refine Free.Chain.pr (fun v _ => v = .int .i64 0) [(5, 126)] [] (by kernel_rfl) (by kernel_rfl) rfl (fun _ _ _ _ h => h) ?_ ?_
          · (intro ev W hb hR hO hD; have hS := hF W hR; obtain ⟨hb1, hb2, hb3⟩ := hb; simp only [Free.AllDeps, Free.AllOuts, Free.At, al1, al2, al3, al4, al5, and_true] at hO hD; obtain ⟨p9, c9, h9, hp9⟩ := hD; go_simp; exact ⟨Free.Bel.refl _, rfl⟩)
          simp only [an1, an2]
          refine Free.Chain.pr (HotW hs2) [(6, 132), (4, 131), (0, 127), (1, 128), (2, 129), (3, 130), (4, 131), (5, 126), (6, 132)] [] (by kernel_rfl) (by kernel_rfl) rfl (HotW.stable _) ?_ ?_
          · (intro ev W hb hR hO hD; have hS := hF W hR; obtain ⟨hb1, hb2, hb3⟩ := hb; simp only [Free.AllDeps, Free.AllOuts, Free.At, al1, al2, al3, al4, al5, and_true] at hO hD; obtain ⟨p9, c9, h9, hp9⟩ := hD.1; go_simp; exact ⟨Free.Bel.refl _, p9, c9, rfl, hp9⟩)
          simp only [an1, an2]
          refine Free.Chain.ex ?_ [(7, 133), (8, 20), (0, 127), (1, 128), (2, 129), (3, 130), (4, 131), (5, 126), (6, 132), (7, 133), (8, 20)] [] (by kernel_rfl) (by kernel_rfl) rfl Free.Bel.refl ?_ ?_
          rotate_left 2
          simp only [an1, an2]
          rotate_left
          rotate_left
          · (intro ev W hb hR hO hD; have hS := hF W hR; obtain ⟨hb1, hb2, hb3⟩ := hb; simp only [Free.AllDeps, Free.AllOuts, Free.At, al1, al2, al3, al4, al5, and_true] at hO hD; go_simp; rfl)
          intro ys w11 hR hV
          simp only [Free.AllV, Free.At, List.length_cons, List.length_nil, Nat.reduceAdd, List.getElem?_cons_succ, List.getElem?_cons_zero, true_and, and_true] at hV
          simp only [Free.putsFrom, Act.put, Nat.zero_add, Nat.reduceAdd, hV, List.setIfInBounds_toArray, List.set_cons_succ, List.set_cons_zero]
          have hN := hF w11 hR
          clear hR hF
          have hv8 : HotW hs2 (ys 8) w11 := by simp only [and_assoc] at hV; exact hV.2.2.2.2.2.2.2.2.1
          obtain ⟨p8, c8, hy8, hpl8⟩ := hv8
          rw [hy8]
          have HB_w11 := Lib.hid (HB_w10.out.trans ((hN).mono hz_w10))
          have hz_w11 : bb ≤ w11.heap.size := Nat.le_trans hz_w10 (hN).size
          have FN := fun (W : World) (hW : Free.Bel w11 W) => And.intro (Lib.hid (hpl8.keeps hW)) (FA W (bt (hN) hW))
          clear FA HB_w10 hz_w10 KR
          have FA := FN
          clear FN
          have KR := Free.Bel.refl w11
          clear hN hV hy8 hpl8 HH2
          have HSAME := Lib.hid (fun (W : World) (hW : Free.Bel w11 W) => show Calls Tryd.prog 28 #[.agg #[.int .i64 H3, .slice qb3 (List.length (L3)) kb3], .agg #[.int .i64 H1, .slice qr6 (List.length (L1)) kr6]] W fun e w' => e = .returned (.bool true) ∧ Below W.heap.size W w' from by
            have r3 := RL.of_row rfl (by have := hLL.out; unfold maxLen; omega) ((FA W hW).2.2.2.1).out
            have r1 := RL.of_row rfl (by have := hLL.out; unfold maxLen; omega) ((FA W hW).2.2.2.2.2.2.2.2.2.1).out
            rw [show RL L3 = RL L1 by rw [HEQ.out.2.1]] at r3
            rw [HEQ.out.1]
            exact sameW_any H1 L1 _ _ W r3 r1)
          obtain rfl : E3 = E1 := HEQ.out.2.2
          go_wp2_with fail
          refine (HSAME.out w11 (Free.Bel.refl _)).mono ?_
          rintro e w12 ⟨rfl, hB⟩
          have HB_w12 := Lib.hid (HB_w11.out.trans ((hB).mono hz_w11))
          have hz_w12 : bb ≤ w12.heap.size := Nat.le_trans hz_w11 (hB).size
          have FN := fun (W : World) (hW : Free.Bel w12 W) => FA W (bt (hB) hW)
          clear FA HB_w11 hz_w11 KR
          have FA := FN
          clear FN
          have KR := Free.Bel.refl w12
          clear hB
          clear HSAME
          go_wp2_with fail
          go_loopw [156] (fun i wr => ∃ k : Nat, k ≤ hs2.length ∧ i = .int .i64 k ∧ Free.Bel w12 wr) (fun i _ => hs2.length - (intOf i).toNat)
          case atStart => exact ⟨0, Nat.zero_le _, rfl, Free.Bel.refl _⟩
          case round =>
            obtain ⟨k, hk, rfl, hB⟩ := hrel
            have HKB := Lib.hid hB
            have HB_wr := Lib.hid (HB_w12.out.trans ((hB).mono hz_w12))
            have hz_wr : bb ≤ wr.heap.size := Nat.le_trans hz_w12 (hB).size
            have FN := fun (W : World) (hW : Free.Bel wr W) => FA W (bt (hB) hW)
            clear FA HB_w12 hz_w12 KR
            have FA := FN
            clear FN
            have KR := Free.Bel.refl wr
            have HWR : Free.Bel wr wr := Free.Bel.refl _
            have HL_wr : Free.Bel w12 wr := hB
            clear hB
            by_cases hlt : k < hs2.length
            · have hx2 : hs2 ≠ [] := by intro e; simp [e] at hlt
              have hk1 : k < hs.length := by rw [← hsl.out]; exact hlt
              have hx1 : hs ≠ [] := by intro e; simp [e] at hk1
              obtain ⟨py, cy, hey, hmy, hcy⟩ := ((FA wr (Free.Bel.refl _)).1).out
              cases hey
              obtain ⟨b8, off8, rfl, hc8⟩ := hcy hx2
              obtain ⟨pz, cz, hez, hmz, hcz⟩ := ((FA wr (Free.Bel.refl _)).2.2.2.2.2.2.2.2.2.2.1).out
              cases hez
              obtain ⟨b7, off7, rfl, hc7⟩ := hcz hx1
              obtain ⟨e1, e2⟩ := hc8 k hlt
              obtain ⟨e3, e4⟩ := hc7 k hk1
              have hgk : hs[k]'hk1 = ((hs2[k]'hlt).1 + (a : Int), (hs2[k]'hlt).2) := by rw [List.getElem_of_eq HSH.out hk1, List.getElem_map]
              rw [hgk] at e3 e4
              have hbd := heat_days (ds.drop a) 0 (endR xs (ds.take a)) (hs2[k]'hlt) (by rw [HHS2.out]; exact List.getElem_mem hlt)
              simp only [List.length_drop] at hbd
              generalize hs2[k]'hlt = m at *
              obtain ⟨m1, m2⟩ := m
              simp only at e1 e2 e3 e4 hbd
              have hw9 : IntKind.i64.wrap m1 = m1 := IntWalk.i64_in _ (by omega)
              have hklt : (k : Int) < hs2.length := by omega
              have hklt1 : (k : Int) < hs.length := by omega
              have hkw : IntKind.i64.wrap ((k : Int) + 1) = (k : Int) + 1 := IntWalk.i64_in _ (by unfold maxLen at hmy; omega)
              have hkn9 : ¬ ((k : Int) < 0) := by omega
              clear hgk hx1 hx2 hcy hcz hmz hmy hc7 hc8 hbd
              have FN : ∀ W, Free.Bel wr W → Hid (PL hs2 (.slice (some ⟨b8, off8, none⟩) hs2.length c8) W) ∧ W.cell? ⟨b3, 0, none⟩ = some (.int .i64 (H3)) ∧ W.cell? ⟨b3, 1, none⟩ = some (.slice qb3 (List.length (L3)) kb3) ∧ Hid (W.ownsRow bb 47 3 (.slice qb3 (List.length (L3)) kb3) (List.length (L3)) (cellsR (L3))) ∧ W.cell? ⟨b2, 0, none⟩ = some (.int .i64 (H2)) ∧ W.cell? ⟨b2, 1, none⟩ = some (.slice qb2 (List.length (L2)) kb2) ∧ Hid (W.ownsRow bb 47 3 (.slice qb2 (List.length (L2)) kb2) (List.length (L2)) (cellsR (L2))) ∧ W.cell? ⟨g60, 0, none⟩ = some (.int .i64 (H1)) ∧ W.cell? ⟨g60, 1, none⟩ = some (.slice qr6 (List.length (L1)) kr6) ∧ Hid (W.ownsRow bb 47 3 (.slice qr6 (List.length (L1)) kr6) (List.length (L1)) (cellsR (L1))) ∧ Hid (PL hs (.slice (some ⟨b7, off7, none⟩) hs.length c7) W) ∧ Hid (DO s6 ds (.slice q6 ds.length c6) W) ∧ W.cell? ⟨bb, 0, none⟩ = some (.int .i64 h) ∧ W.cell? ⟨bb, 1, none⟩ = some (.slice p xs.length cp) ∧ Hid (TabR W) ∧ Hid (RL xs (.slice p xs.length cp) W) ∧ bb + 1 ≤ W.heap.size ∧ bb ≤ W.heap.size ∧ W.cell? ⟨b8, off8 + k * 2, none⟩ = some (.int .i64 m1) ∧ W.cell? ⟨b8, off8 + k * 2 + 1, none⟩ = some (.int .i64 m2) ∧ W.cell? ⟨b7, off7 + k * 2, none⟩ = some (.int .i64 (m1 + (a : Int))) ∧ W.cell? ⟨b7, off7 + k * 2 + 1, none⟩ = some (.int .i64 m2) := fun W hW => by
                obtain ⟨a0, a1, a2, a3, a4, a5, a6, a7, a8, a9, a10, a11, a12, a13, a14, a15, a16, a17⟩ := FA W hW
                exact ⟨a0, a1, a2, a3, a4, a5, a6, a7, a8, a9, a10, a11, a12, a13, a14, a15, a16, a17, keepsB hW e1, keepsB hW e2, keepsB hW e3, keepsB hW e4⟩
              clear FA
              have FA := FN
              clear FN
              clear e1 e2 e3 e4
              go_wp2_with fail
              have hF : ∀ W, Free.Bel wr.drew W → Free.Bel wr W := fun W hW => bt (Bel.drewT (Free.Bel.refl _)) hW
              refine Free.wp_free (R := Free.Bel) (by kernel_rfl) (by kernel_rfl) Free.Bel.refl Free.Bel.trans ?_
              refine Free.Chain.ex ?_ [] [20] (by kernel_rfl) (by kernel_rfl) rfl Free.Bel.refl ?_ ?_
              rotate_left 2
              simp only [an1, an2]
              refine Free.Chain.ex ?_ [] [22] (by kernel_rfl) (by kernel_rfl) rfl Free.Bel.refl ?_ ?_
              rotate_left 2
              simp only [an1, an2]
              refine Free.Chain.ex ?_ [(0, 159), (1, 160)] [] (by kernel_rfl) (by kernel_rfl) rfl Free.Bel.refl ?_ ?_
              rotate_left 2
              simp only [an1, an2]
              refine Free.Chain.ex ?_ [(2, 161)] [] (by kernel_rfl) (by kernel_rfl) rfl Free.Bel.refl ?_ ?_
              rotate_left 2
              simp only [an1, an2]
              refine Free.Chain.ex ?_ [] [12] (by kernel_rfl) (by kernel_rfl) rfl Free.Bel.refl ?_ ?_
              rotate_left 2
              simp only [an1, an2]
              refine Free.Chain.ex ?_ [] [22] (by kernel_rfl) (by kernel_rfl) rfl Free.Bel.refl ?_ ?_
              rotate_left 2
              simp only [an1, an2]
              refine Free.Chain.ex ?_ [(4, 163), (5, 164)] [] (by kernel_rfl) (by kernel_rfl) rfl Free.Bel.refl ?_ ?_
              rotate_left 2
              simp only [an1, an2]
              refine Free.Chain.ex ?_ [(6, 165)] [] (by kernel_rfl) (by kernel_rfl) rfl Free.Bel.refl ?_ ?_
              rotate_left 2
              simp only [an1, an2]
              refine Free.Chain.ex ?_ [(7, 166)] [] (by kernel_rfl) (by kernel_rfl) rfl Free.Bel.refl ?_ ?_
              rotate_left 2
              simp only [an1, an2]
              refine Free.Chain.ex ?_ [] [11] (by kernel_rfl) (by kernel_rfl) rfl Free.Bel.refl ?_ ?_
              rotate_left 2
              simp only [an1, an2]
              refine Free.Chain.ex ?_ [(8, 167), (9, 168)] [] (by kernel_rfl) (by kernel_rfl) rfl Free.Bel.refl ?_ ?_
              rotate_left 2
              simp only [an1, an2]
              refine Free.Chain.ex ?_ [] [12] (by kernel_rfl) (by kernel_rfl) rfl Free.Bel.refl ?_ ?_
              rotate_left 2
              simp only [an1, an2]
              refine Free.Chain.ex ?_ [] [22] (by kernel_rfl) (by kernel_rfl) rfl Free.Bel.refl ?_ ?_
              rotate_left 2
              simp only [an1, an2]
              refine Free.Chain.ex ?_ [(11, 170), (12, 171)] [] (by kernel_rfl) (by kernel_rfl) rfl Free.Bel.refl ?_ ?_
              rotate_left 2
              simp only [an1, an2]
              refine Free.Chain.ex ?_ [(13, 172)] [] (by kernel_rfl) (by kernel_rfl) rfl Free.Bel.refl ?_ ?_
              rotate_left 2
              simp only [an1, an2]
              refine Free.Chain.ex ?_ [(14, 173)] [] (by kernel_rfl) (by kernel_rfl) rfl Free.Bel.refl ?_ ?_
              rotate_left 2
              simp only [an1, an2]
              refine Free.Chain.ex ?_ [(10, 169), (15, 174)] [] (by kernel_rfl) (by kernel_rfl) rfl Free.Bel.refl ?_ ?_
              rotate_left 2
              simp only [an1, an2]
              refine Free.Chain.ex ?_ [(3, 162), (16, 175)] [] (by kernel_rfl) (by kernel_rfl) rfl Free.Bel.refl ?_ ?_
              rotate_left 2
              simp only [an1, an2]
              rotate_left
              iterate 18 (rotate_left; intro ev W hb hR hO hD; have hS := hF W hR; obtain ⟨hb1, hb2, hb3⟩ := hb; simp only [Free.AllDeps, Free.AllOuts, Free.At, al1, al2, al3, al4, al5, and_true] at hO hD; go_simp; rfl)
              intro ys w13 hR hV
              simp only [Free.AllV, Free.At, List.length_cons, List.length_nil, Nat.reduceAdd, List.getElem?_cons_succ, List.getElem?_cons_zero, true_and, and_true] at hV
              simp only [Free.putsFrom, Act.put, Nat.zero_add, Nat.reduceAdd, hV, List.setIfInBounds_toArray, List.set_cons_succ, List.set_cons_zero]
              have hN := hF w13 hR
              clear hR hF
              have HB_w13 := Lib.hid (HB_wr.out.trans ((hN).mono hz_wr))
              have hz_w13 : bb ≤ w13.heap.size := Nat.le_trans hz_wr (hN).size
              have HL_w13 : Free.Bel w12 w13 := bt HL_wr (hN)
              clear HL_wr
              have HWR : Free.Bel wr w13 := bt HWR (hN)
              have FN := fun (W : World) (hW : Free.Bel w13 W) => FA W (bt (hN) hW)
              clear FA HB_wr hz_wr KR
              have FA := FN
              clear FN
              have KR := Free.Bel.refl w13
              clear hN hV
              go_wp2_with fail
              go_roundw
              case rel => exact ⟨k + 1, by omega, by go_num, HL_w13⟩
              case measure => simp [intOf]; omega
            · obtain rfl : k = hs2.length := by omega
              clear HWR HL_wr
              go_wp2_with fail
              have HCO := Lib.hid (cool_any h xs ds _ _ wr (FA wr (Free.Bel.refl _)).2.2.2.2.2.2.2.2.2.2.2.2.2.2.2.1.out HNZ.out (((FA wr (Free.Bel.refl _)).2.2.2.2.2.2.2.2.2.2.2.1).out.dz (by unfold maxLen; omega) (fun d hd => day_max HW.out HALL.out hd)).dl HW.out)
              refine HCO.out.mono ?_
              rintro e w14 ⟨hcp, hB⟩
              clear HCO
              have HB_w14 := Lib.hid (HB_wr.out.trans ((hB).mono hz_wr))
              have hz_w14 : bb ≤ w14.heap.size := Nat.le_trans hz_wr (hB).size
              have FN := fun (W : World) (hW : Free.Bel w14 W) => FA W (bt (hB) hW)
              clear FA HB_wr hz_wr KR
              have FA := FN
              clear FN
              have KR := Free.Bel.refl w14
              clear hB
              rcases hcp with ⟨hc1, uz, rfl, hrz⟩ | ⟨hc1, hh, pz, nz, cz, rfl⟩
              · obtain rfl : E3 = 0 := HA1.out.1.symm.trans (aft_cool hask.out hc1).1
                have HE1 : Hid (H1 = h ∧ L1 = endR xs ds) := ⟨HA1.out.2.1.symm.trans (aft_cool hask.out hc1).2.1, HA1.out.2.2.symm.trans (aft_cool hask.out hc1).2.2⟩
                have HRZ := Lib.hid hrz
                obtain ⟨pz, cz, rfl, hj1, hj2⟩ := hrz
                clear hj1 hj2 hc1
                have FN : ∀ W, Free.Bel w14 W → Hid (PL hs2 (.slice p8 hs2.length c8) W) ∧ W.cell? ⟨b3, 0, none⟩ = some (.int .i64 (H3)) ∧ W.cell? ⟨b3, 1, none⟩ = some (.slice qb3 (List.length (L3)) kb3) ∧ Hid (W.ownsRow bb 47 3 (.slice qb3 (List.length (L3)) kb3) (List.length (L3)) (cellsR (L3))) ∧ W.cell? ⟨b2, 0, none⟩ = some (.int .i64 (H2)) ∧ W.cell? ⟨b2, 1, none⟩ = some (.slice qb2 (List.length (L2)) kb2) ∧ Hid (W.ownsRow bb 47 3 (.slice qb2 (List.length (L2)) kb2) (List.length (L2)) (cellsR (L2))) ∧ W.cell? ⟨g60, 0, none⟩ = some (.int .i64 (H1)) ∧ W.cell? ⟨g60, 1, none⟩ = some (.slice qr6 (List.length (L1)) kr6) ∧ Hid (W.ownsRow bb 47 3 (.slice qr6 (List.length (L1)) kr6) (List.length (L1)) (cellsR (L1))) ∧ Hid (PL hs (.slice p7 hs.length c7) W) ∧ Hid (DO s6 ds (.slice q6 ds.length c6) W) ∧ W.cell? ⟨bb, 0, none⟩ = some (.int .i64 h) ∧ W.cell? ⟨bb, 1, none⟩ = some (.slice p xs.length cp) ∧ Hid (TabR W) ∧ Hid (RL xs (.slice p xs.length cp) W) ∧ bb + 1 ≤ W.heap.size ∧ bb ≤ W.heap.size ∧ Hid (RL (endR xs ds) (.slice pz (endR xs ds).length cz) W) := fun W hW => by
                  obtain ⟨a0, a1, a2, a3, a4, a5, a6, a7, a8, a9, a10, a11, a12, a13, a14, a15, a16, a17⟩ := FA W hW
                  exact ⟨a0, a1, a2, a3, a4, a5, a6, a7, a8, a9, a10, a11, a12, a13, a14, a15, a16, a17, Lib.hid (HRZ.out.keeps hW)⟩
                clear FA
                have FA := FN
                clear FN
                have KA0 : Free.Bel w14 (w14.alloc (.cells #[.int .i64 h, .slice pz (endR xs ds).length cz] 24)) := Bel.allocT (Free.Bel.refl _) _
                go_wp2_with fail
                clear KA0
                have hN : Free.Bel w14 (w14.alloc (.cells #[.int .i64 h, .slice pz (endR xs ds).length cz] 24)) := (Bel.allocT (Free.Bel.refl w14) _)
                have n_g140_0 : (w14.alloc (.cells #[.int .i64 h, .slice pz (endR xs ds).length cz] 24)).cell? ⟨w14.heap.size, 0, none⟩ = some (.int .i64 h) := by simp [go_sem]
                have n_g140_1 : (w14.alloc (.cells #[.int .i64 h, .slice pz (endR xs ds).length cz] 24)).cell? ⟨w14.heap.size, 1, none⟩ = some (.slice pz (endR xs ds).length cz) := by simp [go_sem]
                generalize (w14.alloc (.cells #[.int .i64 h, .slice pz (endR xs ds).length cz] 24)) = w15 at *
                obtain ⟨g140, hgz⟩ : ∃ x, x = w14.heap.size := ⟨_, rfl⟩
                rw [← hgz] at n_g140_0 n_g140_1 ⊢
                clear hgz
                have HB_w15 := Lib.hid (HB_w14.out.trans ((hN).mono hz_w14))
                have hz_w15 : bb ≤ w15.heap.size := Nat.le_trans hz_w14 (hN).size
                have FN := fun (W : World) (hW : Free.Bel w15 W) => And.intro (keepsB hW n_g140_0) (And.intro (keepsB hW n_g140_1) (FA W (bt (hN) hW)))
                clear FA HB_w14 hz_w14 KR
                have FA := FN
                clear FN
                have KR := Free.Bel.refl w15
                clear hN n_g140_0 n_g140_1
                have HSAME := Lib.hid (fun (W : World) (hW : Free.Bel w15 W) => show Calls Tryd.prog 28 #[.agg #[.int .i64 h, .slice pz (endR xs ds).length cz], .agg #[.int .i64 H1, .slice qr6 (List.length (L1)) kr6]] W fun e w' => e = .returned (.bool true) ∧ Below W.heap.size W w' from by
                  have r1 := RL.of_row rfl (by have := hLL.out; unfold maxLen; omega) ((FA W hW).2.2.2.2.2.2.2.2.2.2.2.1).out
                  rw [show RL L1 = RL (endR xs ds) by rw [HE1.out.2]] at r1
                  rw [HE1.out.1]
                  exact sameW_any h (endR xs ds) _ _ W ((FA W hW).2.2.2.2.2.2.2.2.2.2.2.2.2.2.2.2.2.2.2.2).out r1)
                refine (HSAME.out w15 (Free.Bel.refl _)).mono ?_
                rintro e w16 ⟨rfl, hB⟩
                have HB_w16 := Lib.hid (HB_w15.out.trans ((hB).mono hz_w15))
                have hz_w16 : bb ≤ w16.heap.size := Nat.le_trans hz_w15 (hB).size
                have FN := fun (W : World) (hW : Free.Bel w16 W) => FA W (bt (hB) hW)
                clear FA HB_w15 hz_w15 KR
                have FA := FN
                clear FN
                have KR := Free.Bel.refl w16
                clear hB
                go_wp2_with fail
                go_ret
                have hbb := HBB.out
                subst hbb
                exact ⟨rfl, HB_w16.out⟩
              · obtain rfl : E3 = 73 := HA1.out.1.symm.trans (aft_warm hask.out hc1).1
                clear hc1
                have KA0 : Free.Bel w14 (w14.alloc (.cells #[.int .i64 hh, .slice pz nz cz] 24)) := Bel.allocT (Free.Bel.refl _) _
                go_wp2_with fail
                clear KA0
                have hN : Free.Bel w14 (w14.alloc (.cells #[.int .i64 hh, .slice pz nz cz] 24)) := (Bel.allocT (Free.Bel.refl w14) _)
                have n_g160_0 : (w14.alloc (.cells #[.int .i64 hh, .slice pz nz cz] 24)).cell? ⟨w14.heap.size, 0, none⟩ = some (.int .i64 hh) := by simp [go_sem]
                have n_g160_1 : (w14.alloc (.cells #[.int .i64 hh, .slice pz nz cz] 24)).cell? ⟨w14.heap.size, 1, none⟩ = some (.slice pz nz cz) := by simp [go_sem]
                generalize (w14.alloc (.cells #[.int .i64 hh, .slice pz nz cz] 24)) = w17 at *
                obtain ⟨g160, hgz⟩ : ∃ x, x = w14.heap.size := ⟨_, rfl⟩
                rw [← hgz] at n_g160_0 n_g160_1 ⊢
                clear hgz
                have HB_w17 := Lib.hid (HB_w14.out.trans ((hN).mono hz_w14))
                have hz_w17 : bb ≤ w17.heap.size := Nat.le_trans hz_w14 (hN).size
                have FN := fun (W : World) (hW : Free.Bel w17 W) => And.intro (keepsB hW n_g160_0) (And.intro (keepsB hW n_g160_1) (FA W (bt (hN) hW)))
                clear FA HB_w14 hz_w14 KR
                have FA := FN
                clear FN
                have KR := Free.Bel.refl w17
                clear hN n_g160_0 n_g160_1
                go_ret
                have hbb := HBB.out
                subst hbb
                exact ⟨rfl, HB_w17.out⟩
end Go.Proofs.YtknpglgpkkhhiaaDoor

/- For every input the law RoundParts returns true, and its arguments read behind the call as they read before; what a watch is asked lies in the table as the program's text lays it (tied). Condition: that table. -/
namespace Go.Proofs.YtknpglgpkkhhiaaDoor.lawRoundParts
open Go Go.ChangeShapes Go.WideShapes Go.ChangeAt Go.RowKit
set_option linter.unusedVariables false
set_option linter.unusedSimpArgs false

set_option maxRecDepth 100000 in
theorem contract (H : Type) (enc : TypeId × Value → H) (W : World) (base : Nat) (args : Array Value) (ds gs : List (DataW H)) (before : List MemPlace)
    (hval : ∀ (j : Nat) t v, Tryd.f12.params[j]? = some t → args[j]? = some v → Value.okWide Tryd.prog W .any base t v)
    (hW : DataW.Whole enc Tryd.prog Tryd.f12.params.toList Rows.roundPartsSpec.vars false W args.toList ds gs before) (hL : laidMetH Tryd.prog Rows.roundPartsRow.laid W) :
    Calls Tryd.prog 12 args W fun e W' => ∃ v, e = .returned v ∧ Rows.roundPartsSpec.post enc Tryd.prog Tryd.f12 false true false false W args v W' := by
  have hW' := hW
  obtain ⟨p, q, hA0, hV, rfl, hfz, hnd⟩ := hW
  have hA : DataW.TrodAll enc Tryd.prog W 0 (fun _ => true) true Tryd.f12.params.toList args.toList ds p := hA0
  have hAk := hA
  rw [Tryd.params12] at hA hval
  obtain ⟨v0, vs0, d0, ds0, p0, q0, hargs, rfl, rfl, h0, r0⟩ := trodAll_cons hA
  obtain ⟨v1, vs1, d1, ds1, p1, q1, rfl, rfl, rfl, h1, r1⟩ := trodAll_cons r0
  obtain ⟨v2, vs2, d2, ds2, p2, q2, rfl, rfl, rfl, h2, r2⟩ := trodAll_cons r1
  obtain ⟨rfl, rfl, rfl⟩ := trodAll_nil r2
  obtain rfl : args = #[v0, v1, v2] := by cases args; simp_all
  obtain ⟨rfl, rfl⟩ := trodVars_none hV
  have hlt : ∀ x ∈ p0 ++ (p1 ++ (p2 ++ ([]))), x.block < W.heap.size := fun x hx => by
    have := hW'.lt x (by simpa using hx)
    simpa using this
  obtain ⟨a0, b0, y0, z0, n0, rfl, _, _, g0, k0⟩ := Joins.open_agg2 Tryd.underlying24 (by kernel_rfl) (by kernel_rfl) (hval 0 24 _ rfl rfl) h0
  obtain ⟨h, ea0, _, _⟩ := DataW.trod_int Tryd.underlying3 g0
  simp at ea0
  subst ea0
  obtain ⟨xs, pp0, cap0, eb0, hrl0, hnz0⟩ := ricks_open Tryd.underlying22 Tryd.underlying47 (by kernel_rfl) rfl rfl rfl (by kernel_rfl) (by kernel_rfl) (by kernel_rfl) Tryd.underlying3 Tryd.underlying3 Tryd.underlying3 k0
  obtain ⟨a1, len1, cap1, rfl⟩ := okWide_slice Tryd.underlying98 (hval 1 98 _ rfl rfl)
  obtain ⟨fuel1, hf1⟩ := h1
  obtain ⟨bs, hbl1⟩ := bytes_open Tryd.underlying98 Tryd.underlying5 (by kernel_rfl) (by simpa [Value.cells] using hf1)
  obtain ⟨q, rfl, _, hwf2⟩ := open_int Tryd.underlying5 (hval 2 5 _ rfl rfl) h2
  refine (partsL_walk h xs bs q _ _ W (Tab.of_laid hL) hrl0 hnz0 hbl1 (u8_wf hwf2.2).1 (u8_wf hwf2.2).2).mono fun e W' ⟨he, hg⟩ => ?_
  subst he
  refine ⟨_, rfl, _, _, _, [], p0 ++ (p1 ++ (p2 ++ ([]))), [], hW', ?_, ?_, ?_, hg.frame _, fun h => by cases h⟩
  · exact trodAll_cons_mk (shut_bool Tryd.underlying4 true) trodAll_mk0
  · exact Law.args_below Tab.laidOut (by kernel_rfl) hg hAk hlt
  · rfl

set_option maxRecDepth 100000 in
theorem lifted (os : Os) (started : os.Started) (H : Type) (enc : TypeId × Value → H) :
    ReturnsInHanded {} Tryd.checked os 12 .any (fun w args => (Rows.roundPartsSpec.pre enc Tryd.prog Tryd.f12 [] false w args ∧ laidMetH Tryd.prog Rows.roundPartsRow.laid w) ∧ sizedMet enc Tryd.prog Tryd.f12 (OpenSpec.ofChange Rows.roundPartsSpec) false w args) (Rows.roundPartsSpec.post enc Tryd.prog Tryd.f12 false true false false) := by
  refine returnsInHanded_of_change_and (C := Tryd.checked) (X := fun w _ => laidMetH Tryd.prog Rows.roundPartsRow.laid w) (fun _ _ _ hh h => h.of_heap hh) Tab.own started (by kernel_rfl) Tryd.func12
    (ChangeSpec.witness_shaped (enc := enc) (C := Tryd.checked) (os := os) (X := fun w _ => laidMetH Tryd.prog Rows.roundPartsRow.laid w) false (World.doorLaid Tryd.prog 17 os) #[.agg #[.int .i64 0, .slice none 0 0], .slice none 0 0, .int .u8 0] 8 rfl (World.shaped_of_RefB (by kernel_rfl) (by kernel_rfl)) (by kernel_rfl) (by kernel_rfl) (by kernel_rfl) (Tab.door_met os _)) ?_
  intro W base args ds gs before hval hW _ _ hL _
  exact contract H enc W base args ds gs before hval hW hL

theorem said : Rows.RoundPartsSaid :=
  OpenClaim.holds_of_wide 12 Tryd.f12 rfl rfl rfl rfl rfl rfl rfl ⟨rfl, rfl, rfl, rfl, rfl⟩ rfl rfl rfl rfl rfl (by kernel_rfl) Tryd.func12 (by kernel_rfl)
    (of_decide_eq_true (by kernel_rfl)) (by unfold Func.isWrapper; first | (rw [if_pos (by decide +kernel)]; kernel_rfl) | (rw [if_neg (by decide +kernel)]; exact ⟨rfl, rfl⟩))
    (fun os started H enc _ => lifted os started H enc)

theorem plain (f : FuncId) (fn : Func) (hf : Tryd.pinned.checked.prog.funcNamed "oilcake/oilcakelaw07.RoundParts" = some f) (hfn : Tryd.pinned.checked.prog.funcs[f]? = some fn) :
    false = Tryd.pinned.checked.prog.looks [] ∧ ∀ (j : Nat) t, fn.params[j]? = some t → Tryd.pinned.checked.prog.wantsStandIn t = false := by
  obtain rfl : f = 12 := Option.some.inj ((show Tryd.prog.funcNamed "oilcake/oilcakelaw07.RoundParts" = some 12 by kernel_rfl).symm.trans hf) |>.symm
  obtain rfl : fn = Tryd.f12 := (Option.some.inj (Tryd.func12.symm.trans hfn)).symm
  refine ⟨by kernel_rfl, fun j t ht => ?_⟩
  rw [Tryd.params12] at ht
  have hm := Array.mem_of_getElem? ht
  have hall : (Tryd.f12.params.toList.all fun u => !Tryd.prog.wantsStandIn u) = true := by kernel_rfl
  rw [Tryd.params12] at hall
  exact (show Tryd.prog.wantsStandIn t = false by simpa using List.all_eq_true.1 hall t (by simpa using hm))

theorem card : Rows.RoundPartsCardSaid :=
  Claim7.holds_tied_plain_at .later [] _ _ _ _ said (fun _ h => by cases h) (by kernel_rfl) (fun _ h => by cases h) roundParts_row_tie rfl ⟨rfl, rfl⟩ (by kernel_rfl) rfl plain (by kernel_rfl)
#print axioms card
end Go.Proofs.YtknpglgpkkhhiaaDoor.lawRoundParts

