/- For every input the law RoundRepeats returns true, and its arguments read behind the call as they read before; what a watch is asked lies in the table as the program's text lays it (tied). Condition: that table. -/
/- Plain law for chapter 07's last laws: turnings by numbers, days in two parts, days that repeat, the longest days, the plan. -/
import Derived.Test.YtknpglgpkkhhiaaDoorB8
import Derived.Test.YtknpglgpkkhhiaaDoorProg
import Derived.ChangeShapes
import Derived.Deep.DeepCutAuto
namespace Go.Proofs.YtknpglgpkkhhiaaDoor
set_option linter.unusedSimpArgs false
set_option linter.unusedVariables false

/-! ### Turnings by a number -/
/-- A part of the ricks ahead of the one with index k, not more than the hands. -/
def TurnK (h : Int) (xs : List Rk) (k : Nat) (l : List Int) : Prop := (l.length : Int) ≤ h ∧ l.Pairwise (· < ·) ∧ ∀ a ∈ l, ∃ i, i < k ∧ i < xs.length ∧ idAt xs i = a
theorem TurnK.zero {h : Int} {xs : List Rk} (h0 : 0 ≤ h) : TurnK h xs 0 [] := ⟨by simpa using h0, .nil, fun a ha => by cases ha⟩
theorem TurnK.skip {h : Int} {xs : List Rk} {k : Nat} {l : List Int} (H : TurnK h xs k l) : TurnK h xs (k + 1) l :=
  ⟨H.1, H.2.1, fun a ha => let ⟨i, h1, h2, h3⟩ := H.2.2 a ha; ⟨i, by omega, h2, h3⟩⟩
theorem TurnK.add {h : Int} {xs : List Rk} {k : Nat} {l : List Int} (hw : watchB h xs = true) (H : TurnK h xs k l) (hk : k < xs.length) (hl : (l.length : Int) < h) : TurnK h xs (k + 1) (l ++ [xs[k].1]) := by
  obtain ⟨_, _, h3⟩ := watchB_iff.1 hw
  have e : idAt xs k = xs[k].1 := by simp [idAt, hk]
  refine ⟨by simp; omega, ?_, fun a ha => ?_⟩
  · rw [List.pairwise_append]
    refine ⟨H.2.1, List.pairwise_singleton _ _, fun a ha b hb => ?_⟩
    obtain ⟨i, h1, h2, rfl⟩ := H.2.2 a ha
    obtain rfl : b = xs[k].1 := by simpa using hb
    rw [← e]
    exact (idAt_mono h3 i k h2 hk).2.2 h1
  · rcases List.mem_append.1 ha with ha | ha
    · obtain ⟨i, h1, h2, h4⟩ := H.2.2 a ha
      exact ⟨i, by omega, h2, h4⟩
    · obtain rfl : a = xs[k].1 := by simpa using ha
      exact ⟨k, by omega, hk, e⟩
theorem TurnK.turn {h : Int} {xs : List Rk} {k : Nat} {l : List Int} (hw : watchB h xs = true) (H : TurnK h xs k l) : turnB h xs l = true := by
  obtain ⟨_, _, h3⟩ := watchB_iff.1 hw
  unfold turnB
  rw [Bool.and_eq_true, decide_eq_true_eq]
  refine ⟨H.1, turnF_of_mem H.2.1 fun a ha => ?_⟩
  obtain ⟨i, h1, h2, rfl⟩ := H.2.2 a ha
  exact ⟨idAt_pos h3 h2, hasR_idAt.2 ⟨i, h2, rfl⟩⟩
theorem turnB_day (h : Int) (xs : List Rk) (d : List Int) : turnB h (dayR d xs) = turnB h xs := by
  funext q; unfold turnB; rw [turnF_ids (dayR_ids d xs)]
theorem turnB_end (h : Int) (xs : List Rk) (ds : List (List Int)) : turnB h (endR xs ds) = turnB h xs := by
  funext q; unfold turnB; rw [turnF_ids (endR_ids xs ds)]
theorem turnB_ids {h : Int} {xs ys : List Rk} (e : ys.map (·.1) = xs.map (·.1)) : turnB h ys = turnB h xs := by
  funext q; unfold turnB; rw [turnF_ids e]

/-! ### Whether no rick becomes hot -/
def coolD (xs : List Rk) (ds : List (List Int)) : Bool := (heatR 0 xs ds).isEmpty
theorem coolD_iff {xs : List Rk} {ds : List (List Int)} : coolD xs ds = true ↔ ∀ x ∈ xs, coolW x ds = true := heat_empty xs ds
theorem coolD_cons {xs : List Rk} {d : List Int} {r : List (List Int)} : coolD xs (d :: r) = true ↔ coolB (dayR d xs) = true ∧ coolD (dayR d xs) r = true := by
  rw [coolD_iff, coolD_iff, cool_mem]
  constructor
  · intro H
    refine ⟨fun x hx => ?_, fun z hz => ?_⟩
    · have := H x hx
      simp only [coolW, Bool.and_eq_true, bne_iff_ne] at this
      exact this.1
    · obtain ⟨x, hx, rfl⟩ := List.mem_map.1 hz
      have := H x hx
      simp only [coolW, Bool.and_eq_true, bne_iff_ne] at this
      exact this.2
  · rintro ⟨h1, h2⟩ x hx
    simp only [coolW, Bool.and_eq_true, bne_iff_ne]
    exact ⟨h1 x hx, h2 _ (List.mem_map.2 ⟨x, hx, rfl⟩)⟩
theorem coolD_append {xs : List Rk} : ∀ {a b : List (List Int)}, coolD xs (a ++ b) = true ↔ coolD xs a = true ∧ coolD (endR xs a) b = true := by
  intro a
  induction a generalizing xs with
  | nil => intro b; simp [coolD, heatR, endR]
  | cons d r ih => intro b; rw [List.cons_append, coolD_cons, coolD_cons, ih]; simp only [endR, and_assoc]
theorem coolD_step {xs : List Rk} {ds : List (List Int)} {k : Nat} (hk : k < ds.length) : coolD xs (ds.take (k + 1)) = true ↔ coolD xs (ds.take k) = true ∧ coolB (dayR ds[k] (endR xs (ds.take k))) = true := by
  rw [take_step ds k hk, coolD_append, coolD_cons]
  simp [coolD, heatR]
theorem coolD_nil (xs : List Rk) : coolD xs [] = true := rfl
theorem coolD_part {xs : List Rk} {ds : List (List Int)} {k : Nat} (h : coolD xs ds = true) : coolD xs (ds.take k) = true := by
  have := (coolD_append (xs := xs) (a := ds.take k) (b := ds.drop k)).1 (by rw [List.take_append_drop]; exact h)
  exact this.1
theorem watch_cool {h : Int} {xs : List Rk} {ds : List (List Int)} (hw : watchB h xs = true) (hc : coolD xs ds = true) : watchB h (endR xs ds) = true := watchB_end hw (coolD_iff.1 hc)
theorem good_cool {h : Int} {xs : List Rk} {ds : List (List Int)} (hw : watchB h xs = true) (hv : ds.all (turnB h xs) = true) (hc : coolD xs ds = true) : goodN h ds.length xs = true :=
  good_play ds xs 0 hw hv (coolD_iff.1 hc) rfl
theorem aft_cool {h : Int} {xs : List Rk} {ds : List (List Int)} (ha : askE h xs ds = 0) (hc : coolD xs ds = true) : aftE h xs ds = 0 ∧ aftH h xs ds = h ∧ aftL h xs ds = endR xs ds := by
  have h1 : aftE h xs ds = 0 := by unfold aftE; rw [if_pos ha, if_pos (show (heatR 0 xs ds).isEmpty = true from hc)]
  exact ⟨h1, by rw [aftH, if_pos h1], by rw [aftL, if_pos h1]⟩
theorem aft_warm {h : Int} {xs : List Rk} {ds : List (List Int)} (ha : askE h xs ds = 0) (hc : coolD xs ds = false) : aftE h xs ds = 73 ∧ aftH h xs ds = 0 ∧ aftL h xs ds = [] := by
  have h1 : aftE h xs ds = 73 := by unfold aftE; rw [if_pos ha, if_neg (by unfold coolD at hc; rw [hc]; simp)]
  exact ⟨h1, by rw [aftH, h1]; rfl, by rw [aftL, h1]; rfl⟩
theorem hotOut_ask {h : Int} {xs : List Rk} {ds : List (List Int)} (ha : askE h xs ds = 0) : hotOut h xs ds = heatR 0 xs ds := if_pos ha
theorem ask_valid {h : Int} {xs : List Rk} {ds : List (List Int)} (hw : watchB h xs = true) (hl : ds.length ≤ 60) (hv : ds.all (turnB h xs) = true) : askE h xs ds = 0 := askE_zero.2 ⟨hw, by simp [validB, hl]; simpa using hv⟩

/-! ### Days in two parts -/
theorem heat_shift (m : Int) : ∀ (ds : List (List Int)) (n : Int) (xs : List Rk), heatR (n + m) xs ds = (heatR n xs ds).map fun p => (p.1 + m, p.2)
  | [], n, xs => rfl
  | d :: r, n, xs => by
    have ih := heat_shift m r (n + 1) (dayR d xs)
    simp only [heatR, List.map_append]
    rw [show n + m + 1 = n + 1 + m by omega, ih]
    congr 1
    simp [hotR, Function.comp_def]
theorem heat_days : ∀ (ds : List (List Int)) (n : Int) (xs : List Rk) (p : Int × Int), p ∈ heatR n xs ds → n < p.1 ∧ p.1 ≤ n + ds.length
  | [], n, xs, p, hp => by cases hp
  | d :: r, n, xs, p, hp => by
    simp only [heatR, List.mem_append] at hp
    simp only [List.length_cons, Int.natCast_add]
    rcases hp with hp | hp
    · simp only [hotR, List.mem_map] at hp
      obtain ⟨x, _, rfl⟩ := hp
      simp only
      omega
    · have := heat_days r (n + 1) (dayR d xs) p hp
      omega
/-- The first part is cool: the heats are the second part's, later. -/
theorem heat_second {xs : List Rk} {a b : List (List Int)} (ha : coolD xs a = true) : heatR 0 xs (a ++ b) = (heatR 0 (endR xs a) b).map fun p => (p.1 + (a.length : Int), p.2) := by
  rw [heatR_append, ← heat_shift]
  unfold coolD at ha
  rw [List.isEmpty_iff.1 ha, List.nil_append]
/-- The first part is not cool: the first heat is there. -/
theorem heat_early {xs : List Rk} {a b : List (List Int)} (ha : coolD xs a = false) : ∃ p r, heatR 0 xs (a ++ b) = p :: r ∧ p.1 ≤ (a.length : Int) := by
  rw [heatR_append]
  cases e : heatR 0 xs a with
  | nil => unfold coolD at ha; rw [e] at ha; cases ha
  | cons p r =>
    refine ⟨p, _, by rw [List.cons_append], ?_⟩
    have := (heat_days a 0 xs p (by rw [e]; simp)).2
    omega

/-! ### Days that repeat -/
/-- The state behind k rounds. -/
def roundR (xs : List Rk) (ds : List (List Int)) : Nat → List Rk
  | 0 => xs
  | k + 1 => endR (roundR xs ds k) ds
theorem roundR_endR (xs : List Rk) (ds : List (List Int)) : ∀ k, roundR (endR xs ds) ds k = roundR xs ds (k + 1)
  | 0 => rfl
  | k + 1 => by rw [roundR, roundR_endR xs ds k]; rfl
theorem roundR_ids (xs : List Rk) (ds : List (List Int)) : ∀ k, (roundR xs ds k).map (·.1) = xs.map (·.1)
  | 0 => rfl
  | k + 1 => (endR_ids _ ds).trans (roundR_ids xs ds k)
theorem repN_round (ds : List (List Int)) : ∀ (n : Nat) (xs : List Rk), repN n xs ds = true ↔ ∀ k, k < n → coolD (roundR xs ds k) ds = true
  | 0, xs => by simp [repN]
  | n + 1, xs => by
    simp only [repN, Bool.and_eq_true]
    rw [repN_round ds n (endR xs ds)]
    constructor
    · rintro ⟨h1, h2⟩ k hk
      match k with
      | 0 => exact h1
      | j + 1 => rw [← roundR_endR]; exact h2 j (by omega)
    · intro h1
      exact ⟨h1 0 (by omega), fun k hk => by rw [roundR_endR]; exact h1 (k + 1) (by omega)⟩
theorem watch_round {h : Int} {xs : List Rk} {ds : List (List Int)} (hw : watchB h xs = true) : ∀ k, (∀ j, j < k → coolD (roundR xs ds j) ds = true) → watchB h (roundR xs ds k) = true
  | 0, _ => hw
  | k + 1, hc => watch_cool (watch_round hw k fun j hj => hc j (by omega)) (hc k (by omega))
theorem rep_ever {h : Int} {xs : List Rk} {ds : List (List Int)} (hw : watchB h xs = true) (hd : ds ≠ []) (hv : ds.all (turnB h xs) = true) (hr : repN 7 xs ds = true) : everB h xs = true :=
  ever_repeats hd hw hv (by rw [repP_eq (watchB_ok hw) hd]; exact hr)

/-! ### The longest days -/
theorem last_cool {h : Int} : ∀ (n : Nat) (xs : List Rk), watchB h xs = true → goodN h n xs = true → (lastL h n xs).all (turnB h xs) = true ∧ coolD xs (lastL h n xs) = true
  | 0, xs, _, _ => ⟨rfl, rfl⟩
  | n + 1, xs, hw, hg => by
    obtain ⟨d, hf, hd, hc, hg2⟩ := good_step hg
    have e : (firstD h (goodN h n) xs).getD [] = d := by rw [hf]; rfl
    have ih := last_cool n (dayR d xs) (watch_day hw hc) hg2
    rw [turnB_day] at ih
    rw [lastL, e]
    exact ⟨by simp only [List.all_cons, Bool.and_eq_true]; exact ⟨(mem_daysL hw).1 hd, ih.1⟩, coolD_cons.2 ⟨hc, ih.2⟩⟩
theorem last_longest {h : Int} {n : Nat} {xs : List Rk} (hw : watchB h xs = true) (hn : goodN h (n + 1) xs = false) {ds : List (List Int)} (hl : ds.length = n + 1) (hv : ds.all (turnB h xs) = true) : coolD xs ds = false := by
  cases hc : coolD xs ds with
  | false => rfl
  | true =>
    have := good_cool hw hv hc
    rw [hl, hn] at this
    cases this
theorem last_first {h : Int} : ∀ (n : Nat) (xs : List Rk) (os : List (List Int)) (i : Nat), watchB h xs = true → goodN h n xs = true → os.length = n → os.all (turnB h xs) = true → coolD xs os = true → (hi : i < n) → (∀ j a b, j < i → (lastL h n xs)[j]? = some a → os[j]? = some b → a = b) → ∀ a b, (lastL h n xs)[i]? = some a → os[i]? = some b → a ≠ b → beforeL a b = true
  | 0, xs, os, i, _, _, _, _, _, hi, _, _, _, _, _, _ => by omega
  | n + 1, xs, os, i, hw, hg, hl, hv, hc, hi, he, a, b, ha, hb, hab => by
    obtain ⟨d, hf, hd, hcd, hg2⟩ := good_step hg
    have e : (firstD h (goodN h n) xs).getD [] = d := by rw [hf]; rfl
    rw [lastL, e] at ha he
    match os, hl with
    | o :: r, hl =>
      simp only [List.length_cons, Nat.add_right_cancel_iff] at hl
      simp only [List.all_cons, Bool.and_eq_true] at hv
      obtain ⟨hc1, hc2⟩ := coolD_cons.1 hc
      match i with
      | 0 =>
        simp only [List.getElem?_cons_zero, Option.some.injEq] at ha hb
        subst ha hb
        have hgo : goodN h n (dayR o xs) = true := by
          have := good_cool (watch_day hw hc1) (by rw [turnB_day]; exact hv.2) hc2
          rwa [hl] at this
        rcases find_first (daysL_sorted hw) hf ((mem_daysL hw).2 hv.1) (by rw [hc1, hgo]; rfl) with h1 | h1
        · exact absurd h1.symm hab
        · exact h1
      | j + 1 =>
        obtain rfl : d = o := he 0 d o (by omega) rfl rfl
        simp only [List.getElem?_cons_succ] at ha hb
        exact last_first n (dayR d xs) r j (watch_day hw hcd) hg2 hl (by rw [turnB_day]; exact hv.2) hc2 (by omega) (fun k a b hk ha hb => he (k + 1) a b (by omega) (by simpa using ha) (by simpa using hb)) a b ha hb hab

/-! ### The plan -/
theorem plan_state {h : Int} {xs : List Rk} (hw : watchB h xs = true) (he : everB h xs = true) : ∀ n, watchB h (planS h xs n) = true ∧ everB h (planS h xs n) = true ∧ (planS h xs n).map (·.1) = xs.map (·.1)
  | 0 => ⟨hw, he, rfl⟩
  | n + 1 => by
    obtain ⟨h1, h2, h3⟩ := plan_state hw he n
    obtain ⟨_, h5, h6, h7⟩ := ever_step h2
    exact ⟨watch_day h1 h6, h7, (dayR_ids _ _).trans h3⟩
theorem plan_turn {h : Int} {xs : List Rk} (hw : watchB h xs = true) (he : everB h xs = true) (k : Nat) : turnB h xs (stepE h (planS h xs k)) = true := by
  obtain ⟨h1, h2, h3⟩ := plan_state hw he k
  obtain ⟨_, h5, _, _⟩ := ever_step h2
  rw [← turnB_ids h3]
  exact (mem_daysL h1).1 h5
theorem plan_valid {h : Int} {xs : List Rk} (hw : watchB h xs = true) (he : everB h xs = true) (n : Nat) : (planL h xs n).all (turnB h xs) = true := by
  rw [List.all_eq_true]
  intro d hd
  simp only [planL, List.mem_map, List.mem_range] at hd
  obtain ⟨k, _, rfl⟩ := hd
  exact plan_turn hw he k
theorem plan_cool {h : Int} {xs : List Rk} (hw : watchB h xs = true) (he : everB h xs = true) : ∀ n, coolD xs (planL h xs n) = true
  | 0 => rfl
  | n + 1 => by
    rw [planL_succ, coolD_append, planS_end]
    refine ⟨plan_cool hw he n, coolD_cons.2 ⟨?_, rfl⟩⟩
    obtain ⟨h1, h2, h3⟩ := plan_state hw he n
    exact (ever_step h2).2.2.1
theorem plan_days {h : Int} {xs : List Rk} (i j : Nat) (hij : i ≤ j) : planL h xs i ++ planL h (planS h xs i) (j - i) = planL h xs j := by
  rw [← planL_add]; congr 1; omega
/-- What is before the plan's turnings leads nowhere. -/
theorem before_plan {h : Int} {xs : List Rk} (hw : watchB h xs = true) (he : everB h xs = true) {x : List Int} (hx : turnB h xs x = true) (hb : beforeL x (stepE h xs) = true) (hc : coolB (dayR x xs) = true) : everB h (dayR x xs) = false :=
  before_first hw (ever_step he).1 hx hb hc
theorem plan_bound {h : Int} {xs : List Rk} (hw : watchB h xs = true) (he : everB h xs = true) {j : Nat} (hd : ∀ a b, a < b → b < j → planS h xs a ≠ planS h xs b) : (j : Int) ≤ prodE xs := by
  have hok := watchB_ok hw
  have hst0 : StOf xs xs := ⟨rfl, fun x hx => by have := hok x hx; unfold okR at this; omega⟩
  have hst := fun n => (planS_ever hst0 he n).1
  have hpos : 1 ≤ prodE xs := (prodE_bound (xs := xs) fun x hx => by have := hok x hx; unfold okR at this; omega).1
  have hb : ∀ n, 0 ≤ codeR (planS h xs n) ∧ codeR (planS h xs n) < prodE xs := fun n => by
    have := code_bound (hst n).2
    rwa [prodE_same (hst n).1] at this
  have hn : ((List.range j).map fun k => (codeR (planS h xs k)).toNat).Nodup := by
    rw [List.Nodup, List.pairwise_map]
    refine List.Pairwise.imp_of_mem (fun {a b} ha hb' hab => ?_) (List.pairwise_lt_range (n := j))
    intro e
    have e2 : codeR (planS h xs a) = codeR (planS h xs b) := by
      have := hb a; have := hb b; omega
    have e3 := at_code (hst a)
    rw [e2, at_code (hst b)] at e3
    exact hd a b hab (List.mem_range.1 hb') e3.symm
  have := nodup_sub_length (L := List.range (prodE xs).toNat) hn fun a ha => by
    obtain ⟨k, _, rfl⟩ := List.mem_map.1 ha
    have := hb k
    exact List.mem_range.2 (by omega)
  simp only [List.length_map, List.length_range] at this
  omega
end Go.Proofs.YtknpglgpkkhhiaaDoor

/- turnings, of chapter 07's laws: valid turnings by a number. -/
namespace Go.Proofs.YtknpglgpkkhhiaaDoor
set_option linter.unusedSimpArgs false
set_option linter.unusedVariables false
open Go.RowKit Go.Proofs.YtknpglgpkkhhiaaDoor.Free2 Go.Proofs.YtknpglgpkkhhiaaDoor.ML RR

set_option maxRecDepth 100000 in
set_option maxHeartbeats 8000000 in
theorem turns_any (h : Int) (xs : List Rk) (b : Int) (u : Value) (w : World) (hu : RL xs u w) (hw : watchB h xs = true) :
    Calls Tryd.prog 59 #[.agg #[.int .i64 h, u], .int .u8 b] w fun e w' => (∃ v l, e = .returned v ∧ turnB h xs l = true ∧ l.length ≤ 4 ∧ w'.ownsRow w.heap.size 3 1 v l.length (l.map (Value.int .i64))) ∧ Below w.heap.size w w' := by
  have HU := Lib.hid hu
  have HW := Lib.hid hw
  obtain ⟨p, cp, rfl, hm, hp⟩ := hu
  unfold maxLen at hm
  have HP := Lib.hid hp
  clear hp hw
  obtain ⟨i0, hi0, hz0, hz1, hz2⟩ := info_parts T.infoInt
  have HZ := Lib.hid (And.intro hi0 (And.intro hz0 (And.intro hz1 hz2)))
  clear hi0 hz0 hz1 hz2
  have hb0 : Free.Bel w (w.alloc (.cells #[.int .i64 h, .slice p xs.length cp] 24)) := belAlloc _ _
  have m0 : (w.alloc (.cells #[.int .i64 h, .slice p xs.length cp] 24)).heap[w.heap.size]? = some (.cells #[.int .i64 h, .slice p xs.length cp] 24 (0, 0)) := World.alloc_heap_new w _
  have HI := Lib.hid (And.intro hb0 (And.intro m0 (World.ownsRow_nil (w.alloc (.cells #[.int .i64 h, .slice p xs.length cp] 24)) (w.heap.size + 1) 3 1)))
  have n0 := cell_of_heap (o := 1) m0 rfl
  clear hb0 m0
  go_enter Tryd.func59, Tryd.ntmps59
  go_wp2_with fail
  clear n0
  go_loopw [11, 5] (fun i v wr => ∃ (k : Nat) (l : List Int), k ≤ xs.length ∧ i = .int .i64 k ∧ TurnK h xs k l ∧ Below w.heap.size w wr ∧ wr.heap[w.heap.size]? = some (.cells #[.int .i64 h, .slice p xs.length cp] 24 (0, 0)) ∧ wr.ownsRow (w.heap.size + 1) 3 1 v l.length (l.map (Value.int .i64))) (fun i _ _ => xs.length - (intOf i).toNat)
  case atStart => exact ⟨0, [], Nat.zero_le _, rfl, TurnK.zero (watchB_iff.1 HW.out).1.1, HI.out⟩
  case round =>
    obtain ⟨k, al, hk, rfl, hTK, hB, hT, how⟩ := hrel
    have HTK := Lib.hid hTK
    have hal3 : al.length ≤ 3 := by have h1 := HTK.out.1; have h2 := (watchB_iff.1 HW.out).1.2; omega
    clear hTK
    by_cases hlt : k < xs.length
    · have hx : xs ≠ [] := by intro e; simp [e] at hlt
      obtain ⟨b0, off, rfl, hcp⟩ := HP.out hx
      obtain ⟨d1, d2, d3⟩ := hcp k hlt
      have e1 := keepsB hB d1
      have e2 := keepsB hB d2
      have e3 := keepsB hB d3
      have hklt : (k : Int) < xs.length := by omega
      have hk4 : xs.length ≤ 4 := (watchB_iff.1 HW.out).2.1
      have hkw : IntKind.i64.wrap ((k : Int) + 1) = (k : Int) + 1 := IntWalk.i64_in _ (by omega)
      have q0 := cell_of_heap (o := 0) hT rfl
      have hszw : w.heap.size + 1 ≤ wr.heap.size := lt_of_heap hT
      have HNX : Hid ((al.length : Int) < h → TurnK h xs (k + 1) (al ++ [xs[k].1])) := fun h9 => HTK.out.add HW.out hlt h9
      have HN0 : Hid (TurnK h xs (k + 1) al) := HTK.out.skip
      clear hcp hx d1 d2 d3
      generalize xs[k] = x at *
      obtain ⟨x1, x2, x3⟩ := x
      have KA : Free.Bel wr (wr.alloc (.cells #[.int .i64 x1, .int .i64 x2, .int .i64 x3] 47)) := belAlloc _ _
      have q2 := keepsB KA q0
      have hx1 : (wr.alloc (.cells #[.int .i64 x1, .int .i64 x2, .int .i64 x3] 47)).cell? ⟨wr.heap.size, 0, none⟩ = some (.int .i64 x1) := by simp [go_sem]
      have HB := Lib.hid (And.intro hB hT)
      have hkn : ¬ ((k : Int) < 0) := by omega
      clear hB hT q0
      obtain ⟨q5, c5, rfl⟩ := row_slice how
      by_cases hbit : bits BinOp.and IntKind.u8 (b / 2 ^ k) 1 = 1
      · by_cases hlh : (al.length : Int) < h
        · have HLH := Lib.hid hlh
          go_wp2_with (first | (at_builtin; go_loud (refine wpList_append_own _ rfl _ _ 58 rfl (w.heap.size + 1) 3 i0 (.int .i64 0) 1 8 Tryd.underlying58 HZ.out.1 HZ.out.2.1 HZ.out.2.2.1 HZ.out.2.2.2 rfl (by decide) _ _ _ rfl ((bel_row how KA).alloc _) ⟨wr.heap.size + 1, 0, none⟩ 1 1 [.int .i64 x1] rfl rfl (by have := cell_one_new (wr.alloc (.cells #[.int .i64 x1, .int .i64 x2, .int .i64 x3] 47)) (.int .i64 x1) 3; simpa using this) (fun x hx => by simp at hx; subst hx; rfl) (by unfold maxLen; omega) (by omega) (by simp; omega) ?_); intro v9 w9 hown9 hgrow9 hnil9) | fail)
          have HG := Lib.hid (show Below (w.heap.size + 1) wr w9 from ((Below.mono KA hszw).alloc (by simp; omega) _).trans (grown_belR ((bel_row how KA).alloc _) hgrow9 (by simp; omega)))
          have HO9 := Lib.hid hown9
          clear hown9 hgrow9 hnil9 how
          go_roundw
          case rel => exact ⟨k + 1, al ++ [x1], by omega, by go_num, HNX.out HLH.out, HB.out.1.trans (HG.out.mono (by omega)), (HG.out.block _ (by omega)).trans HB.out.2, by simpa using HO9.out⟩
          case measure => simp [intOf]; omega
        · have HOW := Lib.hid how
          clear how
          go_wp2_with fail
          go_roundw
          case rel => exact ⟨k + 1, al, by omega, by go_num, HN0.out, HB.out.1.trans (Below.mono KA HB.out.1.size), heap_old HB.out.2, bel_row HOW.out KA⟩
          case measure => simp [intOf]; omega
      · have HOW := Lib.hid how
        clear how
        go_wp2_with fail
        go_roundw
        case rel => exact ⟨k + 1, al, by omega, by go_num, HN0.out, HB.out.1.trans (Below.mono KA HB.out.1.size), heap_old HB.out.2, bel_row HOW.out KA⟩
        case measure => simp [intOf]; omega
    · obtain rfl : k = xs.length := by omega
      have HF := Lib.hid (And.intro hB how)
      clear hB hT how
      go_wp2_with fail
      go_ret
      exact ⟨⟨_, al, rfl, HTK.out.turn HW.out, by omega, row_mono HF.out.2 (Nat.le_succ _)⟩, HF.out.1⟩
end Go.Proofs.YtknpglgpkkhhiaaDoor

/- The bounds of small kinds of numbers. -/
namespace Go.Proofs.YtknpglgpkkhhiaaDoor
open Go
theorem u8_wf {n : Int} (h : (Lit.int .u8 n).wf = true) : 0 ≤ n ∧ n ≤ 255 := by
  have h2 : IntKind.u8.min ≤ n ∧ n ≤ IntKind.u8.max := by simpa [Lit.wf] using h
  exact h2
theorem u16_wf {n : Int} (h : (Lit.int .u16 n).wf = true) : 0 ≤ n ∧ n ≤ 65535 := by
  have h2 : IntKind.u16.min ≤ n ∧ n ≤ IntKind.u16.max := by simpa [Lit.wf] using h
  exact h2
theorem u32_wf {n : Int} (h : (Lit.int .u32 n).wf = true) : 0 ≤ n ∧ n ≤ 4294967295 := by
  have h2 : IntKind.u32.min ≤ n ∧ n ≤ IntKind.u32.max := by simpa [Lit.wf] using h
  exact h2
end Go.Proofs.YtknpglgpkkhhiaaDoor

/- A slice of small numbers, as an argument. -/
namespace Go.Proofs.YtknpglgpkkhhiaaDoor
set_option linter.unusedSimpArgs false
set_option linter.unusedVariables false
open Go.RowKit

def BL (bs : List Int) (v : Value) (w : World) : Prop := ∃ p cap, v = .slice p bs.length cap ∧ bs.length ≤ maxLen ∧ (∀ x ∈ bs, 0 ≤ x ∧ x ≤ 255) ∧ (bs ≠ [] → ∃ b off, p = some ⟨b, off, none⟩ ∧ ∀ k, (h : k < bs.length) → w.cell? ⟨b, off + k, none⟩ = some (.int .u8 bs[k]))
section
variable {H : Type} {enc : TypeId × Value → H} {W : World} {sp : Nat → Bool} {held : Bool}
set_option maxRecDepth 100000 in
theorem bytes_open {t e : TypeId} {v : Value} {y : DataW H × List MemPlace} {n : Nat}
    (ht : Tryd.prog.underlying t = some (.slice e)) (he : Tryd.prog.underlying e = some (.int .u8)) (ce : Tryd.prog.cellsOf e = 1)
    (h : DataW.trod enc Tryd.prog W 0 sp held n t [v] = some y) : ∃ xs : List Int, BL xs v W := by
  rcases Deep.open_slice1 ht ce h with ⟨h0, _⟩ | ⟨a, len, cap, m, n', V, D, Pl, h0, _, hl, hm, hmm, _, hx⟩
  · simp at h0
    subst h0
    exact ⟨[], none, 0, rfl, by simp, (fun x hx => (by cases hx)), fun h => absurd rfl h⟩
  · simp at h0
    subst h0
    have hlm : len ≤ m := by rw [hmm]; split <;> omega
    have each : ∀ i, i < len → ∃ q : Int, W.cell? (a.add i) = some (.int .u8 q) ∧ 0 ≤ q ∧ q ≤ 255 := by
      intro i hi
      obtain ⟨h1, h2⟩ := hx i (by omega)
      obtain ⟨z, e0, _, hw⟩ := DataW.trod_int he h2
      simp at e0
      rw [e0] at h1
      exact ⟨z, h1, u8_wf hw⟩
    obtain ⟨q, hq⟩ := Deep.choose_lt each
    refine ⟨(List.range len).map q, some a, cap, by simp, by simp; unfold maxLen at *; omega, fun x hx => ?_, fun hne => ?_⟩
    · obtain ⟨i, hi, rfl⟩ := List.mem_map.1 hx
      exact (hq i (List.mem_range.1 hi)).2
    · have hl0 : 0 < len := by
        rcases Nat.eq_zero_or_pos len with h | h
        · subst h; simp at hne
        · exact h
      obtain ⟨b, off, spot⟩ := a
      have hs : spot = none := by simpa [Addr.add] using World.cell?_spot (hq 0 hl0).1
      subst hs
      refine ⟨b, off, rfl, fun k hk => ?_⟩
      have h3 := (hq k (by simpa using hk)).1
      simp only [List.getElem_map, List.getElem_range]
      rw [addE] at h3
      exact h3
end
end Go.Proofs.YtknpglgpkkhhiaaDoor

/- The reference's TwinDays. -/
namespace Go.Proofs.YtknpglgpkkhhiaaDoor
set_option linter.unusedSimpArgs false
set_option linter.unusedVariables false
open Go.RowKit Go.Proofs.YtknpglgpkkhhiaaDoor.Free2

theorem T.infoSl : (Tryd.prog.info? 58).map (fun i => (i.zero, i.size, i.bytes)) = some (some (.slice none 0 0), 1, 24) := by kernel_rfl
theorem IL.rowK {xs : List Int} {u v v' : Value} {a b : World} (h : IL xs u a) (ho : xs ≠ [] → OffS v u) (hR : RowK v a v' b) : IL xs u b := by
  obtain ⟨p, cap, rfl, h2, h3⟩ := h
  refine ⟨p, cap, rfl, h2, fun hx => ?_⟩
  obtain ⟨g, off, rfl, h5⟩ := h3 hx
  have ho2 : Off v g := ho hx ⟨g, off, none⟩ _ _ rfl
  exact ⟨g, off, rfl, fun k hk => hR.cell ho2 (h5 k hk)⟩
/-- Slices of these lists, none of which lies in the row v. -/
def Elts (v : Value) (ds : List (List Int)) (us : List Value) (W : World) : Prop := us.length = ds.length ∧ ∀ i (h : i < ds.length) (h' : i < us.length), IL ds[i] us[i] W ∧ (ds[i] ≠ [] → ∀ a n c, us[i] = .slice (some a) n c → Off v a.block ∧ a.block < W.heap.size)
theorem Elts.rowK {v v' : Value} {ds : List (List Int)} {us : List Value} {a b : World} (h : Elts v ds us a) (hR : RowK v a v' b) : Elts v' ds us b :=
  ⟨h.1, fun i h1 h2 => by
    obtain ⟨h3, h4⟩ := h.2 i h1 h2
    refine ⟨h3.rowK (fun hx a' n c he => (h4 hx a' n c he).1) hR, fun hx a' n c he => ?_⟩
    obtain ⟨o1, o2⟩ := h4 hx a' n c he
    exact ⟨hR.off o1 o2, Nat.lt_of_lt_of_le o2 hR.size⟩⟩
theorem Elts.snoc {v : Value} {ds : List (List Int)} {us : List Value} {W : World} {d : List Int} {u : Value} (h : Elts v ds us W) (hd : IL d u W) (ho : d ≠ [] → ∀ a n c, u = .slice (some a) n c → Off v a.block ∧ a.block < W.heap.size) : Elts v (ds ++ [d]) (us ++ [u]) W :=
  ⟨by simp [h.1], fun i h1 h2 => by
    by_cases hi : i < ds.length
    · have hi2 : i < us.length := by rw [h.1]; exact hi
      simp only [List.getElem_append_left hi, List.getElem_append_left hi2]
      exact h.2 i hi hi2
    · have e : i = ds.length := by simp at h1; omega
      subst e
      have e2 : us.length = ds.length := h.1
      simp only [List.getElem_append_right (Nat.le_refl _), Nat.sub_self, List.getElem_cons_zero]
      have : (us ++ [u])[ds.length] = u := by simp [List.getElem_append, e2]
      rw [this]
      exact ⟨hd, ho⟩⟩
theorem Elts.dl {v : Value} {ds : List (List Int)} {us : List Value} {W : World} {base : Nat} {e : TypeId} (h : Elts v ds us W) (hr : W.ownsRow base e 1 v ds.length us) (hm : ds.length ≤ maxLen) : DL ds v W := by
  rcases hr.2 with ⟨rfl, h0⟩ | ⟨g, cap, cur, rfl, _, hg, _⟩
  · have : ds = [] := List.eq_nil_of_length_eq_zero h0
    subst this
    exact DL.nil W
  · refine ⟨_, cap, rfl, hm, fun _ => ⟨g, 0, rfl, fun k hk => ?_⟩⟩
    have hk2 : k < us.length := by rw [h.1]; exact hk
    have hc := hr.cells (g := g) rfl k us[k] (by simp [hk2])
    exact ⟨us[k], by simpa [Addr.add_lit] using hc, (h.2 k hk hk2).1⟩

set_option maxRecDepth 100000 in
set_option maxHeartbeats 8000000 in
theorem twinD_any (ds : List (List Int)) (v : Value) (w : World) (hv : DZ ds v w) (hl : ds.length ≤ 80) (h10 : ∀ d ∈ ds, d.length ≤ 10) :
    Calls Tryd.prog 20 #[v] w fun e w' => (∃ v', e = .returned v' ∧ DL ds v' w') ∧ Below w.heap.size w w' := by
  obtain ⟨q, cq, rfl, hm, _, hq⟩ := hv
  unfold maxLen at hm
  have HC := Lib.hid hq
  have H10 := Lib.hid h10
  obtain ⟨i0, hi0, hz0, hz1, hz2⟩ := info_parts T.infoInt
  have HZ := Lib.hid (And.intro hi0 (And.intro hz0 (And.intro hz1 hz2)))
  obtain ⟨i1, hi1, hy0, hy1, hy2⟩ := info_parts T.infoSl
  have HY := Lib.hid (And.intro hi1 (And.intro hy0 (And.intro hy1 hy2)))
  clear hi0 hz0 hz1 hz2 hi1 hy0 hy1 hy2 hq h10
  go_enter Tryd.func20, Tryd.ntmps20
  go_wp2_with fail
  go_loopw [8, 3] (fun i v wr => ∃ (k : Nat) (us : List Value), k ≤ ds.length ∧ i = .int .i64 k ∧ Below w.heap.size w wr ∧ Elts v (ds.take k) us wr ∧ wr.ownsRow w.heap.size 58 1 v k us) (fun i _ _ => ds.length - (intOf i).toNat)
  case atStart => exact ⟨0, [], Nat.zero_le _, rfl, Below.refl _ _, ⟨rfl, fun i h => by simp at h⟩, World.ownsRow_nil _ _ _ _⟩
  case round =>
    obtain ⟨k, us, hk, rfl, hB, hel, hrow⟩ := hrel
    by_cases hlt : k < ds.length
    · have hx : ds ≠ [] := by intro e; simp [e] at hlt
      obtain ⟨b, off, rfl, hcp⟩ := HC.out hx
      obtain ⟨u1, d1, il1, nz1⟩ := hcp k hlt
      have e1 := keepsB hB d1
      have il2 := il1.keeps hB
      have hklt : (k : Int) < ds.length := by omega
      have htk : Hid (ds.take (k + 1) = ds.take k ++ [ds[k]]) := by show _ = _; rw [List.take_add_one, List.getElem?_eq_getElem hlt]; rfl
      have hd10 := H10.out ds[k] (List.getElem_mem hlt)
      clear hcp d1 il1
      generalize ds[k] = day at *
      obtain ⟨p1, c1, rfl, _, hq1⟩ := il2
      have HNEW : Hid (∀ W, Below wr.heap.size wr W → ∀ ad, p1 = some ad → ∀ j u, (day.map (Value.int .i64))[j]? = some u → W.cell? (ad.add j) = some u) := by
        intro W hW ad hpa j u hj
        have hjl : j < day.length := by
          have := (List.getElem?_eq_some_iff.1 hj).1
          simpa using this
        obtain ⟨b2, off2, rfl, hc2⟩ := hq1 (by intro e; simp [e] at hjl)
        cases hpa
        rw [addE]
        have := keepsB hW (hc2 j hjl)
        rw [this]
        simpa [hjl] using hj
      have HNIL : Hid (p1 = none → day.length = 0 ∧ c1 = 0) := fun e => nz1 _ _ (by rw [e])
      have HEL := Lib.hid hel
      have how : wr.ownsRow w.heap.size 58 1 _ _ _ := hrow
      have hszw : w.heap.size ≤ wr.heap.size := hB.size
      have HB := Lib.hid hB
      have KA : Free.Bel wr (wr.alloc (.cells #[] 3)) := belAlloc _ _
      clear hq1 nz1 hel hrow hB
      go_wp2_with (first | (at_builtin; (refine wpList_append_full rfl _ _ 58 rfl wr.heap.size 3 i0 (.int .i64 0) 1 8 Tryd.underlying58 HZ.out.1 HZ.out.2.1 HZ.out.2.2.1 HZ.out.2.2.2 rfl (by decide) wr.heap.size 0 #[] rfl (World.alloc_heap_new _ _) rfl (Nat.le_refl _) p1 day.length c1 (day.map (Value.int .i64)) rfl (by simp) (HNEW.out _ KA) HNIL.out (by unfold maxLen; omega) (by omega) ?_); intro v9 w9 ho8 hb9; have ho9 : w9.ownsRow wr.heap.size 3 1 v9 day.length (day.map (Value.int .i64)) := (by simpa using ho8); clear ho8; obtain ⟨p9, c9, hv9⟩ := row_slice ho9; subst hv9) | (at_builtin; go_loud (refine wpList_append_row rfl _ _ 25 rfl w.heap.size 58 i1 (.slice none 0 0) 1 24 Tryd.underlying25 HY.out.1 HY.out.2.1 HY.out.2.2.1 HY.out.2.2.2 rfl (by decide) _ _ _ rfl (bel_row (bel_row (bel_row how KA) hb9) (belAlloc _ _)) ⟨w9.heap.size, 0, none⟩ 1 1 [.slice p9 (day.length) c9] (by first | rfl | simp) (by decide) rfl (cell_one_new _ _ _) (fun x hx => by simp at hx; subst hx; rfl) (by unfold maxLen; omega) (by omega) (by have := KA.size; have := hb9.size; simp at *; omega) ?_); intro v8 w8 hown8 hgrow8) | fail)
      have K9 : Free.Bel wr (w9.alloc (.cells #[.slice p9 (day.length) c9] 58)) := bt KA (bt hb9 (belAlloc _ _))
      have hday : IL day (.slice p9 (day.length) c9) (w9.alloc (.cells #[.slice p9 (day.length) c9] 58)) := by
        have h8 := bel_row ho9 (belAlloc w9 (.cells #[.slice p9 (day.length) c9] 58))
        exact IL.of_own (by unfold maxLen; omega) h8
      have hoff : day ≠ [] → ∀ a n c, Value.slice p9 (day.length) c9 = .slice (some a) n c → Off u3 a.block ∧ a.block < (w9.alloc (.cells #[.slice p9 (day.length) c9] 58)).heap.size := by
        intro hx a n c he
        rcases ho9.2 with ⟨h7, _⟩ | ⟨g, cap, cur, h7, hg, hgg, _⟩
        · rw [h7] at he; cases he
        · rw [h7] at he; cases he
          exact ⟨off_new how hg, by have := lt_of_heap hgg; simp; omega⟩
      have hel9 := (Elts.snoc (HEL.out.rowK (RowK.of_bel K9)) hday hoff).rowK hgrow8
      rw [← htk.out] at hel9
      have HE9 := Lib.hid hel9
      have HBB := Lib.hid (HB.out.trans ((K9.mono hszw).trans (hgrow8.below (bel_row how K9) (Nat.le_trans hszw K9.size))))
      have HO8 := Lib.hid hown8
      clear hel9 hoff hday K9 hown8 hgrow8 ho9 hb9 KA
      go_roundw
      case rel => exact ⟨k + 1, us ++ [.slice p9 (day.length) c9], by omega, by go_num, HBB.out, HE9.out, HO8.out⟩
      case measure => simp [intOf]; omega
    · obtain rfl : k = ds.length := by omega
      rw [List.take_length] at hel
      have HD := Lib.hid (hel.dl hrow (by unfold maxLen; omega))
      clear hel hrow
      go_wp2_with fail
      go_ret
      exact ⟨⟨_, rfl, HD.out⟩, hB⟩
end Go.Proofs.YtknpglgpkkhhiaaDoor

/- Can, at a valid watch. -/
namespace Go.Proofs.YtknpglgpkkhhiaaDoor
set_option linter.unusedSimpArgs false
set_option linter.unusedVariables false
open Go.RowKit

theorem can_at (h : Int) (xs : List Rk) (u : Value) (w : World) (hT : TabR w) (hu : RL xs u w) (hw : watchB h xs = true) (r : Bool) (hr : Hid (everB h xs = r)) :
    Calls Tryd.prog 32 #[.agg #[.int .i64 h, u]] w fun e w' => e = .returned (.tuple #[.bool r, .int .i64 0]) ∧ Below w.heap.size w w' :=
  canP_v h xs u w hT hu 0 r (by rw [hw, hr.out]; exact ⟨rfl, rfl⟩)
end Go.Proofs.YtknpglgpkkhhiaaDoor

/- RoundRepeats: days repeat just if they can be done again seven times. -/
namespace Go.Proofs.YtknpglgpkkhhiaaDoor
set_option linter.unusedSimpArgs false
set_option linter.unusedVariables false
open Go.RowKit Go.Proofs.YtknpglgpkkhhiaaDoor.Free2 Go.Proofs.YtknpglgpkkhhiaaDoor.ML RR

theorem day_max {h : Int} {xs : List Rk} {ds : List (List Int)} {d : List Int} (hw : watchB h xs = true) (ha : ds.all (turnB h xs) = true) (hd : d ∈ ds) : d.length ≤ maxLen := by
  have h1 := List.all_eq_true.1 ha d hd
  unfold turnB at h1
  rw [Bool.and_eq_true, decide_eq_true_eq] at h1
  have := (watchB_iff.1 hw).1
  unfold maxLen
  omega
set_option maxRecDepth 100000 in
set_option maxHeartbeats 32000000 in
theorem repL_walk (h : Int) (xs : List Rk) (bs : List Int) (u v : Value) (w : World) (hT : TabR w) (hu : RL xs u w) (hz : NZ u) (hb : BL bs v w) :
    Calls Tryd.prog 13 #[.agg #[.int .i64 h, u], v] w fun e w' => e = .returned (.bool true) ∧ Below w.heap.size w w' := by
  obtain ⟨p2, cp2, rfl, hm2, hby, hq2⟩ := hb
  have HBY := Lib.hid hby
  have HQ2 := Lib.hid hq2
  have HM2 := Lib.hid hm2
  clear hby hq2 hm2
  obtain ⟨i1, hi1, hy0, hy1, hy2⟩ := info_parts T.infoSl
  have HY := Lib.hid (And.intro hi1 (And.intro hy0 (And.intro hy1 hy2)))
  clear hi1 hy0 hy1 hy2
  have HNZ := Lib.hid hz
  have HTX := Lib.hid (fun (W : World) (hW : Below w.heap.size w W) => hT.bel hW)
  have HUX := Lib.hid (fun (W : World) (hW : Below w.heap.size w W) => hu.keeps hW)
  obtain ⟨p, cp, rfl, hm, hp⟩ := hu
  have HP := Lib.hid hp
  have HKX := Lib.hid (fun (W : World) (hW : Below w.heap.size w W) (a : Addr) (v : Value) (hv : w.cell? a = some v) => keepsB hW hv)
  clear hm hp hz hT
  have hB0 : Below w.heap.size w (w.alloc (.cells #[.int .i64 h, .slice p xs.length cp] 24)) := (Below.refl _ w).alloc (Nat.le_refl _) _
  have c0_0 : (w.alloc (.cells #[.int .i64 h, .slice p xs.length cp] 24)).cell? ⟨w.heap.size, 0, none⟩ = some (.int .i64 h) := by simp [go_sem]
  have c0_1 : (w.alloc (.cells #[.int .i64 h, .slice p xs.length cp] 24)).cell? ⟨w.heap.size, 1, none⟩ = some (.slice p xs.length cp) := by simp [go_sem]
  have HTB := Lib.hid (HTX.out _ hB0)
  go_enter Tryd.func13, Tryd.ntmps13
  go_wp2_with fail
  refine (alive_any _ HTB.out).mono ?_
  rintro e w1 ⟨rfl, hB1⟩
  have hBz : Below w.heap.size w w1 := hB0.trans (hB1.mono (by simp))
  have hzz : w.heap.size ≤ w1.heap.size := hBz.size
  have hzn : w.heap.size + 1 ≤ w1.heap.size := by have := hB1.size; simp at this; omega
  have kc0_0 := keepsB hB1 c0_0
  have kc0_1 := keepsB hB1 c0_1
  clear hB0 hB1 HTB c0_0 c0_1
  generalize hbb : w.heap.size = bb at *
  have HBB := Lib.hid hbb
  clear hbb
  have HB_w1 := Lib.hid (show Below bb w w1 from hBz)
  have hz_w1 : bb ≤ w1.heap.size := hzz
  have FA : ∀ W, Free.Bel w1 W → W.cell? ⟨bb, 0, none⟩ = some (.int .i64 h) ∧ W.cell? ⟨bb, 1, none⟩ = some (.slice p xs.length cp) ∧ Hid (TabR W) ∧ Hid (RL xs (.slice p xs.length cp) W) ∧ bb + 1 ≤ W.heap.size ∧ bb ≤ W.heap.size := fun W hW => ⟨keepsB hW kc0_0, keepsB hW kc0_1, Lib.hid (HTX.out W (hBz.trans (hW.mono hzz))), Lib.hid (HUX.out W (hBz.trans (hW.mono hzz))), Nat.le_trans hzn hW.size, Nat.le_trans hz_w1 hW.size⟩
  have KR : Free.Bel w1 w1 := Free.Bel.refl _
  clear hBz hzz kc0_0 kc0_1 hzn
  go_wp2_with fail
  cases hw : watchB h xs with
  | false =>
    refine (ready_v h xs _ w1 (FA w1 (Free.Bel.refl _)).2.2.2.1.out false (Lib.hid hw)).mono ?_
    rintro e w2 ⟨rfl, hB⟩
    have HB_w2 := Lib.hid (HB_w1.out.trans ((hB).mono hz_w1))
    have hz_w2 : bb ≤ w2.heap.size := Nat.le_trans hz_w1 (hB).size
    have FN := fun (W : World) (hW : Free.Bel w2 W) => FA W (bt (hB) hW)
    clear FA HB_w1 hz_w1 KR
    have FA := FN
    clear FN
    have KR := Free.Bel.refl w2
    clear hB
    go_wp2_with fail
    go_ret
    have hbb := HBB.out
    subst hbb
    exact ⟨rfl, HB_w2.out⟩
  | true =>
    have HW := Lib.hid hw
    refine (ready_v h xs _ w1 (FA w1 (Free.Bel.refl _)).2.2.2.1.out true (Lib.hid hw)).mono ?_
    rintro e w3 ⟨rfl, hB⟩
    have HB_w3 := Lib.hid (HB_w1.out.trans ((hB).mono hz_w1))
    have hz_w3 : bb ≤ w3.heap.size := Nat.le_trans hz_w1 (hB).size
    have FN := fun (W : World) (hW : Free.Bel w3 W) => FA W (bt (hB) hW)
    clear FA HB_w1 hz_w1 KR
    have FA := FN
    clear FN
    have KR := Free.Bel.refl w3
    clear hB
    clear hw
    go_wp2_with fail
    go_loopw [28, 6] (fun i v wr => ∃ (k : Nat) (ds : List (List Int)), k ≤ bs.length ∧ i = .int .i64 k ∧ ds.length ≤ 60 ∧ ds.all (turnB h xs) = true ∧ DO w3.heap.size ds v wr ∧ Free.Bel w3 wr) (fun i _ _ => bs.length - (intOf i).toNat)
    case atStart => exact ⟨0, [], Nat.zero_le _, rfl, by decide, rfl, DO.nil _ _, Free.Bel.refl _⟩
    case round =>
      obtain ⟨k, ds, hk, rfl, h60, hall, hdo, hB⟩ := hrel
      have HALL := Lib.hid hall
      clear hall
      by_cases hlt : k < bs.length
      · have hx2 : bs ≠ [] := by intro e; simp [e] at hlt
        obtain ⟨b2, off2, rfl, hc2⟩ := HQ2.out hx2
        have e1 := HKX.out wr (HB_w3.out.trans (hB.mono hz_w3)) _ _ (hc2 k hlt)
        have hklt : (k : Int) < bs.length := by omega
        have hkm := HM2.out
        unfold maxLen at hkm
        have hkw : IntKind.i64.wrap ((k : Int) + 1) = (k : Int) + 1 := IntWalk.i64_in _ (by omega)
        clear hc2 hx2
        generalize bs[k] = x at *
        obtain ⟨vs, hvl, how, hvd⟩ := hdo
        obtain ⟨q6, c6, rfl⟩ := row_slice how
        by_cases hd : ds.length < 60
        · have hd60 : (ds.length : Int) < 60 := by omega
          go_wp2_with fail
          refine (turns_any h xs x _ wr ((FA wr hB).2.2.2.1.out) HW.out).mono ?_
          rintro e w2 ⟨⟨v2, l2, rfl, ht2, hl2, ho2⟩, hB2⟩
          obtain ⟨q2, c2, rfl⟩ := row_slice ho2
          have KA : Free.Bel wr (w2.alloc (.cells #[.slice q2 l2.length c2] 58)) := bt hB2 (belAlloc _ _)
          have HT2 := Lib.hid ht2
          have HO2 := Lib.hid (And.intro (DayR.stay (d := l2) ⟨_, ho2⟩ fun k c f hk => ((belAlloc w2 (.cells #[.slice q2 l2.length c2] 58)).block k (lt_of_heap hk)).trans hk) (And.intro hl2 hB2))
          clear ht2 hl2 ho2
          have hs2 : w3.heap.size ≤ w2.heap.size := Nat.le_trans hB.size hB2.size
          clear hB2
          go_wp2_with (first | (at_builtin; go_loud (refine wpList_append_own _ rfl _ _ 25 rfl w3.heap.size 58 i1 (.slice none 0 0) 1 24 Tryd.underlying25 HY.out.1 HY.out.2.1 HY.out.2.2.1 HY.out.2.2.2 rfl (by decide) _ _ _ rfl (bel_row how KA) ⟨w2.heap.size, 0, none⟩ 1 1 [.slice q2 l2.length c2] rfl rfl (cell_one_new _ _ _) (fun x hx => by simp at hx; subst hx; rfl) (by unfold maxLen; omega) (by omega) (by simp; omega) ?_); intro v9 w9 hown9 hgrow9 hnil9) | fail)
          have HG := Lib.hid (show Free.Bel w3 w9 from Below.trans (show Below w3.heap.size w3 wr from hB) (((show Below wr.heap.size wr (w2.alloc (.cells #[.slice q2 l2.length c2] 58)) from KA).mono hB.size).trans (grown_belR (bel_row how KA) hgrow9 (by simp; omega))))
          have HDO := Lib.hid (DO.snoc hvl (bel_row how KA) (fun i hi u hu => (hvd i hi u hu).stay fun k c f hk => ((show Free.Bel wr _ from KA).block k (lt_of_heap hk)).trans hk) HO2.out.1 hgrow9 hown9)
          clear hown9 hgrow9 hnil9 how hvl hvd hs2 KA
          go_roundw
          case rel => exact ⟨k + 1, ds ++ [l2], by omega, by go_num, by simp; omega, by rw [List.all_append, HALL.out]; simpa using HT2.out, HDO.out, HG.out⟩
          case measure => simp [intOf]; omega
        · have hd60 : ¬ (ds.length : Int) < 60 := by omega
          have HO := Lib.hid (And.intro hvl (And.intro how (And.intro hvd hB)))
          clear hvl how hvd
          go_wp2_with fail
          go_roundw
          case rel => exact ⟨k + 1, ds, by omega, by go_num, h60, HALL.out, ⟨vs, HO.out.1, HO.out.2.1, HO.out.2.2.1⟩, HO.out.2.2.2⟩
          case measure => simp [intOf]; omega
      · obtain rfl : k = bs.length := by omega
        have HDO := Lib.hid hdo
        obtain ⟨vs, hvl, how, hvd⟩ := hdo
        obtain ⟨q6, c6, rfl⟩ := row_slice how
        clear hvl how hvd hlt hk
        obtain ⟨w4, hwr⟩ : ∃ x, x = wr := ⟨_, rfl⟩
        subst hwr
        obtain ⟨s6, hs6⟩ : ∃ x, w3.heap.size = x := ⟨_, rfl⟩
        rw [hs6] at HDO
        clear hs6
        have HB_w4 := Lib.hid (HB_w3.out.trans ((hB).mono hz_w3))
        have hz_w4 : bb ≤ w4.heap.size := Nat.le_trans hz_w3 (hB).size
        have FN := fun (W : World) (hW : Free.Bel w4 W) => And.intro (Lib.hid (HDO.out.bel hW)) (FA W (bt (hB) hW))
        clear FA HB_w3 hz_w3 KR
        have FA := FN
        clear FN
        have KR := Free.Bel.refl w4
        clear hB HDO
        have hask : Hid (askE h xs ds = 0) := ask_valid HW.out h60 HALL.out
        go_wp2_with fail
        have hre : Hid (repE h xs ds = (if ds.isEmpty = true then 72 else 0)) := if_pos hask.out
        obtain ⟨cr, hcr⟩ : ∃ y, repE h xs ds = y := ⟨_, rfl⟩
        obtain ⟨rr, hrr⟩ : ∃ y, repB h xs ds = y := ⟨_, rfl⟩
        have HCR := Lib.hid (And.intro hcr hrr)
        clear hcr hrr
        refine (repP_v h xs ds _ _ w4 (FA w4 (Free.Bel.refl _)).2.2.2.1.out (FA w4 (Free.Bel.refl _)).2.2.2.2.1.out HNZ.out (((FA w4 (Free.Bel.refl _)).1).out.dz (by unfold maxLen; omega) (fun d hd => day_max HW.out HALL.out hd)).dl (by omega) cr rr HCR).mono ?_
        rintro e w5 ⟨rfl, hB⟩
        have HB_w5 := Lib.hid (HB_w4.out.trans ((hB).mono hz_w4))
        have hz_w5 : bb ≤ w5.heap.size := Nat.le_trans hz_w4 (hB).size
        have FN := fun (W : World) (hW : Free.Bel w5 W) => FA W (bt (hB) hW)
        clear FA HB_w4 hz_w4 KR
        have FA := FN
        clear FN
        have KR := Free.Bel.refl w5
        clear hB
        by_cases hd0 : ds = []
        · have hc9 : cr = 72 := by rw [← HCR.out.1, hre.out, hd0]; rfl
          have hr9 : rr = false := by rw [← HCR.out.2, repB, HCR.out.1, hc9]; rfl
          subst hc9 hr9
          have hl9 : ((ds.length : Int) == 0) = true := by rw [hd0]; rfl
          clear hd0
          go_wp2_with fail
          go_ret
          have hbb := HBB.out
          subst hbb
          exact ⟨rfl, HB_w5.out⟩
        have hl9 : ((ds.length : Int) == 0) = false := by cases ds with | nil => exact absurd rfl hd0 | cons _ _ => simp; omega
        obtain rfl : cr = 0 := by rw [← HCR.out.1, hre.out, if_neg (by simpa using hd0)]
        have HRR : Hid (rr = repN 7 xs ds) := by show _ = _; have h9 := HCR.out.2; unfold repB at h9; rw [HCR.out.1] at h9; simpa using h9.symm
        have HD0 := Lib.hid hd0
        clear hd0
        go_wp2_with fail
        have HN0 := Lib.hid (And.intro (belAlloc w5 (.cells #[.int .i64 h, .slice p xs.length cp] 24)) (And.intro (World.alloc_heap_new w5 (.cells #[.int .i64 h, .slice p xs.length cp] 24)) (((FA (w5.alloc (.cells #[.int .i64 h, .slice p xs.length cp] 24)) (belAlloc _ _)).2.2.2.2.1).out)))
        have hgn : bb + 1 ≤ w5.heap.size := (FA w5 (Free.Bel.refl _)).2.2.2.2.2.1
        obtain ⟨gN, hgN⟩ : ∃ x, w5.heap.size = x := ⟨_, rfl⟩
        rw [hgN] at HN0 hgn
        simp only [hgN]
        have HGN := Lib.hid hgN
        clear hgN
        go_loopw [61, 12] (fun i g wr => ∃ (j : Nat) (v : Value), j ≤ 7 ∧ i = .int .i64 j ∧ g = .bool true ∧ Free.Bel w5 wr ∧ wr.heap[gN]? = some (.cells #[.int .i64 h, v] 24 (0, 0)) ∧ RL (roundR xs ds j) v wr ∧ NZ v ∧ ∀ k, k < j → coolD (roundR xs ds k) ds = true) (fun i _ _ => 7 - (intOf i).toNat)
        case atStart => exact ⟨0, _, by omega, rfl, rfl, HN0.out.1, HN0.out.2.1, HN0.out.2.2, HNZ.out, fun k hk => by omega⟩
        case round =>
          obtain ⟨j, v, hj, rfl, rfl, hB, hbx, hrl, hnz, hcool⟩ := hrel
          obtain ⟨wa, hwr⟩ : ∃ x, x = wr := ⟨_, rfl⟩
          subst hwr
          have HCO := Lib.hid hcool
          have HRL := Lib.hid hrl
          have HNV := Lib.hid hnz
          have HBX := Lib.hid hbx
          have hwa : Hid (watchB h (roundR xs ds j) = true) := watch_round HW.out j hcool
          have haj : Hid (askE h (roundR xs ds j) ds = 0) := ask_valid hwa.out h60 (by rw [turnB_ids (roundR_ids xs ds j)]; exact HALL.out)
          have n0 := cell_of_heap (o := 0) hbx rfl
          have n1 := cell_of_heap (o := 1) hbx rfl
          have hgs : gN < wa.heap.size := lt_of_heap hbx
          obtain ⟨pv, cv, rfl, _, _⟩ := hrl
          clear hcool hnz hbx
          by_cases hlt : j < 7
          · have hj7 : (j : Int) < 7 := by omega
            have hjw : IntKind.i64.wrap ((j : Int) + 1) = (j : Int) + 1 := IntWalk.i64_in _ (by omega)
            have haf := aftP_any h (roundR xs ds j) ds _ (.slice q6 ds.length c6) wa (FA wa hB).2.2.2.1.out HRL.out HNV.out (((FA wa hB).1).out.dz (by unfold maxLen; omega) (fun d hd => day_max HW.out HALL.out hd)).dl (by omega)
            cases hc : coolD (roundR xs ds j) ds with
            | true =>
              have hlen : (roundR xs ds j).length ≤ 4 := (watchB_iff.1 hwa.out).2.1
              have hwe : Hid (watchB h (endR (roundR xs ds j) ds) = true) := watch_cool hwa.out hc
              have HC9 := Lib.hid hc
              obtain ⟨a1, a2, a3⟩ := aft_cool haj.out hc
              rw [a1, a2, a3] at haf
              have HAF := Lib.hid haf
              have f0 : wa.frozen? ⟨gN, 0, none⟩ = false := frozen_of_heap (o := 0) HBX.out
              have f1 : wa.frozen? ⟨gN, 1, none⟩ = false := frozen_of_heap (o := 1) HBX.out
              clear a1 a2 a3 haf hc
              go_wp2_with fail
              refine HAF.out.mono ?_
              rintro e wb ⟨⟨v2, rfl, ho2⟩, hB6⟩
              obtain ⟨q8, c8, rfl⟩ := row_slice ho2
              have KA : Free.Bel wa (wb.alloc (.cells #[.int .i64 h, .slice q8 (endR (roundR xs ds j) ds).length c8] 24)) := bt hB6 (belAlloc _ _)
              have hr7 := bel_row ho2 (belAlloc wb (.cells #[.int .i64 h, .slice q8 (endR (roundR xs ds j) ds).length c8] 24))
              have HR7 := Lib.hid hr7
              have HB6 := Lib.hid hB6
              have h6s : wa.heap.size ≤ wb.heap.size := hB6.size
              clear ho2 hr7 hB6
              go_wp2_with fail
              refine (watchR_v h _ _ _ (RL.of_row rfl (by rw [endR_length]; unfold maxLen; omega) HR7.out) true hwe).mono ?_
              rintro e wd ⟨rfl, hB7⟩
              have K7 : Free.Bel wa wd := bt KA hB7
              have m0 := keepsB K7 n0
              have m1 := keepsB K7 n1
              have g0 : wd.frozen? ⟨gN, 0, none⟩ = false := (K7.frozen (p := ⟨gN, 0, none⟩) hgs).trans f0
              have g1 : wd.frozen? ⟨gN, 1, none⟩ = false := (K7.frozen (p := ⟨gN, 1, none⟩) hgs).trans f1
              have x0 : wd.cell? ⟨wb.heap.size, 0, none⟩ = some (.int .i64 h) := keepsB hB7 (by simp [go_sem])
              have x1 : wd.cell? ⟨wb.heap.size, 1, none⟩ = some (.slice q8 (endR (roundR xs ds j) ds).length c8) := keepsB hB7 (by simp [go_sem])
              have HR9 := Lib.hid (bel_row HR7.out hB7)
              have HK7 := Lib.hid K7
              have HBN := Lib.hid ((K7.block gN hgs).trans HBX.out)
              clear KA hB7 K7 f0 f1 n0 n1
              go_wp2_with fail
              go_roundw
              case rel => exact ⟨j + 1, .slice q8 (endR (roundR xs ds j) ds).length c8, by omega, by go_num, rfl, by
                have h9 : Free.Bel w5 wd := bt hB HK7.out
                have h8 := HGN.out
                exact (Below.setCell (p := ⟨gN, 0, none⟩) h9 (by simp; omega) _).setCell (p := ⟨gN, 1, none⟩) (by simp; omega) _, by
                have h9 := heap_setCell_same (o := 1) (.slice q8 (endR (roundR xs ds j) ds).length c8) (heap_setCell_same (o := 0) (.int .i64 h) HBN.out)
                simpa using h9, RL.of_row (xs := endR (roundR xs ds j) ds) rfl (by rw [endR_length]; unfold maxLen; omega) (ownsRow_setCell_below (ownsRow_setCell_below HR9.out (by simp; omega) _) (by simp; omega) _), NZ.row HR9.out, fun k hk => by
                rcases Nat.lt_or_eq_of_le (Nat.lt_succ_iff.1 hk) with h9 | h9
                · exact HCO.out k h9
                · subst h9; exact HC9.out⟩
              case measure => simp [intOf]; omega
            | false =>
              obtain rfl : rr = false := by
                cases rr with
                | false => rfl
                | true =>
                  have h9 := (repN_round ds 7 xs).1 HRR.out.symm j hlt
                  rw [hc] at h9; cases h9
              obtain ⟨a1, a2, a3⟩ := aft_warm haj.out hc
              rw [a1, a2, a3] at haf
              have HAF := Lib.hid haf
              clear a1 a2 a3 haf hc
              go_wp2_with fail
              refine HAF.out.mono ?_
              rintro e wb ⟨⟨v2, rfl, ho2⟩, hB6⟩
              obtain ⟨q8, c8, rfl⟩ : ∃ q c, v2 = .slice q 0 c := row_slice ho2
              have KA : Free.Bel wa (wb.alloc (.cells #[.int .i64 0, .slice q8 0 c8] 24)) := bt hB6 (belAlloc _ _)
              have K8 : Free.Bel w5 (wb.alloc (.cells #[.int .i64 0, .slice q8 0 c8] 24)) := bt hB KA
              clear ho2 hB6 n0 n1
              go_wp2_with fail
              generalize wb.alloc (.cells #[.int .i64 0, .slice q8 0 c8] 24) = we at *
              have HB_we := Lib.hid (HB_w5.out.trans ((K8).mono hz_w5))
              have hz_we : bb ≤ we.heap.size := Nat.le_trans hz_w5 (K8).size
              have FN := fun (W : World) (hW : Free.Bel we W) => FA W (bt (K8) hW)
              clear FA HB_w5 hz_w5 KR
              have FA := FN
              clear FN
              have KR := Free.Bel.refl we
              clear K8
              obtain ⟨re, hre⟩ : ∃ y, everB h xs = y := ⟨_, rfl⟩
              have HRE := Lib.hid hre
              clear hre
              refine (can_at h xs _ we (FA we (Free.Bel.refl _)).2.2.2.1.out (FA we (Free.Bel.refl _)).2.2.2.2.1.out HW.out re HRE).mono ?_
              rintro e w6 ⟨rfl, hB⟩
              have HB_w6 := Lib.hid (HB_we.out.trans ((hB).mono hz_we))
              have hz_w6 : bb ≤ w6.heap.size := Nat.le_trans hz_we (hB).size
              have FN := fun (W : World) (hW : Free.Bel w6 W) => FA W (bt (hB) hW)
              clear FA HB_we hz_we KR
              have FA := FN
              clear FN
              have KR := Free.Bel.refl w6
              clear hB
              go_wp2_with fail
              go_ret
              have hbb := HBB.out
              subst hbb
              exact ⟨rfl, HB_w6.out⟩
          · obtain rfl : j = 7 := by omega
            obtain rfl : rr = true := by rw [HRR.out]; exact (repN_round ds 7 xs).2 HCO.out
            clear n0 n1 hlt hj
            have HB_wa := Lib.hid (HB_w5.out.trans ((hB).mono hz_w5))
            have hz_wa : bb ≤ wa.heap.size := Nat.le_trans hz_w5 (hB).size
            have FN := fun (W : World) (hW : Free.Bel wa W) => FA W (bt (hB) hW)
            clear FA HB_w5 hz_w5 KR
            have FA := FN
            clear FN
            have KR := Free.Bel.refl wa
            clear hB
            go_wp2_with fail
            obtain ⟨re, hre⟩ : ∃ y, everB h xs = y := ⟨_, rfl⟩
            have HRE := Lib.hid hre
            clear hre
            refine (can_at h xs _ wa (FA wa (Free.Bel.refl _)).2.2.2.1.out (FA wa (Free.Bel.refl _)).2.2.2.2.1.out HW.out re HRE).mono ?_
            rintro e w7 ⟨rfl, hB⟩
            have HB_w7 := Lib.hid (HB_wa.out.trans ((hB).mono hz_wa))
            have hz_w7 : bb ≤ w7.heap.size := Nat.le_trans hz_wa (hB).size
            have FN := fun (W : World) (hW : Free.Bel w7 W) => FA W (bt (hB) hW)
            clear FA HB_wa hz_wa KR
            have FA := FN
            clear FN
            have KR := Free.Bel.refl w7
            clear hB
            obtain rfl : re = true := by rw [← HRE.out]; exact rep_ever HW.out HD0.out HALL.out HRR.out.symm
            go_wp2_with fail
            go_ret
            have hbb := HBB.out
            subst hbb
            exact ⟨rfl, HB_w7.out⟩
end Go.Proofs.YtknpglgpkkhhiaaDoor

/- For every input the law RoundRepeats returns true, and its arguments read behind the call as they read before; what a watch is asked lies in the table as the program's text lays it (tied). Condition: that table. -/
namespace Go.Proofs.YtknpglgpkkhhiaaDoor.lawRoundRepeats
open Go Go.ChangeShapes Go.WideShapes Go.ChangeAt Go.RowKit
set_option linter.unusedVariables false
set_option linter.unusedSimpArgs false

set_option maxRecDepth 100000 in
theorem contract (H : Type) (enc : TypeId × Value → H) (W : World) (base : Nat) (args : Array Value) (ds gs : List (DataW H)) (before : List MemPlace)
    (hval : ∀ (j : Nat) t v, Tryd.f13.params[j]? = some t → args[j]? = some v → Value.okWide Tryd.prog W .any base t v)
    (hW : DataW.Whole enc Tryd.prog Tryd.f13.params.toList Rows.roundRepeatsSpec.vars false W args.toList ds gs before) (hL : laidMetH Tryd.prog Rows.roundRepeatsRow.laid W) :
    Calls Tryd.prog 13 args W fun e W' => ∃ v, e = .returned v ∧ Rows.roundRepeatsSpec.post enc Tryd.prog Tryd.f13 false true false false W args v W' := by
  have hW' := hW
  obtain ⟨p, q, hA0, hV, rfl, hfz, hnd⟩ := hW
  have hA : DataW.TrodAll enc Tryd.prog W 0 (fun _ => true) true Tryd.f13.params.toList args.toList ds p := hA0
  have hAk := hA
  rw [Tryd.params13] at hA hval
  obtain ⟨v0, vs0, d0, ds0, p0, q0, hargs, rfl, rfl, h0, r0⟩ := trodAll_cons hA
  obtain ⟨v1, vs1, d1, ds1, p1, q1, rfl, rfl, rfl, h1, r1⟩ := trodAll_cons r0
  obtain ⟨rfl, rfl, rfl⟩ := trodAll_nil r1
  obtain rfl : args = #[v0, v1] := by cases args; simp_all
  obtain ⟨rfl, rfl⟩ := trodVars_none hV
  have hlt : ∀ x ∈ p0 ++ (p1 ++ ([])), x.block < W.heap.size := fun x hx => by
    have := hW'.lt x (by simpa using hx)
    simpa using this
  obtain ⟨a0, b0, y0, z0, n0, rfl, _, _, g0, k0⟩ := Joins.open_agg2 Tryd.underlying24 (by kernel_rfl) (by kernel_rfl) (hval 0 24 _ rfl rfl) h0
  obtain ⟨h, ea0, _, _⟩ := DataW.trod_int Tryd.underlying3 g0
  simp at ea0
  subst ea0
  obtain ⟨xs, pp0, cap0, eb0, hrl0, hnz0⟩ := ricks_open Tryd.underlying22 Tryd.underlying47 (by kernel_rfl) rfl rfl rfl (by kernel_rfl) (by kernel_rfl) (by kernel_rfl) Tryd.underlying3 Tryd.underlying3 Tryd.underlying3 k0
  obtain ⟨a1, len1, cap1, rfl⟩ := okWide_slice Tryd.underlying98 (hval 1 98 _ rfl rfl)
  obtain ⟨fuel1, hf1⟩ := h1
  obtain ⟨bs, hbl1⟩ := bytes_open Tryd.underlying98 Tryd.underlying5 (by kernel_rfl) (by simpa [Value.cells] using hf1)
  refine (repL_walk h xs bs _ _ W (Tab.of_laid hL) hrl0 hnz0 hbl1).mono fun e W' ⟨he, hg⟩ => ?_
  subst he
  refine ⟨_, rfl, _, _, _, [], p0 ++ (p1 ++ ([])), [], hW', ?_, ?_, ?_, hg.frame _, fun h => by cases h⟩
  · exact trodAll_cons_mk (shut_bool Tryd.underlying4 true) trodAll_mk0
  · exact Law.args_below Tab.laidOut (by kernel_rfl) hg hAk hlt
  · rfl

set_option maxRecDepth 100000 in
theorem lifted (os : Os) (started : os.Started) (H : Type) (enc : TypeId × Value → H) :
    ReturnsInHanded {} Tryd.checked os 13 .any (fun w args => (Rows.roundRepeatsSpec.pre enc Tryd.prog Tryd.f13 [] false w args ∧ laidMetH Tryd.prog Rows.roundRepeatsRow.laid w) ∧ sizedMet enc Tryd.prog Tryd.f13 (OpenSpec.ofChange Rows.roundRepeatsSpec) false w args) (Rows.roundRepeatsSpec.post enc Tryd.prog Tryd.f13 false true false false) := by
  refine returnsInHanded_of_change_and (C := Tryd.checked) (X := fun w _ => laidMetH Tryd.prog Rows.roundRepeatsRow.laid w) (fun _ _ _ hh h => h.of_heap hh) Tab.own started (by kernel_rfl) Tryd.func13
    (ChangeSpec.witness_shaped (enc := enc) (C := Tryd.checked) (os := os) (X := fun w _ => laidMetH Tryd.prog Rows.roundRepeatsRow.laid w) false (World.doorLaid Tryd.prog 17 os) #[.agg #[.int .i64 0, .slice none 0 0], .slice none 0 0] 8 rfl (World.shaped_of_RefB (by kernel_rfl) (by kernel_rfl)) (by kernel_rfl) (by kernel_rfl) (by kernel_rfl) (Tab.door_met os _)) ?_
  intro W base args ds gs before hval hW _ _ hL _
  exact contract H enc W base args ds gs before hval hW hL

theorem said : Rows.RoundRepeatsSaid :=
  OpenClaim.holds_of_wide 13 Tryd.f13 rfl rfl rfl rfl rfl rfl rfl ⟨rfl, rfl, rfl, rfl, rfl⟩ rfl rfl rfl rfl rfl (by kernel_rfl) Tryd.func13 (by kernel_rfl)
    (of_decide_eq_true (by kernel_rfl)) (by unfold Func.isWrapper; first | (rw [if_pos (by decide +kernel)]; kernel_rfl) | (rw [if_neg (by decide +kernel)]; exact ⟨rfl, rfl⟩))
    (fun os started H enc _ => lifted os started H enc)

theorem plain (f : FuncId) (fn : Func) (hf : Tryd.pinned.checked.prog.funcNamed "oilcake/oilcakelaw07.RoundRepeats" = some f) (hfn : Tryd.pinned.checked.prog.funcs[f]? = some fn) :
    false = Tryd.pinned.checked.prog.looks [] ∧ ∀ (j : Nat) t, fn.params[j]? = some t → Tryd.pinned.checked.prog.wantsStandIn t = false := by
  obtain rfl : f = 13 := Option.some.inj ((show Tryd.prog.funcNamed "oilcake/oilcakelaw07.RoundRepeats" = some 13 by kernel_rfl).symm.trans hf) |>.symm
  obtain rfl : fn = Tryd.f13 := (Option.some.inj (Tryd.func13.symm.trans hfn)).symm
  refine ⟨by kernel_rfl, fun j t ht => ?_⟩
  rw [Tryd.params13] at ht
  have hm := Array.mem_of_getElem? ht
  have hall : (Tryd.f13.params.toList.all fun u => !Tryd.prog.wantsStandIn u) = true := by kernel_rfl
  rw [Tryd.params13] at hall
  exact (show Tryd.prog.wantsStandIn t = false by simpa using List.all_eq_true.1 hall t (by simpa using hm))

theorem card : Rows.RoundRepeatsCardSaid :=
  Claim7.holds_tied_plain_at .later [] _ _ _ _ said (fun _ h => by cases h) (by kernel_rfl) (fun _ h => by cases h) roundRepeats_row_tie rfl ⟨rfl, rfl⟩ (by kernel_rfl) rfl plain (by kernel_rfl)
#print axioms card
end Go.Proofs.YtknpglgpkkhhiaaDoor.lawRoundRepeats

