/- For every input the law RoundProof returns true, and its arguments read behind the call as they read before; what a watch is asked lies in the table as the program's text lays it (tied). Condition: that table. -/
/- Plain law for chapter 07's last laws: turnings by numbers, days in two parts, days that repeat, the longest days, the plan. -/
import Derived.Test.YtknpglgpkkhhiaaDoorB8
import Derived.Laws.AppendOwnNone
import Derived.Deep.DeepCutAuto
import Derived.Test.YtknpglgpkkhhiaaDoorProg
import Derived.ChangeShapes
namespace Go.Proofs.YtknpglgpkkhhiaaDoor
set_option linter.unusedSimpArgs false
set_option linter.unusedVariables false

/-! ### Turnings by a number -/
/-- A part of the ricks ahead of the one with index k, not more than the hands. -/
def TurnK (h : Int) (xs : List Rk) (k : Nat) (l : List Int) : Prop := (l.length : Int) ≤ h ∧ l.Pairwise (· < ·) ∧ ∀ a ∈ l, ∃ i, i < k ∧ i < xs.length ∧ idAt xs i = a
theorem TurnK.zero {h : Int} {xs : List Rk} (h0 : 0 ≤ h) : TurnK h xs 0 [] := ⟨by simpa using h0, .nil, fun a ha => by cases ha⟩
theorem TurnK.add {h : Int} {xs : List Rk} {k : Nat} {l : List Int} (hw : watchB h xs = true) (H : TurnK h xs k l) (hk : k < xs.length) (hl : (l.length : Int) < h) : TurnK h xs (k + 1) (l ++ [xs[k].1]) := by
  obtain ⟨_, _, h3⟩ := watchB_iff.1 hw
  have e : idAt xs k = xs[k].1 := by simp [idAt, hk]
  refine ⟨by simp; omega, ?_, fun a ha => ?_⟩
  · rw [List.pairwise_append]
    refine ⟨H.2.1, List.pairwise_singleton _ _, fun a ha b hb => ?_⟩
    obtain ⟨i, h1, h2, rfl⟩ := H.2.2 a ha
    obtain rfl : b = xs[k].1 := by simpa using hb
    rw [← e]
    exact (idAt_mono h3 i k h2 hk).2.2 h1
  · rcases List.mem_append.1 ha with ha | ha
    · obtain ⟨i, h1, h2, h4⟩ := H.2.2 a ha
      exact ⟨i, by omega, h2, h4⟩
    · obtain rfl : a = xs[k].1 := by simpa using ha
      exact ⟨k, by omega, hk, e⟩
theorem turnB_ids {h : Int} {xs ys : List Rk} (e : ys.map (·.1) = xs.map (·.1)) : turnB h ys = turnB h xs := by
  funext q; unfold turnB; rw [turnF_ids e]

/-! ### Whether no rick becomes hot -/
def coolD (xs : List Rk) (ds : List (List Int)) : Bool := (heatR 0 xs ds).isEmpty
theorem coolD_iff {xs : List Rk} {ds : List (List Int)} : coolD xs ds = true ↔ ∀ x ∈ xs, coolW x ds = true := heat_empty xs ds
theorem coolD_cons {xs : List Rk} {d : List Int} {r : List (List Int)} : coolD xs (d :: r) = true ↔ coolB (dayR d xs) = true ∧ coolD (dayR d xs) r = true := by
  rw [coolD_iff, coolD_iff, cool_mem]
  constructor
  · intro H
    refine ⟨fun x hx => ?_, fun z hz => ?_⟩
    · have := H x hx
      simp only [coolW, Bool.and_eq_true, bne_iff_ne] at this
      exact this.1
    · obtain ⟨x, hx, rfl⟩ := List.mem_map.1 hz
      have := H x hx
      simp only [coolW, Bool.and_eq_true, bne_iff_ne] at this
      exact this.2
  · rintro ⟨h1, h2⟩ x hx
    simp only [coolW, Bool.and_eq_true, bne_iff_ne]
    exact ⟨h1 x hx, h2 _ (List.mem_map.2 ⟨x, hx, rfl⟩)⟩
theorem coolD_append {xs : List Rk} : ∀ {a b : List (List Int)}, coolD xs (a ++ b) = true ↔ coolD xs a = true ∧ coolD (endR xs a) b = true := by
  intro a
  induction a generalizing xs with
  | nil => intro b; simp [coolD, heatR, endR]
  | cons d r ih => intro b; rw [List.cons_append, coolD_cons, coolD_cons, ih]; simp only [endR, and_assoc]
theorem aft_cool {h : Int} {xs : List Rk} {ds : List (List Int)} (ha : askE h xs ds = 0) (hc : coolD xs ds = true) : aftE h xs ds = 0 ∧ aftH h xs ds = h ∧ aftL h xs ds = endR xs ds := by
  have h1 : aftE h xs ds = 0 := by unfold aftE; rw [if_pos ha, if_pos (show (heatR 0 xs ds).isEmpty = true from hc)]
  exact ⟨h1, by rw [aftH, if_pos h1], by rw [aftL, if_pos h1]⟩
theorem ask_valid {h : Int} {xs : List Rk} {ds : List (List Int)} (hw : watchB h xs = true) (hl : ds.length ≤ 60) (hv : ds.all (turnB h xs) = true) : askE h xs ds = 0 := askE_zero.2 ⟨hw, by simp [validB, hl]; simpa using hv⟩

/-! ### Days in two parts -/
/-! ### Days that repeat -/
/-! ### The longest days -/
/-! ### The plan -/
theorem plan_state {h : Int} {xs : List Rk} (hw : watchB h xs = true) (he : everB h xs = true) : ∀ n, watchB h (planS h xs n) = true ∧ everB h (planS h xs n) = true ∧ (planS h xs n).map (·.1) = xs.map (·.1)
  | 0 => ⟨hw, he, rfl⟩
  | n + 1 => by
    obtain ⟨h1, h2, h3⟩ := plan_state hw he n
    obtain ⟨_, h5, h6, h7⟩ := ever_step h2
    exact ⟨watch_day h1 h6, h7, (dayR_ids _ _).trans h3⟩
theorem plan_turn {h : Int} {xs : List Rk} (hw : watchB h xs = true) (he : everB h xs = true) (k : Nat) : turnB h xs (stepE h (planS h xs k)) = true := by
  obtain ⟨h1, h2, h3⟩ := plan_state hw he k
  obtain ⟨_, h5, _, _⟩ := ever_step h2
  rw [← turnB_ids h3]
  exact (mem_daysL h1).1 h5
theorem plan_valid {h : Int} {xs : List Rk} (hw : watchB h xs = true) (he : everB h xs = true) (n : Nat) : (planL h xs n).all (turnB h xs) = true := by
  rw [List.all_eq_true]
  intro d hd
  simp only [planL, List.mem_map, List.mem_range] at hd
  obtain ⟨k, _, rfl⟩ := hd
  exact plan_turn hw he k
theorem plan_cool {h : Int} {xs : List Rk} (hw : watchB h xs = true) (he : everB h xs = true) : ∀ n, coolD xs (planL h xs n) = true
  | 0 => rfl
  | n + 1 => by
    rw [planL_succ, coolD_append, planS_end]
    refine ⟨plan_cool hw he n, coolD_cons.2 ⟨?_, rfl⟩⟩
    obtain ⟨h1, h2, h3⟩ := plan_state hw he n
    exact (ever_step h2).2.2.1
theorem plan_days {h : Int} {xs : List Rk} (i j : Nat) (hij : i ≤ j) : planL h xs i ++ planL h (planS h xs i) (j - i) = planL h xs j := by
  rw [← planL_add]; congr 1; omega
theorem plan_bound {h : Int} {xs : List Rk} (hw : watchB h xs = true) (he : everB h xs = true) {j : Nat} (hd : ∀ a b, a < b → b < j → planS h xs a ≠ planS h xs b) : (j : Int) ≤ prodE xs := by
  have hok := watchB_ok hw
  have hst0 : StOf xs xs := ⟨rfl, fun x hx => by have := hok x hx; unfold okR at this; omega⟩
  have hst := fun n => (planS_ever hst0 he n).1
  have hpos : 1 ≤ prodE xs := (prodE_bound (xs := xs) fun x hx => by have := hok x hx; unfold okR at this; omega).1
  have hb : ∀ n, 0 ≤ codeR (planS h xs n) ∧ codeR (planS h xs n) < prodE xs := fun n => by
    have := code_bound (hst n).2
    rwa [prodE_same (hst n).1] at this
  have hn : ((List.range j).map fun k => (codeR (planS h xs k)).toNat).Nodup := by
    rw [List.Nodup, List.pairwise_map]
    refine List.Pairwise.imp_of_mem (fun {a b} ha hb' hab => ?_) (List.pairwise_lt_range (n := j))
    intro e
    have e2 : codeR (planS h xs a) = codeR (planS h xs b) := by
      have := hb a; have := hb b; omega
    have e3 := at_code (hst a)
    rw [e2, at_code (hst b)] at e3
    exact hd a b hab (List.mem_range.1 hb') e3.symm
  have := nodup_sub_length (L := List.range (prodE xs).toNat) hn fun a ha => by
    obtain ⟨k, _, rfl⟩ := List.mem_map.1 ha
    have := hb k
    exact List.mem_range.2 (by omega)
  simp only [List.length_map, List.length_range] at this
  omega
end Go.Proofs.YtknpglgpkkhhiaaDoor

/- The reference's TwinDays. -/
namespace Go.Proofs.YtknpglgpkkhhiaaDoor
set_option linter.unusedSimpArgs false
set_option linter.unusedVariables false
open Go.RowKit Go.Proofs.YtknpglgpkkhhiaaDoor.Free2

theorem T.infoSl : (Tryd.prog.info? 58).map (fun i => (i.zero, i.size, i.bytes)) = some (some (.slice none 0 0), 1, 24) := by kernel_rfl
/-- Slices of these lists, none of which lies in the row v. -/
def Elts (v : Value) (ds : List (List Int)) (us : List Value) (W : World) : Prop := us.length = ds.length ∧ ∀ i (h : i < ds.length) (h' : i < us.length), IL ds[i] us[i] W ∧ (ds[i] ≠ [] → ∀ a n c, us[i] = .slice (some a) n c → Off v a.block ∧ a.block < W.heap.size)
theorem Elts.dl {v : Value} {ds : List (List Int)} {us : List Value} {W : World} {base : Nat} {e : TypeId} (h : Elts v ds us W) (hr : W.ownsRow base e 1 v ds.length us) (hm : ds.length ≤ maxLen) : DL ds v W := by
  rcases hr.2 with ⟨rfl, h0⟩ | ⟨g, cap, cur, rfl, _, hg, _⟩
  · have : ds = [] := List.eq_nil_of_length_eq_zero h0
    subst this
    exact DL.nil W
  · refine ⟨_, cap, rfl, hm, fun _ => ⟨g, 0, rfl, fun k hk => ?_⟩⟩
    have hk2 : k < us.length := by rw [h.1]; exact hk
    have hc := hr.cells (g := g) rfl k us[k] (by simp [hk2])
    exact ⟨us[k], by simpa [Addr.add_lit] using hc, (h.2 k hk hk2).1⟩

end Go.Proofs.YtknpglgpkkhhiaaDoor

/- Can, at a valid watch. -/
namespace Go.Proofs.YtknpglgpkkhhiaaDoor
set_option linter.unusedSimpArgs false
set_option linter.unusedVariables false
open Go.RowKit

theorem can_at (h : Int) (xs : List Rk) (u : Value) (w : World) (hT : TabR w) (hu : RL xs u w) (hw : watchB h xs = true) (r : Bool) (hr : Hid (everB h xs = r)) :
    Calls Tryd.prog 32 #[.agg #[.int .i64 h, u]] w fun e w' => e = .returned (.tuple #[.bool r, .int .i64 0]) ∧ Below w.heap.size w w' :=
  canP_v h xs u w hT hu 0 r (by rw [hw, hr.out]; exact ⟨rfl, rfl⟩)
end Go.Proofs.YtknpglgpkkhhiaaDoor

/- append(own, xs...) behind a guard, xs nil or not; an own row's cells. -/
namespace Go.Proofs.YtknpglgpkkhhiaaDoor
set_option linter.unusedSimpArgs false
set_option linter.unusedVariables false
open Go.RowKit Go.Proofs.YtknpglgpkkhhiaaDoor.Free2

theorem wpList_append_any {P : Program} {ops : Array Oper} {rest : List Oper} {o : Oper} {a : Act} {Q : Exit → Act → World → Prop} {w : World} (hgd : Region.wanted o (yielded ops a.tmps) = true) (s x : Operand) (t : TypeId)
    (ho : o.op = .call { callee := .builtin .append, args := #[s, x], argTypes := #[t, t] })
    (base : Nat) (e : TypeId) (i : TypeInfo) (z : Value) (size bytes : Nat) (ht : P.underlying t = some (.slice e)) (hi : P.info? e = some i) (hz : i.zero = some z)
    (hsize : i.size = size) (hby : i.bytes = bytes) (hzs : z.cells.size = size) (hsz : 0 < size)
    (v : Value) (n : Nat) (xs : List Value) (hs : a.eval s = v) (hown : w.ownsRow base e size v n xs)
    (p : Option Addr) (m c : Nat) (news : List Value) (hx : a.eval x = .slice p m c) (hl : news.length = m * size) (hp : ∀ ad, p = some ad → ∀ j u, news[j]? = some u → w.cell? (ad.add j) = some u) (hnil : p = none → m = 0 ∧ c = 0) (h1 : ∀ u ∈ news, u.oneCell' = true)
    (h63 : n + m ≤ maxLen) (hbytes : (n + m) * bytes ≤ 140737488355328) (hbase : base ≤ w.heap.size)
    (h : ∀ v' w', w'.ownsRow base e size v' (n + m) (xs ++ news) → Below base w w' → wpList P ops Q rest (a.put o.dst v') w') : wpList P ops Q (o :: rest) a w := by
  refine wpList_step fun K hK => ?_
  rw [if_pos hgd]
  cases p with
  | none =>
    obtain ⟨rfl, rfl⟩ := hnil rfl
    have hn : news = [] := List.eq_nil_of_length_eq_zero (by simpa using hl)
    subst hn
    have hrun := run_append_owned_none (P := P) (w := w) base t o.type e i size ht hi v n xs hown
    unfold Oper.wp
    simp [execOp, ho, resolve, invoke, builtin, hs, hx, hrun, Result.andThen]
    exact hK _ _ (h v w (by simpa using hown) (Below.refl _ _))
  | some ad =>
    exact wp_append_own w s x t ho base e i z size bytes ht hi hz hsize hby hzs hsz v n xs hs hown ad m c news hx hl (hp ad rfl) h1 h63 hbytes hbase fun v' w' h2 h3 _ => hK _ _ (h v' w' h2 (grown_belR hown h3 hbase))
end Go.Proofs.YtknpglgpkkhhiaaDoor

/- Days as the source of an append. -/
namespace Go.Proofs.YtknpglgpkkhhiaaDoor
set_option linter.unusedSimpArgs false
set_option linter.unusedVariables false
open Go.RowKit Go.Proofs.YtknpglgpkkhhiaaDoor.Free2

theorem dz_src {ds : List (List Int)} {p : Option Addr} {c : Nat} {w : World} (h : DZ ds (.slice p ds.length c) w) : ∃ vs : List Value, vs.length = ds.length ∧ (∀ W, Below w.heap.size w W → ∀ ad, p = some ad → ∀ j u, vs[j]? = some u → W.cell? (ad.add j) = some u) ∧ (p = none → ds.length = 0 ∧ c = 0) ∧ (∀ u ∈ vs, u.oneCell' = true) ∧ ∀ (i : Nat) (h : i < ds.length) u, vs[i]? = some u → IL ds[i] u w := by
  obtain ⟨p', c', he, hm, h0, hc⟩ := h
  cases he
  by_cases hx : ds = []
  · subst hx
    exact ⟨[], rfl, fun W _ ad _ j u hj => (by simp at hj), fun e => h0 e, fun u hu => (by cases hu), fun i hi => (by simp at hi)⟩
  · obtain ⟨b, off, rfl, hk⟩ := hc hx
    have each : ∀ i, i < ds.length → ∃ q : Value, w.cell? ⟨b, off + i, none⟩ = some q ∧ ∃ hi : i < ds.length, IL ds[i] q w := fun i hi => let ⟨u, h1, h2, _⟩ := hk i hi; ⟨u, h1, hi, h2⟩
    obtain ⟨q, hq⟩ := Deep.choose_lt each
    have hget : ∀ (j : Nat) u, ((List.range ds.length).map q)[j]? = some u → j < ds.length ∧ u = q j := fun j u hj => by
      obtain ⟨h1, h2⟩ := List.getElem?_eq_some_iff.1 hj
      have h3 : j < ds.length := by simpa using h1
      exact ⟨h3, by rw [← h2]; simp⟩
    refine ⟨(List.range ds.length).map q, by simp, fun W hW ad ha j u hj => ?_, fun e => (by cases e), fun u hu => ?_, fun i hi u hu => ?_⟩
    · cases ha
      obtain ⟨h1, rfl⟩ := hget j u hj
      rw [addE]
      exact keepsB hW (hq j h1).1
    · obtain ⟨i, hi, rfl⟩ := List.mem_map.1 hu
      obtain ⟨_, hi2, p, cap, he, _⟩ := hq i (List.mem_range.1 hi)
      rw [he]
      rfl
    · obtain ⟨h1, rfl⟩ := hget i u hu
      obtain ⟨_, _, h2⟩ := hq i h1
      exact h2
end Go.Proofs.YtknpglgpkkhhiaaDoor

/- cool, of chapter 07's laws. -/
namespace Go.Proofs.YtknpglgpkkhhiaaDoor
set_option linter.unusedSimpArgs false
set_option linter.unusedVariables false
open Go.RowKit Go.Proofs.YtknpglgpkkhhiaaDoor.Free2

theorem RL.other {xs : List Rk} {v x : Value} {w : World} {g o : Nat} (h : RL xs v w) (hn : xs ≠ [] → ∀ a n c, v = .slice (some a) n c → a.block ≠ g) : RL xs v (w.setCell ⟨g, o, none⟩ x) :=
  let ⟨p, cap, h1, h2, h3⟩ := h
  ⟨p, cap, h1, h2, fun hx => let ⟨b, off, h4, h5⟩ := h3 hx
    have hne : b ≠ g := hn hx ⟨b, off, none⟩ xs.length cap (by subst h4; exact h1)
    have hc : ∀ (o' : Nat) (y : Value), w.cell? ⟨b, o', none⟩ = some y → (w.setCell ⟨g, o, none⟩ x).cell? ⟨b, o', none⟩ = some y := fun o' y hy => (World.cell?_of_block (Below.heap_setCell _ _ _ _ (by simpa using hne))).trans hy
    ⟨b, off, h4, fun k hk => ⟨hc _ _ (h5 k hk).1, hc _ _ (h5 k hk).2.1, hc _ _ (h5 k hk).2.2⟩⟩⟩
end Go.Proofs.YtknpglgpkkhhiaaDoor

/- Turnings are few. -/
namespace Go.Proofs.YtknpglgpkkhhiaaDoor
open Go.RowKit

end Go.Proofs.YtknpglgpkkhhiaaDoor

/- Plain law: the round is a proof. -/
namespace Go.Proofs.YtknpglgpkkhhiaaDoor
set_option linter.unusedSimpArgs false
set_option linter.unusedVariables false
open Go.Proofs.YtknpglgpkkhhiaaDoor.ML RR

theorem plan_rest (h : Int) (xs : List Rk) {i j : Nat} (hij : i ≤ j) : (planL h xs j).drop i = planL h (planS h xs i) (j - i) := by
  rw [← plan_days i j hij, List.drop_left' (planL_length h xs i)]
theorem plan_all (h : Int) (xs : List Rk) {i j : Nat} (hij : i ≤ j) : planL h xs i ++ (planL h xs j).drop i = planL h xs j := by
  rw [plan_rest h xs hij, plan_days i j hij]
/-- What was waited before the first k days. -/
noncomputable def seenK (h : Int) (xs : List Rk) (k : Nat) : List Q4 := (List.range k).map fun m => q4 (waits (planS h xs m))
theorem seenK_succ (h : Int) (xs : List Rk) (k : Nat) : seenK h xs (k + 1) = seenK h xs k ++ [q4 (waits (planS h xs k))] := by simp [seenK, List.range_succ]
theorem plan_st {h : Int} {xs : List Rk} (hw : watchB h xs = true) (he : everB h xs = true) (k : Nat) : StOf xs (planS h xs k) :=
  (planS_ever (ys := xs) ⟨rfl, fun x hx => by have := watchB_ok hw x hx; unfold okR at this; omega⟩ he k).1
/-- What is waited before the next day was not waited before. -/
theorem seen_new {h : Int} {xs : List Rk} (hw : watchB h xs = true) (he : everB h xs = true) {i j k : Nat} (H : RoundIs h xs i j) (hk : k < j) : q4 (waits (planS h xs k)) ∉ seenK h xs k := by
  intro hm
  simp only [seenK, List.mem_map, List.mem_range] at hm
  obtain ⟨m, hmk, e⟩ := hm
  have h4 := (watchB_iff.1 hw).2.1
  exact H.2.2 m k hmk hk (q4_inj (plan_st hw he m).1 (plan_st hw he k).1 h4 e)
/-- The round returns, and none becomes hot. -/
theorem round_again {h : Int} {xs : List Rk} (hw : watchB h xs = true) (he : everB h xs = true) {i j : Nat} (H : RoundIs h xs i j) : endR (planS h xs i) ((planL h xs j).drop i) = planS h xs i ∧ coolD (planS h xs i) ((planL h xs j).drop i) = true ∧ ((planL h xs j).drop i).all (turnB h (planS h xs i)) = true ∧ (planL h xs j).drop i ≠ [] := by
  obtain ⟨h1, h2, h3⟩ := plan_state hw he i
  rw [plan_rest h xs (Nat.le_of_lt H.1)]
  refine ⟨?_, plan_cool h1 h2 _, plan_valid h1 h2 _, fun e => ?_⟩
  · rw [planS_end, planS_shift, show i + (j - i) = j by have := H.1; omega]
    exact H.2.1
  · have h9 := congrArg List.length e
    rw [planL_length, List.length_nil] at h9
    have := H.1
    omega
theorem round_rep {h : Int} {xs : List Rk} (hw : watchB h xs = true) (he : everB h xs = true) {i j : Nat} (H : RoundIs h xs i j) (hl : j - i ≤ 60) : repE h (planS h xs i) ((planL h xs j).drop i) = 0 ∧ repB h (planS h xs i) ((planL h xs j).drop i) = true := by
  obtain ⟨h1, h2, h3⟩ := plan_state hw he i
  obtain ⟨r1, r2, r3, r4⟩ := round_again hw he H
  have ha := ask_valid h1 (by rw [List.length_drop, planL_length]; exact hl) r3
  have e1 : repE h (planS h xs i) ((planL h xs j).drop i) = 0 := by
    unfold repE
    rw [if_pos ha, if_neg (by simpa using r4)]
  refine ⟨e1, ?_⟩
  unfold repB
  rw [e1, repN_of r1 r2]
  rfl
end Go.Proofs.YtknpglgpkkhhiaaDoor

/- RoundProof: the round is a proof. -/
namespace Go.Proofs.YtknpglgpkkhhiaaDoor
set_option linter.unusedSimpArgs false
set_option linter.unusedVariables false
open Go.RowKit Go.Proofs.YtknpglgpkkhhiaaDoor.Free2 Go.Proofs.YtknpglgpkkhhiaaDoor.ML RR

/-- A row that lies in none of the three blocks. -/
def AV (mb : Nat) (ys : List Rk) (v : Value) : Prop := ys ≠ [] → ∀ a n c, v = .slice (some a) n c → a.block < mb ∨ mb + 1 + 1 < a.block
/-- What lies there in a round. -/
structure PW (mb : Nat) (h : Int) (wz8 c00 : World) (L : List Q4) (v vb : Value) (W : World) : Prop where
  bel : Below mb c00 W
  rx : RX wz8.heap.size [mb, mb + 1, mb + 1 + 1] wz8 W
  b1 : W.heap[mb + 1]? = some (.cells #[.int .i64 h, v] 24 (0, 0))
  b2 : W.heap[mb + 1 + 1]? = some (.cells #[.int .i64 h, vb] 24 (0, 0))
  mp : MapIs quadV mb (setK L) W
section
variable {mb : Nat} {h : Int} {wz8 c00 W W' : World} {L L' : List Q4} {v vb v' : Value}
theorem PW.go (H : PW mb h wz8 c00 L v vb W) (hB : Free.Bel W W') : PW mb h wz8 c00 L v vb W' :=
  ⟨H.bel.trans (hB.mono (by have := lt_of_heap H.b1; omega)), RX.trans _ _ _ H.rx (RX.of_bel hB H.rx.size), (hB.block _ (lt_of_heap H.b1)).trans H.b1, (hB.block _ (lt_of_heap H.b2)).trans H.b2, H.mp.bel hB⟩
theorem PW.setB (H : PW mb h wz8 c00 L v vb W) : PW mb h wz8 c00 L v v' ((W.setCell ⟨mb + 1 + 1, 0, none⟩ (.int .i64 h)).setCell ⟨mb + 1 + 1, 1, none⟩ v') :=
  ⟨(H.bel.setCell (by simp; omega) _).setCell (by simp; omega) _, RX.trans _ _ _ (RX.trans _ _ _ H.rx (RX.set (by simp))) (RX.set (by simp)), heap_other (heap_other H.b1 (by simp)) (by simp), by have := heap_setCell_same (o := 1) v' (heap_setCell_same (o := 0) (.int .i64 h) H.b2); simpa using this, H.mp.of_block ((heap_setCell_other (by omega)).trans (heap_setCell_other (by omega)))⟩
theorem PW.setN (H : PW mb h wz8 c00 L v vb W) : PW mb h wz8 c00 L v' vb ((W.setCell ⟨mb + 1, 0, none⟩ (.int .i64 h)).setCell ⟨mb + 1, 1, none⟩ v') :=
  ⟨(H.bel.setCell (by simp) _).setCell (by simp) _, RX.trans _ _ _ (RX.trans _ _ _ H.rx (RX.set (by simp))) (RX.set (by simp)), by have := heap_setCell_same (o := 1) v' (heap_setCell_same (o := 0) (.int .i64 h) H.b1); simpa using this, heap_other (heap_other H.b2 (by simp)) (by simp), H.mp.of_block ((heap_setCell_other (by omega)).trans (heap_setCell_other (by omega)))⟩
theorem PW.map (H : PW mb h wz8 c00 L v vb W) (hg : W.grownBy W' (some mb)) (hm : MapIs quadV mb (setK L') W') : PW mb h wz8 c00 L' v vb W' :=
  ⟨H.bel.trans (Below.of_grown hg (by have := lt_of_heap H.b1; omega) fun r e => by cases e; exact Nat.le_refl _), RX.trans _ _ _ H.rx (RX.of_grown hg (.inr (by simp)) H.rx.size), heap_grown H.b1 hg (by simp), heap_grown H.b2 hg (by simp; omega), hm⟩
theorem RL.mapped {ys : List Rk} (hr : RL ys v W) (hg : W.grownBy W' (some mb)) (hn : ys ≠ [] → ∀ a n c, v = .slice (some a) n c → a.block ≠ mb) : RL ys v W' := by
  obtain ⟨p, cap, rfl, h2, h3⟩ := hr
  refine ⟨p, cap, rfl, h2, fun hx => ?_⟩
  obtain ⟨b, off, rfl, h5⟩ := h3 hx
  have hb := hn hx _ _ _ rfl
  refine ⟨b, off, rfl, fun k hk => ?_⟩
  have key : ∀ o x, W.cell? ⟨b, o, none⟩ = some x → W'.cell? ⟨b, o, none⟩ = some x := fun o x hc => (World.cell?_of_block (hg.block b (lt_of_cell hc) (by simpa using hb))).trans hc
  obtain ⟨c1, c2, c3⟩ := h5 k hk
  exact ⟨key _ _ c1, key _ _ c2, key _ _ c3⟩
end
theorem keys_mem {xs ys : List Rk} (h : SameKeys xs ys) {x : Rk} (hx : x ∈ ys) : ∃ x' ∈ xs, x'.1 = x.1 ∧ x'.2.1 = x.2.1 := by
  have h1 : (x.1, x.2.1) ∈ ys.map (fun x => (x.1, x.2.1)) := List.mem_map.2 ⟨x, hx, rfl⟩
  rw [h] at h1
  obtain ⟨x', h2, h3⟩ := List.mem_map.1 h1
  simp only [Prod.mk.injEq] at h3
  exact ⟨x', h2, h3⟩
theorem T.uSeenK : Tryd.prog.underlying 95 = some (.array 4 3) := by kernel_rfl
theorem T.uSeenA : Tryd.prog.underlying 94 = some (.map 95 4) := by kernel_rfl
theorem T.quadsA : KeyL Tryd.prog 95 quadV := quad_keys T.uSeenK T.uIntS T.cIntS
theorem prodE_snoc (x : Rk) : ∀ xs : List Rk, prodE (xs ++ [x]) = prodE xs * x.2.1
  | [] => by simp [prodE]
  | y :: r => by simp only [List.cons_append, prodE, prodE_snoc x r, Int.mul_assoc]
theorem prodE_small {xs : List Rk} (h : ∀ x ∈ xs, 1 ≤ x.2.1 ∧ x.2.1 ≤ 6) (hl : xs.length ≤ 4) : 1 ≤ prodE xs ∧ prodE xs ≤ 1296 := by
  have h9 := prodE_bound h
  refine ⟨h9.1, Int.le_trans h9.2 ?_⟩
  rcases (show xs.length = 0 ∨ xs.length = 1 ∨ xs.length = 2 ∨ xs.length = 3 ∨ xs.length = 4 by omega) with e | e | e | e | e <;> rw [e] <;> decide
set_option maxRecDepth 100000 in
set_option maxHeartbeats 32000000 in
theorem proofL_walk (h : Int) (xs : List Rk) (u : Value) (w : World) (hT : TabR w) (hu : RL xs u w) (hz : NZ u) :
    Calls Tryd.prog 8 #[.agg #[.int .i64 h, u]] w fun e w' => e = .returned (.bool true) ∧ Below w.heap.size w w' := by
  obtain ⟨i1, hi1, hy0, hy1, hy2⟩ := info_parts T.infoSl
  have HY := Lib.hid (And.intro hi1 (And.intro hy0 (And.intro hy1 hy2)))
  clear hi1 hy0 hy1 hy2
  have HNZ := Lib.hid hz
  have HTX := Lib.hid (fun (W : World) (hW : Below w.heap.size w W) => hT.bel hW)
  have HUX := Lib.hid (fun (W : World) (hW : Below w.heap.size w W) => hu.keeps hW)
  obtain ⟨p, cp, rfl, hm, hp⟩ := hu
  have HP := Lib.hid hp
  have HKX := Lib.hid (fun (W : World) (hW : Below w.heap.size w W) (a : Addr) (v : Value) (hv : w.cell? a = some v) => keepsB hW hv)
  clear hm hp hz hT
  have hB0 : Below w.heap.size w (w.alloc (.cells #[.int .i64 h, .slice p xs.length cp] 24)) := (Below.refl _ w).alloc (Nat.le_refl _) _
  have c0_0 : (w.alloc (.cells #[.int .i64 h, .slice p xs.length cp] 24)).cell? ⟨w.heap.size, 0, none⟩ = some (.int .i64 h) := by simp [go_sem]
  have c0_1 : (w.alloc (.cells #[.int .i64 h, .slice p xs.length cp] 24)).cell? ⟨w.heap.size, 1, none⟩ = some (.slice p xs.length cp) := by simp [go_sem]
  have HTB := Lib.hid (HTX.out _ hB0)
  go_enter Tryd.func8, Tryd.ntmps8
  go_wp2_with fail
  refine (alive_any _ HTB.out).mono ?_
  rintro e w1 ⟨rfl, hB1⟩
  have hBz : Below w.heap.size w w1 := hB0.trans (hB1.mono (by simp))
  have hzz : w.heap.size ≤ w1.heap.size := hBz.size
  have hzn : w.heap.size + 1 ≤ w1.heap.size := by have := hB1.size; simp at this; omega
  have kc0_0 := keepsB hB1 c0_0
  have kc0_1 := keepsB hB1 c0_1
  clear hB0 hB1 HTB c0_0 c0_1
  generalize hbb : w.heap.size = bb at *
  have HBB := Lib.hid hbb
  clear hbb
  have HB_w1 := Lib.hid (show Below bb w w1 from hBz)
  have hz_w1 : bb ≤ w1.heap.size := hzz
  have FA : ∀ W, Free.Bel w1 W → W.cell? ⟨bb, 0, none⟩ = some (.int .i64 h) ∧ W.cell? ⟨bb, 1, none⟩ = some (.slice p xs.length cp) ∧ Hid (TabR W) ∧ Hid (RL xs (.slice p xs.length cp) W) ∧ bb + 1 ≤ W.heap.size ∧ bb ≤ W.heap.size := fun W hW => ⟨keepsB hW kc0_0, keepsB hW kc0_1, Lib.hid (HTX.out W (hBz.trans (hW.mono hzz))), Lib.hid (HUX.out W (hBz.trans (hW.mono hzz))), Nat.le_trans hzn hW.size, Nat.le_trans hz_w1 hW.size⟩
  have KR : Free.Bel w1 w1 := Free.Bel.refl _
  clear hBz hzz kc0_0 kc0_1 hzn
  go_wp2_with fail
  cases hw : watchB h xs with
  | false =>
    refine (ready_v h xs _ w1 (FA w1 (Free.Bel.refl _)).2.2.2.1.out false (Lib.hid hw)).mono ?_
    rintro e w2 ⟨rfl, hB⟩
    have HB_w2 := Lib.hid (HB_w1.out.trans ((hB).mono hz_w1))
    have hz_w2 : bb ≤ w2.heap.size := Nat.le_trans hz_w1 (hB).size
    have FN := fun (W : World) (hW : Free.Bel w2 W) => FA W (bt (hB) hW)
    clear FA HB_w1 hz_w1 KR
    have FA := FN
    clear FN
    have KR := Free.Bel.refl w2
    clear hB
    go_wp2_with fail
    go_ret
    have hbb := HBB.out
    subst hbb
    exact ⟨rfl, HB_w2.out⟩
  | true =>
    have HW := Lib.hid hw
    refine (ready_v h xs _ w1 (FA w1 (Free.Bel.refl _)).2.2.2.1.out true (Lib.hid hw)).mono ?_
    rintro e w3 ⟨rfl, hB⟩
    have HB_w3 := Lib.hid (HB_w1.out.trans ((hB).mono hz_w1))
    have hz_w3 : bb ≤ w3.heap.size := Nat.le_trans hz_w1 (hB).size
    have FN := fun (W : World) (hW : Free.Bel w3 W) => FA W (bt (hB) hW)
    clear FA HB_w1 hz_w1 KR
    have FA := FN
    clear FN
    have KR := Free.Bel.refl w3
    clear hB
    clear hw
    go_wp2_with fail
    cases he : everB h xs with
    | false =>
      refine (can_at h xs _ w3 (FA w3 (Free.Bel.refl _)).2.2.1.out (FA w3 (Free.Bel.refl _)).2.2.2.1.out HW.out false (Lib.hid he)).mono ?_
      rintro e w4 ⟨rfl, hB⟩
      have HB_w4 := Lib.hid (HB_w3.out.trans ((hB).mono hz_w3))
      have hz_w4 : bb ≤ w4.heap.size := Nat.le_trans hz_w3 (hB).size
      have FN := fun (W : World) (hW : Free.Bel w4 W) => FA W (bt (hB) hW)
      clear FA HB_w3 hz_w3 KR
      have FA := FN
      clear FN
      have KR := Free.Bel.refl w4
      clear hB
      have HE := Lib.hid he
      clear he
      go_wp2_with fail
      refine (round_a h xs _ w4 (FA w4 (Free.Bel.refl _)).2.2.1.out (FA w4 (Free.Bel.refl _)).2.2.2.1.out 8 (by show _ = _; unfold goE; rw [if_pos HW.out, if_neg (by rw [HE.out]; simp)]) (by decide)).mono ?_
      rintro e w5 ⟨rfl, hB⟩
      have HB_w5 := Lib.hid (HB_w4.out.trans ((hB).mono hz_w4))
      have hz_w5 : bb ≤ w5.heap.size := Nat.le_trans hz_w4 (hB).size
      have FN := fun (W : World) (hW : Free.Bel w5 W) => FA W (bt (hB) hW)
      clear FA HB_w4 hz_w4 KR
      have FA := FN
      clear FN
      have KR := Free.Bel.refl w5
      clear hB
      go_wp2_with fail
      go_ret
      have hbb := HBB.out
      subst hbb
      exact ⟨rfl, HB_w5.out⟩
    | true =>
      refine (can_at h xs _ w3 (FA w3 (Free.Bel.refl _)).2.2.1.out (FA w3 (Free.Bel.refl _)).2.2.2.1.out HW.out true (Lib.hid he)).mono ?_
      rintro e w6 ⟨rfl, hB⟩
      have HB_w6 := Lib.hid (HB_w3.out.trans ((hB).mono hz_w3))
      have hz_w6 : bb ≤ w6.heap.size := Nat.le_trans hz_w3 (hB).size
      have FN := fun (W : World) (hW : Free.Bel w6 W) => FA W (bt (hB) hW)
      clear FA HB_w3 hz_w3 KR
      have FA := FN
      clear FN
      have KR := Free.Bel.refl w6
      clear hB
      have HE := Lib.hid he
      clear he
      go_wp2_with fail
      refine (round_b h xs _ w6 (FA w6 (Free.Bel.refl _)).2.2.1.out (FA w6 (Free.Bel.refl _)).2.2.2.1.out HW.out HE.out).mono ?_
      rintro e w7 ⟨⟨i, j, vl, vr, hri, rfl, hdl, hdr⟩, hB⟩
      have HRI := Lib.hid hri
      obtain ⟨ll, hll⟩ : ∃ y, planL h xs i = y := ⟨_, rfl⟩
      obtain ⟨lr, hlr⟩ : ∃ y, (planL h xs j).drop i = y := ⟨_, rfl⟩
      rw [hll] at hdl
      rw [hlr] at hdr
      have HLL := Lib.hid hll
      have HLR := Lib.hid hlr
      have hij : i < j := hri.1
      have hll1 : Hid (ll.length = i) := by show _ = _; rw [← hll, planL_length]
      have hlr1 : Hid (lr.length = j - i) := by show _ = _; rw [← hlr, List.length_drop, planL_length]
      have hjp : Hid ((j : Int) ≤ prodE xs) := plan_bound HW.out HE.out hri.2.2
      have hpb : Hid (1 ≤ prodE xs ∧ prodE xs ≤ 1296) := by
        have h9 := prodE_bound (xs := xs) fun x hx => by have := watchB_ok HW.out x hx; unfold okR at this; omega
        refine ⟨h9.1, Int.le_trans h9.2 ?_⟩
        have h4 := (watchB_iff.1 HW.out).2.1
        rcases (show xs.length = 0 ∨ xs.length = 1 ∨ xs.length = 2 ∨ xs.length = 3 ∨ xs.length = 4 by omega) with e | e | e | e | e <;> rw [e] <;> decide
      have HDL := Lib.hid hdl
      have HDR := Lib.hid hdr
      obtain ⟨ql, cl, rfl, hj1, hj2, hj3⟩ := hdl
      obtain ⟨qr, cr, rfl, hj4, hj5, hj6⟩ := hdr
      clear hri hll hlr hj1 hj2 hj3 hj4 hj5 hj6
      have HB_w7 := Lib.hid (HB_w6.out.trans ((hB).mono hz_w6))
      have hz_w7 : bb ≤ w7.heap.size := Nat.le_trans hz_w6 (hB).size
      have FN := fun (W : World) (hW : Free.Bel w7 W) => And.intro (Lib.hid (HDL.out.keeps hW)) (And.intro (Lib.hid (HDR.out.keeps hW)) (FA W (bt (hB) hW)))
      clear FA HB_w6 hz_w6 KR
      have FA := FN
      clear FN
      have KR := Free.Bel.refl w7
      clear hB HDL HDR
      go_wp2_with fail
      go_loopw [78, 9] (fun i v wr => ∃ k : Nat, k ≤ xs.length ∧ i = .int .i64 k ∧ v = .int .i64 (prodE (xs.take k)) ∧ Free.Bel w7 wr) (fun i _ _ => xs.length - (intOf i).toNat)
      case atStart => exact ⟨0, Nat.zero_le _, rfl, rfl, Free.Bel.refl _⟩
      case round =>
        obtain ⟨k, hk, rfl, rfl, hB⟩ := hrel
        by_cases hlt : k < xs.length
        · have hx : xs ≠ [] := by intro e; simp [e] at hlt
          obtain ⟨b9, off, rfl, hcp⟩ := HP.out hx
          obtain ⟨d0, d1, d2⟩ := hcp k hlt
          have e0 := HKX.out wr (HB_w7.out.trans (hB.mono hz_w7)) _ _ d0
          have e1 := HKX.out wr (HB_w7.out.trans (hB.mono hz_w7)) _ _ d1
          have e2 := HKX.out wr (HB_w7.out.trans (hB.mono hz_w7)) _ _ d2
          have hklt : (k : Int) < xs.length := by omega
          have hkw : IntKind.i64.wrap ((k : Int) + 1) = (k : Int) + 1 := IntWalk.i64_in _ (by have := (watchB_iff.1 HW.out).2.1; omega)
          have hok := watchB_ok HW.out xs[k] (List.getElem_mem hlt)
          unfold okR at hok
          have htk : Hid (prodE (xs.take (k + 1)) = prodE (xs.take k) * xs[k].2.1) := by show _ = _; rw [take_step xs k hlt, prodE_snoc]
          have hpk := prodE_small (xs := xs.take k) (fun x hx => by have := watchB_ok HW.out x (List.mem_of_mem_take hx); unfold okR at this; omega) (by have := (watchB_iff.1 HW.out).2.1; simp; omega)
          have HKB := Lib.hid hB
          have h2a : 1 ≤ xs[k].2.1 ∧ xs[k].2.1 ≤ 6 := by omega
          clear hcp hx d0 d1 d2 hok
          generalize prodE (xs.take k) = PP at *
          generalize xs[k] = x at *
          obtain ⟨x1, x2, x3⟩ := x
          simp only at e0 e1 e2 h2a
          have hml : PP * x2 ≤ PP * 6 := Int.mul_le_mul_of_nonneg_left h2a.2 (by omega)
          have hm0 : 0 ≤ PP * x2 := Int.mul_nonneg (by omega) (by omega)
          have hpw : IntKind.i64.wrap (PP * x2) = PP * x2 := IntWalk.i64_in _ (by omega)
          have KA : Free.Bel wr (wr.alloc (.cells #[.int .i64 x1, .int .i64 x2, .int .i64 x3] 47)) := belAlloc _ _
          have hx1 : (wr.alloc (.cells #[.int .i64 x1, .int .i64 x2, .int .i64 x3] 47)).cell? ⟨wr.heap.size, 1, none⟩ = some (.int .i64 x2) := by simp [go_sem]
          have HKA := Lib.hid (bt hB KA)
          clear h2a hml hm0 hpk hB
          go_wp2_with fail
          go_roundw
          case rel => exact ⟨k + 1, by omega, by go_num, by rw [htk.out], HKA.out⟩
          case measure => simp [intOf]; omega
        · obtain rfl : k = xs.length := by omega
          rw [List.take_length]
          have HB_wr := Lib.hid (HB_w7.out.trans ((hB).mono hz_w7))
          have hz_wr : bb ≤ wr.heap.size := Nat.le_trans hz_w7 (hB).size
          have FN := fun (W : World) (hW : Free.Bel wr W) => FA W (bt (hB) hW)
          clear FA HB_w7 hz_w7 KR
          have FA := FN
          clear FN
          have KR := Free.Bel.refl wr
          clear hB
          obtain ⟨w8, hwz⟩ : ∃ x, x = wr := ⟨_, rfl⟩
          subst hwz
          have HB_w8 := HB_wr
          have hz_w8 := hz_wr
          clear HB_wr hz_wr
          have hlb : ((lr.length : Int) == 0) = false := beq_eq_false_iff_ne.2 (by have h0 := hlr1.out; omega)
          have hll9 : ll.length ≤ 1296 := by have h1 := hll1.out; have h2 := hjp.out; have h3 := hpb.out; omega
          have hlr9 : ll.length + lr.length ≤ 1296 := by have h1 := hll1.out; have h0 := hlr1.out; have h2 := hjp.out; have h3 := hpb.out; omega
          have hsw : IntKind.i64.wrap ((ll.length : Int) + (lr.length : Int)) = (ll.length : Int) + (lr.length : Int) := IntWalk.i64_in _ (by omega)
          have hsp : ¬ (prodE xs < (ll.length : Int) + (lr.length : Int)) := by have h1 := hll1.out; have h0 := hlr1.out; have h2 := hjp.out; omega
          have hspb : decide (prodE xs < (ll.length : Int) + (lr.length : Int)) = false := decide_eq_false hsp
          obtain ⟨pe, hpe⟩ : ∃ y, prodE xs = y := ⟨_, rfl⟩
          rw [hpe] at hsp hspb
          have HPE := Lib.hid hpe
          have FC := Lib.hid FA
          have HBC0 := HB_w8
          have hzc0 := hz_w8
          simp only [hpe]
          clear hpe
          obtain ⟨vs1, hvl1, hr1, hn1, ho1, hi1⟩ := dz_src ((FA w8 (Free.Bel.refl _)).1).out
          obtain ⟨vs2, hvl2, hr2, hn2, ho2, hi2⟩ := dz_src ((FA w8 (Free.Bel.refl _)).2.1).out
          have HV1 := Lib.hid (And.intro hr1 (And.intro hn1 (And.intro ho1 (And.intro hvl1 hi1))))
          have HV2 := Lib.hid (And.intro hr2 (And.intro hn2 (And.intro ho2 (And.intro hvl2 hi2))))
          clear hvl1 hr1 hn1 ho1 hi1 hvl2 hr2 hn2 ho2 hi2
          have KA1 : Free.Bel w8 (w8.alloc (.map #[] 0)) := belAlloc _ _
          have KA2 : Free.Bel w8 ((w8.alloc (.map #[] 0)).alloc (.cells #[.int .i64 h, .slice p xs.length cp] 24)) := bt KA1 (belAlloc _ _)
          have KA3 : Free.Bel w8 (((w8.alloc (.map #[] 0)).alloc (.cells #[.int .i64 h, .slice p xs.length cp] 24)).alloc (.cells #[.int .i64 h, .slice p xs.length cp] 24)) := bt KA2 (belAlloc _ _)
          have hmm := @run_makeMap Tryd.prog
          go_upto_region 21 with fail
          clear hmm hsp hspb hsw hlb
          have n1_0 : (((w8.alloc (.map #[] 0)).alloc (.cells #[.int .i64 h, .slice p xs.length cp] 24)).alloc (.cells #[.int .i64 h, .slice p xs.length cp] 24)).cell? ⟨w8.heap.size + 1, 0, none⟩ = some (.int .i64 h) := by simp [go_sem]
          have f1_0 : (((w8.alloc (.map #[] 0)).alloc (.cells #[.int .i64 h, .slice p xs.length cp] 24)).alloc (.cells #[.int .i64 h, .slice p xs.length cp] 24)).frozen? ⟨w8.heap.size + 1, 0, none⟩ = false := by simp [go_sem]
          have n1_1 : (((w8.alloc (.map #[] 0)).alloc (.cells #[.int .i64 h, .slice p xs.length cp] 24)).alloc (.cells #[.int .i64 h, .slice p xs.length cp] 24)).cell? ⟨w8.heap.size + 1, 1, none⟩ = some (.slice p xs.length cp) := by simp [go_sem]
          have f1_1 : (((w8.alloc (.map #[] 0)).alloc (.cells #[.int .i64 h, .slice p xs.length cp] 24)).alloc (.cells #[.int .i64 h, .slice p xs.length cp] 24)).frozen? ⟨w8.heap.size + 1, 1, none⟩ = false := by simp [go_sem]
          have n2_0 : (((w8.alloc (.map #[] 0)).alloc (.cells #[.int .i64 h, .slice p xs.length cp] 24)).alloc (.cells #[.int .i64 h, .slice p xs.length cp] 24)).cell? ⟨w8.heap.size + 1 + 1, 0, none⟩ = some (.int .i64 h) := by simp [go_sem]
          have f2_0 : (((w8.alloc (.map #[] 0)).alloc (.cells #[.int .i64 h, .slice p xs.length cp] 24)).alloc (.cells #[.int .i64 h, .slice p xs.length cp] 24)).frozen? ⟨w8.heap.size + 1 + 1, 0, none⟩ = false := by simp [go_sem]
          have n2_1 : (((w8.alloc (.map #[] 0)).alloc (.cells #[.int .i64 h, .slice p xs.length cp] 24)).alloc (.cells #[.int .i64 h, .slice p xs.length cp] 24)).cell? ⟨w8.heap.size + 1 + 1, 1, none⟩ = some (.slice p xs.length cp) := by simp [go_sem]
          have f2_1 : (((w8.alloc (.map #[] 0)).alloc (.cells #[.int .i64 h, .slice p xs.length cp] 24)).alloc (.cells #[.int .i64 h, .slice p xs.length cp] 24)).frozen? ⟨w8.heap.size + 1 + 1, 1, none⟩ = false := by simp [go_sem]
          have hh1 : (((w8.alloc (.map #[] 0)).alloc (.cells #[.int .i64 h, .slice p xs.length cp] 24)).alloc (.cells #[.int .i64 h, .slice p xs.length cp] 24)).heap[w8.heap.size + 1]? = some (.cells #[.int .i64 h, .slice p xs.length cp] 24 (0, 0)) := by have h9 := World.alloc_heap_new (w8.alloc (.map #[] 0)) (.cells #[.int .i64 h, .slice p xs.length cp] 24); exact heap_old (by simpa using h9)
          have hh2 : (((w8.alloc (.map #[] 0)).alloc (.cells #[.int .i64 h, .slice p xs.length cp] 24)).alloc (.cells #[.int .i64 h, .slice p xs.length cp] 24)).heap[w8.heap.size + 1 + 1]? = some (.cells #[.int .i64 h, .slice p xs.length cp] 24 (0, 0)) := by have h9 := World.alloc_heap_new ((w8.alloc (.map #[] 0)).alloc (.cells #[.int .i64 h, .slice p xs.length cp] 24)) (.cells #[.int .i64 h, .slice p xs.length cp] 24); simpa using h9
          have hmap : MapIs quadV w8.heap.size [] (((w8.alloc (.map #[] 0)).alloc (.cells #[.int .i64 h, .slice p xs.length cp] 24)).alloc (.cells #[.int .i64 h, .slice p xs.length cp] 24)) := ((MapIs.made quadV w8).bel (belAlloc _ _)).bel (belAlloc _ _)
          have hsz3 : w8.heap.size + 3 = (((w8.alloc (.map #[] 0)).alloc (.cells #[.int .i64 h, .slice p xs.length cp] 24)).alloc (.cells #[.int .i64 h, .slice p xs.length cp] 24)).heap.size := by simp
          generalize (((w8.alloc (.map #[] 0)).alloc (.cells #[.int .i64 h, .slice p xs.length cp] 24)).alloc (.cells #[.int .i64 h, .slice p xs.length cp] 24)) = w9 at *
          obtain ⟨mb, hmb⟩ : ∃ x, x = w8.heap.size := ⟨_, rfl⟩
          rw [← hmb] at n1_0 n1_1 n2_0 n2_1 f1_0 f1_1 f2_0 f2_1 hmap hh1 hh2 hsz3 ⊢
          have HAV : Hid (AV mb xs (.slice p xs.length cp)) := fun hx a n c9 he => by
            obtain ⟨b9, off, rfl, hcp⟩ := HP.out hx
            cases he
            have h1 : 0 < xs.length := by cases xs with | nil => exact absurd rfl hx | cons _ _ => simp
            have h9 := lt_of_cell (hcp 0 h1).1
            have h8 := HBB.out
            have h7 := hz_w8
            simp only at h9 ⊢
            omega
          have hmbb : bb + 1 ≤ mb := by rw [hmb]; exact (FA w8 (Free.Bel.refl _)).2.2.2.2.2.2.1
          clear KA1 KA2
          have HK3 := Lib.hid KA3
          have HB_w9 := Lib.hid (HB_w8.out.trans ((KA3).mono hz_w8))
          have hz_w9 : bb ≤ w9.heap.size := Nat.le_trans hz_w8 (KA3).size
          have FN := fun (W : World) (hW : Free.Bel w9 W) => And.intro (keepsB hW n1_0) (And.intro ((hW.frozen (p := ⟨mb + 1, 0, none⟩) (by simp; omega)).trans f1_0) (And.intro (keepsB hW n1_1) (And.intro ((hW.frozen (p := ⟨mb + 1, 1, none⟩) (by simp; omega)).trans f1_1) (And.intro (keepsB hW n2_0) (And.intro ((hW.frozen (p := ⟨mb + 1 + 1, 0, none⟩) (by simp; omega)).trans f2_0) (And.intro (keepsB hW n2_1) (And.intro ((hW.frozen (p := ⟨mb + 1 + 1, 1, none⟩) (by simp; omega)).trans f2_1) (And.intro (Lib.hid (hmap.bel hW)) (And.intro (Lib.hid ((hW.block _ (lt_of_heap hh1)).trans hh1)) (And.intro (Lib.hid ((hW.block _ (lt_of_heap hh2)).trans hh2)) (FA W (bt (KA3) hW))))))))))))
          clear FA HB_w8 hz_w8 KR
          have FA := FN
          clear FN
          have KR := Free.Bel.refl w9
          clear KA3 n1_0 n1_1 n2_0 n2_1 f1_0 f1_1 f2_0 f2_1 hmap hh1 hh2
          have HFC := Lib.hid (fun (W : World) (hW : Below mb w8 W) => FC.out W (show Free.Bel w8 W from by rw [hmb] at hW; exact hW))
          have HUC := Lib.hid (fun (W : World) (hW : Below mb w8 W) => And.intro (HUX.out W (HBC0.out.trans (hW.mono (by rw [hmb]; exact hzc0)))) (And.intro (HTX.out W (HBC0.out.trans (hW.mono (by rw [hmb]; exact hzc0)))) (HBC0.out.trans (hW.mono (by rw [hmb]; exact hzc0)))))
          have HMB := Lib.hid hmb
          clear hmb
          clear FC
          have KA : Free.Bel w9 (w9.alloc (.cells #[] 58)) := belAlloc _ _
          have hlit : (w9.alloc (.cells #[] 58)).ownsRow w9.heap.size 58 1 (.slice (some ⟨w9.heap.size, 0, none⟩) 0 0) 0 [] := ⟨by simp, .inr ⟨w9.heap.size, 0, #[], rfl, Nat.le_refl _, World.alloc_heap_new _ _, Nat.le_refl _, by simp, by simp, by simp⟩⟩
          have HKA := Lib.hid KA
          have HLIT := Lib.hid hlit
          clear hlit
          go_wp2_with (first | (at_builtin; go_loud (refine wpList_append_any (by first | rfl | simp [Region.wanted, yielded, go_sem]) _ _ 25 rfl w9.heap.size 58 i1 (.slice none 0 0) 1 24 Tryd.underlying25 HY.out.1 HY.out.2.1 HY.out.2.2.1 HY.out.2.2.2 rfl (by decide) _ 0 [] rfl HLIT.out ql ll.length cl vs1 rfl (by rw [HV1.out.2.2.2.1]; simp) (HV1.out.1 _ (bt HK3.out HKA.out)) HV1.out.2.1 HV1.out.2.2.1 (by unfold maxLen; omega) (by omega) (by simp) ?_); intro v9 wz9 hown8 hb9; have HK9 := Lib.hid (show Free.Bel w9 wz9 from Below.trans (show Below w9.heap.size w9 (w9.alloc (.cells #[] 58)) from HKA.out) hb9); have hown9 : wz9.ownsRow w9.heap.size 58 1 v9 ll.length vs1 := (by simpa using hown8); clear hown8 hb9; obtain ⟨p9, c9, hv9⟩ := row_slice hown9; subst hv9) | (at_builtin; go_loud (refine wpList_append_any (by first | rfl | simp [Region.wanted, yielded, go_sem]) _ _ 25 rfl w9.heap.size 58 i1 (.slice none 0 0) 1 24 Tryd.underlying25 HY.out.1 HY.out.2.1 HY.out.2.2.1 HY.out.2.2.2 rfl (by decide) _ ll.length vs1 rfl hown9 qr lr.length cr vs2 rfl (by rw [HV2.out.2.2.2.1]; simp) (HV2.out.1 _ (bt HK3.out HK9.out)) HV2.out.2.1 HV2.out.2.2.1 (by unfold maxLen; omega) (by omega) HK9.out.size ?_); intro v8 wz8 hown8 hb8; have HK8 := Lib.hid (show Free.Bel w9 wz8 from Below.trans (show Below w9.heap.size w9 wz9 from HK9.out) hb8); have HO8 := Lib.hid hown8; obtain ⟨p8, c8, hv8⟩ := row_slice hown8; subst hv8; clear hown8 hb8 hown9) | fail)
          obtain ⟨pa, hpa⟩ : ∃ y, planL h xs j = y := ⟨_, rfl⟩
          have HPA : Hid (pa = ll ++ lr) := by show _ = _; rw [← hpa, ← HLL.out, ← HLR.out]; exact (plan_all h xs (Nat.le_of_lt hij)).symm
          have HPJ := Lib.hid hpa
          have hpal : Hid (pa.length = j) := by show _ = _; rw [← hpa, planL_length]
          have HPV : Hid (pa.all (turnB h xs) = true) := by show _ = _; rw [← hpa]; exact plan_valid HW.out HE.out j
          have HIL : Hid (∀ W, Below w8.heap.size w8 W → ∀ (i : Nat) (h : i < pa.length) u, (vs1 ++ vs2)[i]? = some u → IL pa[i] u W) := fun W hW i hi u hu => by
            have e : pa[i] = (ll ++ lr)[i]'(by rw [← HPA.out]; exact hi) := by simp only [HPA.out]
            rw [e]
            have hi9 : i < ll.length + lr.length := by rw [HPA.out, List.length_append] at hi; exact hi
            by_cases hil : i < ll.length
            · rw [List.getElem?_append_left (by rw [HV1.out.2.2.2.1]; exact hil)] at hu
              rw [List.getElem_append_left hil]
              exact (HV1.out.2.2.2.2 i hil u hu).keeps hW
            · rw [List.getElem?_append_right (by rw [HV1.out.2.2.2.1]; omega), HV1.out.2.2.2.1] at hu
              rw [List.getElem_append_right (by omega)]
              exact (HV2.out.2.2.2.2 (i - ll.length) (by omega) u hu).keeps hW
          clear hpa
          have hB8 : Free.Bel w9 wz8 := HK8.out
          have hK8 : Hid (Free.Bel w8 wz8) := bt HK3.out HK8.out
          have HB_wz8 := Lib.hid (HB_w9.out.trans ((hB8).mono hz_w9))
          have hz_wz8 : bb ≤ wz8.heap.size := Nat.le_trans hz_w9 (hB8).size
          have FN := fun (W : World) (hW : Free.Bel wz8 W) => And.intro (Lib.hid (bel_row HO8.out hW)) (FA W (bt (hB8) hW))
          clear FA HB_w9 hz_w9 KR
          have FA := FN
          clear FN
          have KR := Free.Bel.refl wz8
          clear hB8
          go_loopw [108] (fun idx wr => ∃ (k : Nat) (v vb : Value), k ≤ j ∧ idx = .int .i64 k ∧ Below mb w8 wr ∧ RX wz8.heap.size [mb, mb + 1, mb + 1 + 1] wz8 wr ∧ wr.heap[mb + 1]? = some (.cells #[.int .i64 h, v] 24 (0, 0)) ∧ wr.heap[mb + 1 + 1]? = some (.cells #[.int .i64 h, vb] 24 (0, 0)) ∧ MapIs quadV mb (setK (seenK h xs k)) wr ∧ RL (planS h xs k) v wr ∧ NZ v ∧ AV mb (planS h xs k) v ∧ RL (if k ≤ i then xs else planS h xs i) vb wr ∧ NZ vb ∧ AV mb (if k ≤ i then xs else planS h xs i) vb) (fun idx _ => j - (intOf idx).toNat)
          case atStart => exact ⟨0, _, _, Nat.zero_le _, rfl, by rw [HMB.out]; exact hK8.out, RX.refl _ _ _, (FA wz8 (Free.Bel.refl _)).2.2.2.2.2.2.2.2.2.2.1.out, (FA wz8 (Free.Bel.refl _)).2.2.2.2.2.2.2.2.2.2.2.1.out, ((FA wz8 (Free.Bel.refl _)).2.2.2.2.2.2.2.2.2.1).out, (FA wz8 (Free.Bel.refl _)).2.2.2.2.2.2.2.2.2.2.2.2.2.2.2.2.2.1.out, HNZ.out, HAV.out, by rw [if_pos (Nat.zero_le _)]; exact (FA wz8 (Free.Bel.refl _)).2.2.2.2.2.2.2.2.2.2.2.2.2.2.2.2.2.1.out, HNZ.out, by rw [if_pos (Nat.zero_le _)]; exact HAV.out⟩
          case round =>
            obtain ⟨k, v, vb, hk, rfl, hB, hR, hb1, hb2, hmp, hrl, hnz, hav, hrb, hnb, hab⟩ := hrel
            have HBx := Lib.hid hB
            have HRx := Lib.hid hR
            have HB1 := Lib.hid hb1
            have HB2 := Lib.hid hb2
            have HMP := Lib.hid hmp
            have HRL := Lib.hid (And.intro hrl (And.intro hnz hav))
            have HRB := Lib.hid (And.intro hrb (And.intro hnb hab))
            have n0 : wr.cell? ⟨mb + 1, 0, none⟩ = some (.int .i64 h) := cell_of_heap (o := 0) hb1 rfl
            have n1 : wr.cell? ⟨mb + 1, 1, none⟩ = some v := cell_of_heap (o := 1) hb1 rfl
            have n2 : wr.cell? ⟨mb + 1 + 1, 0, none⟩ = some (.int .i64 h) := cell_of_heap (o := 0) hb2 rfl
            have n3 : wr.cell? ⟨mb + 1 + 1, 1, none⟩ = some vb := cell_of_heap (o := 1) hb2 rfl
            have f2 : wr.frozen? ⟨mb + 1 + 1, 0, none⟩ = false := frozen_of_heap (o := 0) hb2
            have f3 : wr.frozen? ⟨mb + 1 + 1, 1, none⟩ = false := frozen_of_heap (o := 1) hb2
            obtain ⟨pv, cv, rfl, hq1, hq2⟩ := hrl
            obtain ⟨pw, cw, rfl, hq3, hq4⟩ := hrb
            clear hq1 hq2 hq3 hq4 hnz hav hnb hab hb1 hb2 hmp hB hR
            by_cases hlt : k < j
            · have hkl : k < (vs1 ++ vs2).length := by rw [List.length_append, HV1.out.2.2.2.1, HV2.out.2.2.2.1]; have := hll1.out; have := hlr1.out; omega
              obtain ⟨uk, huk⟩ : ∃ u, (vs1 ++ vs2)[k]? = some u := ⟨_, List.getElem?_eq_getElem hkl⟩
              have hrow := ((FA wz8 (Free.Bel.refl _)).1).out
              obtain ⟨g8, rfl, hg8a, hg8b⟩ : ∃ g, p8 = some ⟨g, 0, none⟩ ∧ w9.heap.size ≤ g ∧ g < wz8.heap.size := by
                rcases hrow.2 with ⟨h9, h8⟩ | ⟨g, cap, cur, h9, h8, h7, _⟩
                · have := hll1.out; have := hlr1.out; omega
                · cases h9; exact ⟨g, rfl, h8, lt_of_heap h7⟩
              have hck := hrow.cells (g := g8) rfl k uk huk
              rw [addE, Nat.zero_add] at hck
              have e1 := HRx.out.cell hck (by simpa using hg8b) (by simp; omega)
              have hkp : k < pa.length := by rw [hpal.out]; exact hlt
              have hild : Hid (∀ W, Below mb w8 W → IL (pa[k]'hkp) uk W) := fun W hW => HIL.out W (by rw [HMB.out] at hW; exact hW) k hkp uk huk
              obtain ⟨pk, ck, rfl, _, _⟩ := hild.out wr HBx.out
              have hday : Hid (pa[k]'hkp = stepE h (planS h xs k)) := by
                show _ = _
                have h9 := planL_get h xs j k (by rw [planL_length]; exact hlt)
                simp only [← HPJ.out]
                exact h9
              have hklt : (k : Int) < (ll.length : Int) + (lr.length : Int) := by have := hll1.out; have := hlr1.out; omega
              have hkw : IntKind.i64.wrap ((k : Int) + 1) = (k : Int) + 1 := IntWalk.i64_in _ (by omega)
              have HPW : Hid (PW mb h wz8 w8 (seenK h xs k) (.slice pv (planS h xs k).length cv) (.slice pw (if k ≤ i then xs else planS h xs i).length cw) wr) := ⟨HBx.out, HRx.out, HB1.out, HB2.out, HMP.out⟩
              have hklen : Hid (k < j) := hlt
              clear hck hrow huk hkl HBx HRx HB1 HB2 HMP
              generalize pa[k]'hkp = dk at *
              go_upto_if 116 with fail
              go_cut [] (fun W => ∃ vb, PW mb h wz8 w8 (seenK h xs k) (.slice pv (planS h xs k).length cv) vb W ∧ RL (planS h xs k) (.slice pv (planS h xs k).length cv) W ∧ RL (if k + 1 ≤ i then xs else planS h xs i) vb W ∧ NZ vb ∧ AV mb (if k + 1 ≤ i then xs else planS h xs i) vb)
              case first =>
                by_cases hke : k = ll.length
                · have hkb : ((k : Int) == (ll.length : Int)) = true := by rw [hke]; simp
                  have HKE := Lib.hid hke
                  clear hke
                  go_wp2_with fail
                  go_meet
                  have hki : k = i := by rw [HKE.out, hll1.out]
                  have hpi : (if k + 1 ≤ i then xs else planS h xs i) = planS h xs k := by rw [if_neg (by omega), hki]
                  have hav := HRL.out.2.2
                  refine ⟨_, HPW.out.setB, (HRL.out.1.other fun hx a n c e => ?_).other fun hx a n c e => ?_, ?_, HRL.out.2.1, ?_⟩
                  · rcases hav hx a n c e with h9 | h9 <;> omega
                  · rcases hav hx a n c e with h9 | h9 <;> omega
                  · rw [hpi]
                    refine (HRL.out.1.other fun hx a n c e => ?_).other fun hx a n c e => ?_
                    · rcases hav hx a n c e with h9 | h9 <;> omega
                    · rcases hav hx a n c e with h9 | h9 <;> omega
                  · rw [hpi]; exact hav
                · have hkb : ((k : Int) == (ll.length : Int)) = false := by simp; omega
                  have HKE := Lib.hid hke
                  clear hke
                  go_wp2_with fail
                  go_meet
                  have hpi : (if k + 1 ≤ i then xs else planS h xs i) = (if k ≤ i then xs else planS h xs i) := by
                    have h1 := HKE.out
                    have h2 := hll1.out
                    by_cases h9 : k ≤ i
                    · rw [if_pos h9, if_pos (by omega)]
                    · rw [if_neg h9, if_neg (by omega)]
                  refine ⟨_, HPW.out, HRL.out.1, ?_, HRB.out.2.1, ?_⟩
                  · rw [hpi]; exact HRB.out.1
                  · rw [hpi]; exact HRB.out.2.2
              obtain ⟨vb, hpw, hrl5, hrb5, hnb5, hab5⟩ := hcut
              have HNV := Lib.hid HRL.out.2
              clear HRL HRB HPW n0 n1 n2 n3 f2 f3 e1
              obtain ⟨wp, hwc⟩ : ∃ x, x = wc := ⟨_, rfl⟩
              subst hwc
              obtain ⟨yk, hyk⟩ : ∃ y, planS h xs k = y := ⟨_, rfl⟩
              rw [hyk] at hpw hrl5
              simp only [hyk] at HNV
              have HYK := Lib.hid hyk
              have HPW := Lib.hid hpw
              have HRL := Lib.hid hrl5
              have HRB := Lib.hid (And.intro hrb5 (And.intro hnb5 hab5))
              have FR : ∀ W, Free.Bel wp W → W.cell? ⟨bb, 0, none⟩ = some (.int .i64 h) ∧ W.cell? ⟨bb, 1, none⟩ = some (.slice p xs.length cp) ∧ W.cell? ⟨mb + 1, 0, none⟩ = some (.int .i64 h) ∧ W.cell? ⟨mb + 1, 1, none⟩ = some (.slice pv yk.length cv) := fun W hW => by
                have h9 := HPW.out.go hW
                exact ⟨(HFC.out W (h9.bel)).2.2.1, (HFC.out W (h9.bel)).2.2.2.1, cell_of_heap (o := 0) h9.b1 rfl, cell_of_heap (o := 1) h9.b1 rfl⟩
              have hy4 : yk.length ≤ 4 := by
                have h8 := (plan_st HW.out HE.out k).1.length
                rw [HYK.out] at h8
                have := (watchB_iff.1 HW.out).2.1
                omega
              obtain ⟨pp, cpp, hpe, _, hpc⟩ := HRL.out
              cases hpe
              have HPC := Lib.hid hpc
              have KA0 : Free.Bel wp (wp.alloc (.cells #[.int .i64 0, .int .i64 0, .int .i64 0, .int .i64 0] 95)) := belAlloc _ _
              have hkr : Free.Bel wp wp := Free.Bel.refl _
              clear hpw hrl5 hrb5 hnb5 hab5 hyk hpc
              obtain ⟨fr0, fr1, fr2, fr3⟩ := FR _ KA0
              go_wp2_with fail
              have hab : (wp.alloc (.cells #[.int .i64 0, .int .i64 0, .int .i64 0, .int .i64 0] 95)).heap[wp.heap.size]? = some (.cells (arrV fun _ => 0) 95 (0, 0)) := World.alloc_heap_new wp _
              have HAB := Lib.hid hab
              have HKA0 := Lib.hid KA0
              clear hab fr0 fr1 fr2 fr3 hkr KA0
              generalize wp.alloc (.cells #[.int .i64 0, .int .i64 0, .int .i64 0, .int .i64 0] 95) = wq at *
              go_loopw [121] (fun idx wr => ∃ q : Nat, q ≤ yk.length ∧ idx = .int .i64 q ∧ Free.Bel wp wr ∧ wr.heap[wp.heap.size]? = some (.cells (arrV fun i => if i < q then waits yk i else 0) 95 (0, 0))) (fun idx _ => yk.length - (intOf idx).toNat)
              case atStart => exact ⟨0, Nat.zero_le _, rfl, HKA0.out, by simpa using HAB.out⟩
              case round =>
                obtain ⟨q, hq, rfl, hB, hz2⟩ := hrel
                have HZ2 := Lib.hid hz2
                by_cases hlt : q < yk.length
                · have hx : yk ≠ [] := by intro e; simp [e] at hlt
                  obtain ⟨b, off, rfl, hcp⟩ := HPC.out hx
                  obtain ⟨d1, d2, d3⟩ := hcp q hlt
                  have e1 := keepsB hB d1
                  have e2 := keepsB hB d2
                  have e3 := keepsB hB d3
                  have hklt : (q : Int) < yk.length := by omega
                  have hk4 : (q : Int) < 4 := by omega
                  have hkw : IntKind.i64.wrap ((q : Int) + 1) = (q : Int) + 1 := IntWalk.i64_in _ (by omega)
                  have HWT := Lib.hid (waits_lt yk q hlt)
                  have q0 := cell_of_heap (o := q) HZ2.out (arrV_get _ q (by omega))
                  have q1 := frozen_of_heap (o := q) HZ2.out
                  clear hcp hx d1 d2 d3 hz2
                  generalize yk[q] = x at *
                  obtain ⟨x1, x2, x3⟩ := x
                  have KA : Free.Bel wr (wr.alloc (.cells #[.int .i64 x1, .int .i64 x2, .int .i64 x3] 47)) := belAlloc _ _
                  have q2 := keepsB KA q0
                  have q3 := frozB KA q0 q1
                  go_wp2_with fail
                  go_roundw
                  case rel => exact ⟨q + 1, by omega, by go_num, (bt hB KA).setCell (by simp) _, by
                    have h9 := heap_setN (heap_old (o := .cells #[.int .i64 x1, .int .i64 x2, .int .i64 x3] 47) HZ2.out) q x3
                    rw [show x3 = waits yk q from HWT.out.symm, setN_fill] at h9
                    rw [show x3 = waits yk q from HWT.out.symm]
                    exact h9⟩
                  case measure => simp [intOf]; omega
                · obtain rfl : q = yk.length := by omega
                  have hfin : (fun i => if i < yk.length then waits yk i else 0) = waits yk := by
                    funext i
                    split
                    · rfl
                    · rw [waits_ge _ _ (by omega)]
                  rw [hfin] at hz2
                  have hge : ¬ (yk.length : Int) < yk.length := by omega
                  obtain ⟨ws, hws⟩ : ∃ x, x = wr := ⟨_, rfl⟩
                  subst hws
                  obtain ⟨S, hS⟩ : ∃ y, waits yk = y := ⟨_, rfl⟩
                  rw [hS] at hz2
                  have HS := Lib.hid hS
                  have HPS := Lib.hid (HPW.out.go hB)
                  have hsnew : q4 S ∉ seenK h xs k := by
                    have h9 := seen_new HW.out HE.out HRI.out hklen.out
                    rw [HYK.out, HS.out] at h9
                    exact h9
                  have hlk : (Instr.lookup 94 (.map (some mb)) (.agg #[.int .i64 (S 0), .int .i64 (S 1), .int .i64 (S 2), .int .i64 (S 3)]) false).run Tryd.prog ws = .ok (.bool false) ws := by
                    have h9 := HPS.out.mp.lookup T.quadsA T.uSeenA (T.zBoolS ws) (q4 S)
                    simp only [setK_has, hsnew, decide_false] at h9
                    exact h9
                  obtain ⟨S0, S1, S2, S3, _⟩ := cells4 hz2
                  have FSs : ∀ W, Free.Bel ws W → W.cell? ⟨bb, 0, none⟩ = some (.int .i64 h) ∧ W.cell? ⟨bb, 1, none⟩ = some (.slice p xs.length cp) ∧ W.cell? ⟨mb + 1, 0, none⟩ = some (.int .i64 h) ∧ W.cell? ⟨mb + 1, 1, none⟩ = some (.slice pv yk.length cv) ∧ W.cell? ⟨wp.heap.size, 0, none⟩ = some (.int .i64 (S 0)) ∧ W.cell? ⟨wp.heap.size, 1, none⟩ = some (.int .i64 (S 1)) ∧ W.cell? ⟨wp.heap.size, 2, none⟩ = some (.int .i64 (S 2)) ∧ W.cell? ⟨wp.heap.size, 3, none⟩ = some (.int .i64 (S 3)) := fun W hW => by
                    obtain ⟨a1, a2, a3, a4⟩ := FR W (bt hB hW)
                    exact ⟨a1, a2, a3, a4, keepsB hW S0, keepsB hW S1, keepsB hW S2, keepsB hW S3⟩
                  have HB := Lib.hid hB
                  have hks : Free.Bel ws ws := Free.Bel.refl _
                  have HTD : Hid (turnB h xs dk = true) := by
                    show _ = _
                    rw [hday.out]
                    exact plan_turn HW.out HE.out k
                  clear FR hB hz2 hS hsnew S0 S1 S2 S3 hfin
                  obtain ⟨g0, g1, g2, g3, g4, g5, g6, g7⟩ := FSs _ hks
                  go_wp2_with fail
                  refine (turnR_v h xs dk _ _ ws (HUC.out _ HPS.out.bel).1 (hild.out _ HPS.out.bel) (fun x hx => by have := watchB_ok HW.out x hx; unfold okR at this; omega) true HTD).mono ?_
                  rintro e w5 ⟨rfl, hB5⟩
                  have HP5 := Lib.hid (HPS.out.go hB5)
                  clear g0 g1 g2 g3 g4 g5 g6 g7 hks hlk HPS
                  obtain ⟨g0, g1, g2, g3, g4, g5, g6, g7⟩ := FSs _ hB5
                  obtain ⟨w6, hup, hg6, hm6, hs6⟩ := HP5.out.mp.update T.quadsA T.uSeenA (q4 S) (.bool true)
                  have hset : assocSet (q4 S) (.bool true) (setK (seenK h xs k)) = setK (seenK h xs (k + 1)) := by
                    have h9 := seen_new HW.out HE.out HRI.out hklen.out
                    rw [HYK.out, HS.out] at h9
                    rw [set_setK, seenK_succ, HYK.out, HS.out, addK, if_neg h9]
                  rw [hset] at hm6
                  have hup2 : (Instr.mapUpdate 94 (.map (some mb)) (.agg #[.int .i64 (S 0), .int .i64 (S 1), .int .i64 (S 2), .int .i64 (S 3)]) (.bool true)).run Tryd.prog w5 = .ok () w6 := hup
                  have HP6 := Lib.hid (HP5.out.map hg6 hm6)
                  have HAVy : Hid (AV mb yk (.slice pv yk.length cv)) := by have h9 := HNV.out.2; exact h9
                  have HR6 : Hid (RL yk (.slice pv yk.length cv) w6) := ((HRL.out.bel2 HB.out).bel2 hB5).mapped hg6 fun hx a n c e => by rcases HAVy.out hx a n c e with h9 | h9 <;> omega
                  have HRB6 : Hid (RL (if k + 1 ≤ i then xs else planS h xs i) vb w6) := ((HRB.out.1.bel2 HB.out).bel2 hB5).mapped hg6 fun hx a n c e => by rcases HRB.out.2.2 hx a n c e with h9 | h9 <;> omega
                  have m0 : w6.cell? ⟨mb + 1, 0, none⟩ = some (.int .i64 h) := cell_of_heap (o := 0) HP6.out.b1 rfl
                  have m1 : w6.cell? ⟨mb + 1, 1, none⟩ = some (.slice pv yk.length cv) := cell_of_heap (o := 1) HP6.out.b1 rfl
                  have HXD := Lib.hid (doneR_any h yk dk _ _ w6 HR6.out HNV.out.1 (hild.out _ HP6.out.bel) (by omega) (fun x hx => by
                    have h8 := plan_st HW.out HE.out k
                    rw [HYK.out] at h8
                    have h7 := h8.2 x hx
                    obtain ⟨x', hx', e1', e2'⟩ := keys_mem h8.1 hx
                    have := watchB_ok HW.out x' hx'
                    unfold okR at this
                    omega))
                  have hcl : Hid (coolB (dayR dk yk) = true) := by
                    show _ = _
                    rw [hday.out, HYK.out.symm]
                    exact (ever_step (planS_ever (ys := xs) (plan_st HW.out HE.out 0) HE.out k).2).2.2.1
                  rw [hcl.out] at HXD
                  clear hset hup hg6 hm6 hs6 hB5 HP5 HR6
                  go_wp2_with fail
                  refine HXD.out.mono ?_
                  rintro e w7 ⟨⟨v7, rfl, ho7⟩, hB7⟩
                  obtain ⟨q7, c7, rfl⟩ := row_slice ho7
                  have HP7 := Lib.hid (HP6.out.go hB7)
                  have HP8 := Lib.hid (HP7.out.go (belAlloc w7 (.cells #[.int .i64 h, .slice q7 yk.length c7] 24)))
                  have HO7 := Lib.hid (And.intro ho7 hB7)
                  have KA7 : Free.Bel w7 (w7.alloc (.cells #[.int .i64 h, .slice q7 yk.length c7] 24)) := belAlloc _ _
                  have z0 : (w7.alloc (.cells #[.int .i64 h, .slice q7 yk.length c7] 24)).cell? ⟨mb + 1, 0, none⟩ = some (.int .i64 h) := cell_of_heap (o := 0) HP8.out.b1 rfl
                  have z1 : (w7.alloc (.cells #[.int .i64 h, .slice q7 yk.length c7] 24)).cell? ⟨mb + 1, 1, none⟩ = some (.slice pv yk.length cv) := cell_of_heap (o := 1) HP8.out.b1 rfl
                  have z2 : (w7.alloc (.cells #[.int .i64 h, .slice q7 yk.length c7] 24)).frozen? ⟨mb + 1, 0, none⟩ = false := frozen_of_heap (o := 0) HP8.out.b1
                  have z3 : (w7.alloc (.cells #[.int .i64 h, .slice q7 yk.length c7] 24)).frozen? ⟨mb + 1, 1, none⟩ = false := frozen_of_heap (o := 1) HP8.out.b1
                  clear ho7 hB7 m0 m1 g0 g1 g2 g3 g4 g5 g6 g7 FSs HXD hup2
                  go_wp2_with fail
                  go_roundw
                  case rel =>
                    have hpe : planS h xs (k + 1) = dayR dk yk := by rw [hday.out, HYK.out.symm]; rfl
                    have hle : (dayR dk yk).length = yk.length := by simp [dayR]
                    have hsz : mb + 1 + 1 < w6.heap.size := lt_of_heap HP6.out.b2
                    have hq : ∀ a n c, Value.slice q7 yk.length c7 = .slice (some a) n c → mb + 1 + 1 < a.block := fun a n c e => by
                      cases e
                      rcases HO7.out.1.2 with ⟨h9, _⟩ | ⟨g, cap, cur, h9, h8, _⟩
                      · cases h9
                      · cases h9; simp only at h8 ⊢; omega
                    have hr7 : RL (dayR dk yk) (.slice q7 yk.length c7) (w7.alloc (.cells #[.int .i64 h, .slice q7 yk.length c7] 24)) := (RL.of_row hle (by unfold maxLen; omega) HO7.out.1).bel2 (belAlloc _ _)
                    have hrbz := (HRB6.out.bel2 HO7.out.2).bel2 (belAlloc w7 (.cells #[.int .i64 h, .slice q7 yk.length c7] 24))
                    refine ⟨k + 1, .slice q7 yk.length c7, vb, hklen.out, by go_num, HP8.out.setN.bel, HP8.out.setN.rx, HP8.out.setN.b1, HP8.out.setN.b2, HP8.out.setN.mp, ?_, NZ.row HO7.out.1, ?_, (hrbz.other fun hx a n c e => ?_).other fun hx a n c e => ?_, HRB.out.2.1, HRB.out.2.2⟩
                    · rw [hpe]
                      exact (hr7.other fun hx a n c e => by have := hq a n c e; omega).other fun hx a n c e => by have := hq a n c e; omega
                    · rw [hpe]
                      exact fun hx a n c e => .inr (hq a n c e)
                    · rcases HRB.out.2.2 hx a n c e with h9 | h9 <;> omega
                    · rcases HRB.out.2.2 hx a n c e with h9 | h9 <;> omega
                  case measure => have := hklen.out; simp [intOf]; omega
            · obtain rfl : k = j := by omega
              have hge : ¬ (k : Int) < (ll.length : Int) + (lr.length : Int) := by have := hll1.out; have := hlr1.out; omega
              have hpsi : planS h xs k = planS h xs i := HRI.out.2.1
              obtain ⟨PS, hps⟩ : ∃ y, planS h xs i = y := ⟨_, rfl⟩
              have hif : (if k ≤ i then xs else planS h xs i) = PS := by rw [if_neg (by omega), hps]
              rw [hif] at HRB n3
              simp only [hpsi, hps] at HRL n1
              have HPX : Hid (PW mb h wz8 w8 (seenK h xs k) (.slice pv PS.length cv) (.slice pw PS.length cw) wr) := ⟨HBx.out, HRx.out, by have h9 := HB1.out; simp only [hpsi, hps] at h9; exact h9, by have h9 := HB2.out; rw [hif] at h9; exact h9, HMP.out⟩
              try simp only [hif]
              try simp only [hpsi, hps]
              have HPSI := Lib.hid hps
              have HPW2 : Hid (watchB h PS = true ∧ everB h PS = true) := by have h9 := plan_state HW.out HE.out i; rw [hps] at h9; exact ⟨h9.1, h9.2.1⟩
              have hpl4 : PS.length ≤ 4 := (watchB_iff.1 HPW2.out.1).2.1
              have HRI2 := Lib.hid HRI.out
              have hkw2 : Hid (k - i = lr.length) := hlr1.out.symm
              obtain ⟨wo, hwo⟩ : ∃ x, x = wr := ⟨_, rfl⟩
              subst hwo
              clear hif hpsi hps HB1 HB2 HMP HBx HRx
              have FT : ∀ W, Free.Bel wo W → W.cell? ⟨bb, 0, none⟩ = some (.int .i64 h) ∧ W.cell? ⟨bb, 1, none⟩ = some (.slice p xs.length cp) ∧ W.cell? ⟨mb + 1, 0, none⟩ = some (.int .i64 h) ∧ W.cell? ⟨mb + 1, 1, none⟩ = some (.slice pv PS.length cv) ∧ W.cell? ⟨mb + 1 + 1, 0, none⟩ = some (.int .i64 h) ∧ W.cell? ⟨mb + 1 + 1, 1, none⟩ = some (.slice pw PS.length cw) := fun W hW => by
                have h9 := HPX.out.go hW
                exact ⟨(HFC.out W (h9.bel)).2.2.1, (HFC.out W (h9.bel)).2.2.2.1, cell_of_heap (o := 0) h9.b1 rfl, cell_of_heap (o := 1) h9.b1 rfl, cell_of_heap (o := 0) h9.b2 rfl, cell_of_heap (o := 1) h9.b2 rfl⟩
              clear n0 n1 n2 n3 f2 f3
              obtain ⟨g0, g1, g2, g3, g4, g5⟩ := FT _ (Free.Bel.refl _)
              go_wp2_with fail
              refine (sameW_any h PS _ _ wo HRL.out.1 HRB.out.1).mono ?_
              rintro e w5 ⟨rfl, hB5⟩
              have HP5 := Lib.hid (HPX.out.go hB5)
              have HB5 := Lib.hid hB5
              clear g0 g1 g2 g3 g4 g5
              obtain ⟨g0, g1, g2, g3, g4, g5⟩ := FT _ hB5
              clear hB5
              by_cases hl1 : ll.length ≤ 60
              · have q1 : ¬ 60 < (ll.length : Int) := by omega
                have q2 : decide (60 < (ll.length : Int)) = false := decide_eq_false q1
                by_cases hl2 : lr.length ≤ 60
                · have q3 : ¬ 60 < (lr.length : Int) := by omega
                  have q4 : decide (60 < (lr.length : Int)) = false := decide_eq_false q3
                  have hask : Hid (askE h xs ll = 0) := ask_valid HW.out hl1 (by rw [← HLL.out]; exact plan_valid HW.out HE.out i)
                  have HPE : Hid (endR xs ll = PS) := by show _ = _; rw [← HLL.out, planS_end, HPSI.out]
                  have HAF := Lib.hid (aft_cool (h := h) (xs := xs) (ds := ll) hask.out (by rw [← HLL.out]; exact plan_cool HW.out HE.out i))
                  have HF1 := Lib.hid (show Calls Tryd.prog 23 #[.agg #[.int .i64 h, .slice p xs.length cp], .slice ql ll.length cl] w5 fun e w' => (∃ u, e = .returned (.tuple #[.agg #[.int .i64 h, u], .int .i64 0]) ∧ w'.ownsRow w5.heap.size 47 3 u PS.length (cellsR PS)) ∧ Below w5.heap.size w5 w' from by
                    have h9 := aftP_any h xs ll _ _ w5 (HUC.out _ HP5.out.bel).2.1 (HUC.out _ HP5.out.bel).1 HNZ.out ((HFC.out _ (HP5.out.bel)).1).out.dl (by omega)
                    rw [HAF.out.1, HAF.out.2.1, HAF.out.2.2, HPE.out] at h9
                    exact h9)
                  have HRR : Hid (repE h PS lr = 0 ∧ repB h PS lr = true) := by
                    have h9 := round_rep HW.out HE.out HRI.out (by rw [hkw2.out]; exact hl2)
                    rw [HPSI.out, HLR.out] at h9
                    exact h9
                  go_wp2_with fail
                  refine HF1.out.mono ?_
                  rintro e w6 ⟨⟨u6, rfl, ho6⟩, hB6⟩
                  obtain ⟨q6, c6, rfl⟩ := row_slice ho6
                  have KA6 : Free.Bel w6 (w6.alloc (.cells #[.int .i64 h, .slice q6 PS.length c6] 24)) := belAlloc _ _
                  have K7 : Free.Bel wo (w6.alloc (.cells #[.int .i64 h, .slice q6 PS.length c6] 24)) := bt HB5.out (bt hB6 KA6)
                  have HR7 : Hid (RL PS (.slice q6 PS.length c6) (w6.alloc (.cells #[.int .i64 h, .slice q6 PS.length c6] 24))) := (RL.of_row rfl (by unfold maxLen; omega) ho6).bel2 KA6
                  have HN7 : Hid (NZ (.slice q6 PS.length c6)) := NZ.row ho6
                  have HBX : Hid ((w6.alloc (.cells #[.int .i64 h, .slice q6 PS.length c6] 24)).heap[w6.heap.size]? = some (.cells #[.int .i64 h, .slice q6 PS.length c6] 24 (0, 0))) := World.alloc_heap_new _ _
                  clear g0 g1 g2 g3 g4 g5 HF1 ho6 hB6
                  go_upto_region 45 with fail
                  have HK7 := Lib.hid K7
                  clear K7 KA6
                  obtain ⟨g, hg⟩ : ∃ x, x = w6.heap.size := ⟨_, rfl⟩
                  rw [← hg] at HBX ⊢
                  clear hg
                  generalize w6.alloc (.cells #[.int .i64 h, .slice q6 PS.length c6] 24) = w7 at *
                  have FU : ∀ W, Free.Bel w7 W → W.cell? ⟨bb, 0, none⟩ = some (.int .i64 h) ∧ W.cell? ⟨mb + 1 + 1, 0, none⟩ = some (.int .i64 h) ∧ W.cell? ⟨mb + 1 + 1, 1, none⟩ = some (.slice pw PS.length cw) ∧ W.cell? ⟨g, 0, none⟩ = some (.int .i64 h) ∧ W.cell? ⟨g, 1, none⟩ = some (.slice q6 PS.length c6) := fun W hW => by
                    obtain ⟨a0, a1, a2, a3, a4, a5⟩ := FT W (bt HK7.out hW)
                    exact ⟨a0, a4, a5, keepsB hW (cell_of_heap (o := 0) HBX.out rfl), keepsB hW (cell_of_heap (o := 1) HBX.out rfl)⟩
                  have HP7 := Lib.hid (HPX.out.go HK7.out)
                  clear FT
                  obtain ⟨g0, g1, g2, g3, g4⟩ := FU _ (Free.Bel.refl _)
                  go_wp2_with fail
                  refine (repP_v h PS lr _ _ w7 (HUC.out _ HP7.out.bel).2.1 HR7.out HN7.out ((HFC.out _ (HP7.out.bel)).2.1).out.dl (by omega) 0 true HRR).mono ?_
                  rintro e w8 ⟨rfl, hB8⟩
                  have K8 : Hid (Free.Bel wo w8) := bt HK7.out hB8
                  have HP8 := Lib.hid (HPX.out.go K8.out)
                  clear g0 g1 g2 g3 g4
                  obtain ⟨g0, g1, g2, g3, g4⟩ := FU _ hB8
                  have HR8 : Hid (RL PS (.slice q6 PS.length c6) w8) := HR7.out.bel2 hB8
                  have HR9 : Hid (RL PS (.slice pw PS.length cw) w8) := HRB.out.1.bel2 K8.out
                  clear hB8 FU
                  go_wp2_with fail
                  refine (sameW_any h PS _ _ w8 HR8.out HR9.out).mono ?_
                  rintro e w9 ⟨rfl, hB9⟩
                  have HP9 := Lib.hid (HP8.out.go hB9)
                  clear hB9 g0 g1 g2 g3 g4
                  go_wp2_with fail
                  go_ret
                  have hbb := HBB.out
                  subst hbb
                  exact ⟨rfl, (HUC.out _ HP9.out.bel).2.2⟩
                · have q3 : 60 < (lr.length : Int) := by omega
                  have q4 : decide (60 < (lr.length : Int)) = true := decide_eq_true q3
                  go_wp2_with fail
                  go_ret
                  have hbb := HBB.out
                  subst hbb
                  exact ⟨rfl, (HUC.out _ HP5.out.bel).2.2⟩
              · have q1 : 60 < (ll.length : Int) := by omega
                have q2 : decide (60 < (ll.length : Int)) = true := decide_eq_true q1
                go_wp2_with fail
                go_ret
                have hbb := HBB.out
                subst hbb
                exact ⟨rfl, (HUC.out _ HP5.out.bel).2.2⟩
end Go.Proofs.YtknpglgpkkhhiaaDoor

/- The bounds of small kinds of numbers. -/
namespace Go.Proofs.YtknpglgpkkhhiaaDoor
open Go
end Go.Proofs.YtknpglgpkkhhiaaDoor

/- For every input the law RoundProof returns true, and its arguments read behind the call as they read before; what a watch is asked lies in the table as the program's text lays it (tied). Condition: that table. -/
namespace Go.Proofs.YtknpglgpkkhhiaaDoor.lawRoundProof
open Go Go.ChangeShapes Go.WideShapes Go.ChangeAt Go.RowKit
set_option linter.unusedVariables false
set_option linter.unusedSimpArgs false

set_option maxRecDepth 100000 in
theorem contract (H : Type) (enc : TypeId × Value → H) (W : World) (base : Nat) (args : Array Value) (ds gs : List (DataW H)) (before : List MemPlace)
    (hval : ∀ (j : Nat) t v, Tryd.f8.params[j]? = some t → args[j]? = some v → Value.okWide Tryd.prog W .any base t v)
    (hW : DataW.Whole enc Tryd.prog Tryd.f8.params.toList Rows.roundProofSpec.vars false W args.toList ds gs before) (hL : laidMetH Tryd.prog Rows.roundProofRow.laid W) :
    Calls Tryd.prog 8 args W fun e W' => ∃ v, e = .returned v ∧ Rows.roundProofSpec.post enc Tryd.prog Tryd.f8 false true false false W args v W' := by
  have hW' := hW
  obtain ⟨p, q, hA0, hV, rfl, hfz, hnd⟩ := hW
  have hA : DataW.TrodAll enc Tryd.prog W 0 (fun _ => true) true Tryd.f8.params.toList args.toList ds p := hA0
  have hAk := hA
  rw [Tryd.params8] at hA hval
  obtain ⟨v0, vs0, d0, ds0, p0, q0, hargs, rfl, rfl, h0, r0⟩ := trodAll_cons hA
  obtain ⟨rfl, rfl, rfl⟩ := trodAll_nil r0
  obtain rfl : args = #[v0] := by cases args; simp_all
  obtain ⟨rfl, rfl⟩ := trodVars_none hV
  have hlt : ∀ x ∈ p0 ++ ([]), x.block < W.heap.size := fun x hx => by
    have := hW'.lt x (by simpa using hx)
    simpa using this
  obtain ⟨a0, b0, y0, z0, n0, rfl, _, _, g0, k0⟩ := Joins.open_agg2 Tryd.underlying24 (by kernel_rfl) (by kernel_rfl) (hval 0 24 _ rfl rfl) h0
  obtain ⟨h, ea0, _, _⟩ := DataW.trod_int Tryd.underlying3 g0
  simp at ea0
  subst ea0
  obtain ⟨xs, pp0, cap0, eb0, hrl0, hnz0⟩ := ricks_open Tryd.underlying22 Tryd.underlying47 (by kernel_rfl) rfl rfl rfl (by kernel_rfl) (by kernel_rfl) (by kernel_rfl) Tryd.underlying3 Tryd.underlying3 Tryd.underlying3 k0
  refine (proofL_walk h xs _ W (Tab.of_laid hL) hrl0 hnz0).mono fun e W' ⟨he, hg⟩ => ?_
  subst he
  refine ⟨_, rfl, _, _, _, [], p0 ++ ([]), [], hW', ?_, ?_, ?_, hg.frame _, fun h => by cases h⟩
  · exact trodAll_cons_mk (shut_bool Tryd.underlying4 true) trodAll_mk0
  · exact Law.args_below Tab.laidOut (by kernel_rfl) hg hAk hlt
  · rfl

set_option maxRecDepth 100000 in
theorem lifted (os : Os) (started : os.Started) (H : Type) (enc : TypeId × Value → H) :
    ReturnsInHanded {} Tryd.checked os 8 .any (fun w args => (Rows.roundProofSpec.pre enc Tryd.prog Tryd.f8 [] false w args ∧ laidMetH Tryd.prog Rows.roundProofRow.laid w) ∧ sizedMet enc Tryd.prog Tryd.f8 (OpenSpec.ofChange Rows.roundProofSpec) false w args) (Rows.roundProofSpec.post enc Tryd.prog Tryd.f8 false true false false) := by
  refine returnsInHanded_of_change_and (C := Tryd.checked) (X := fun w _ => laidMetH Tryd.prog Rows.roundProofRow.laid w) (fun _ _ _ hh h => h.of_heap hh) Tab.own started (by kernel_rfl) Tryd.func8
    (ChangeSpec.witness_shaped (enc := enc) (C := Tryd.checked) (os := os) (X := fun w _ => laidMetH Tryd.prog Rows.roundProofRow.laid w) false (World.doorLaid Tryd.prog 17 os) #[.agg #[.int .i64 0, .slice none 0 0]] 8 rfl (World.shaped_of_RefB (by kernel_rfl) (by kernel_rfl)) (by kernel_rfl) (by kernel_rfl) (by kernel_rfl) (Tab.door_met os _)) ?_
  intro W base args ds gs before hval hW _ _ hL _
  exact contract H enc W base args ds gs before hval hW hL

theorem said : Rows.RoundProofSaid :=
  OpenClaim.holds_of_wide 8 Tryd.f8 rfl rfl rfl rfl rfl rfl rfl ⟨rfl, rfl, rfl, rfl, rfl⟩ rfl rfl rfl rfl rfl (by kernel_rfl) Tryd.func8 (by kernel_rfl)
    (of_decide_eq_true (by kernel_rfl)) (by unfold Func.isWrapper; first | (rw [if_pos (by decide +kernel)]; kernel_rfl) | (rw [if_neg (by decide +kernel)]; exact ⟨rfl, rfl⟩))
    (fun os started H enc _ => lifted os started H enc)

theorem plain (f : FuncId) (fn : Func) (hf : Tryd.pinned.checked.prog.funcNamed "oilcake/oilcakelaw07.RoundProof" = some f) (hfn : Tryd.pinned.checked.prog.funcs[f]? = some fn) :
    false = Tryd.pinned.checked.prog.looks [] ∧ ∀ (j : Nat) t, fn.params[j]? = some t → Tryd.pinned.checked.prog.wantsStandIn t = false := by
  obtain rfl : f = 8 := Option.some.inj ((show Tryd.prog.funcNamed "oilcake/oilcakelaw07.RoundProof" = some 8 by kernel_rfl).symm.trans hf) |>.symm
  obtain rfl : fn = Tryd.f8 := (Option.some.inj (Tryd.func8.symm.trans hfn)).symm
  refine ⟨by kernel_rfl, fun j t ht => ?_⟩
  rw [Tryd.params8] at ht
  have hm := Array.mem_of_getElem? ht
  have hall : (Tryd.f8.params.toList.all fun u => !Tryd.prog.wantsStandIn u) = true := by kernel_rfl
  rw [Tryd.params8] at hall
  exact (show Tryd.prog.wantsStandIn t = false by simpa using List.all_eq_true.1 hall t (by simpa using hm))

theorem card : Rows.RoundProofCardSaid :=
  Claim7.holds_tied_plain_at .later [] _ _ _ _ said (fun _ h => by cases h) (by kernel_rfl) (fun _ h => by cases h) roundProof_row_tie rfl ⟨rfl, rfl⟩ (by kernel_rfl) rfl plain (by kernel_rfl)
#print axioms card
end Go.Proofs.YtknpglgpkkhhiaaDoor.lawRoundProof

