/- For every input the law RoundExamples returns true, and its arguments read behind the call as they read before; what a watch is asked lies in the table as the program's text lays it (tied). Condition: that table. -/
/- The examples of RoundExamples: what each call tells. -/
import Derived.Test.YtknpglgpkkhhiaaDoorE7
import Derived.Deep.DeepCutAuto
namespace Go.Proofs.YtknpglgpkkhhiaaDoor
set_option linter.unusedSimpArgs false
set_option linter.unusedVariables false
open Go.RowKit Go.Proofs.YtknpglgpkkhhiaaDoor.Free2 Go.Proofs.YtknpglgpkkhhiaaDoor.ML RR

def we : List Rk := [(1, 2, 2), (2, 4, 1), (3, 4, 0)]
def wf : List Rk := [(1, 2, 0), (2, 4, 1), (3, 4, 0), (4, 1, 0)]
theorem we_watch : watchB 1 we = false := by decide +kernel
theorem wf_watch : watchB 1 wf = true := by decide +kernel
theorem nil_watch : watchB 0 [] = true := by decide +kernel
theorem wx_moist1 : MoistIs 1 wx 0 2 0 := .inr ⟨rfl, by decide, by decide, (show everB 1 wx = true from wx_yes), fun k h0 h1 => by
  have h0' : (1 : Int) ≤ k := h0
  obtain rfl : k = 1 := by omega
  exact ever_no 6 (by decide +kernel)⟩
theorem wf_stable : ∀ ys ∈ allY wf, goodN 2 3 ys = true → goodN 2 4 ys = true := by decide +kernel
theorem wf_watch2 : watchB 2 wf = true := by decide +kernel
theorem wf_yes : everB 2 wf = true := by
  rw [← good_ever (xs := wf) (n := 3) (fun zs hz hg => wf_stable zs ((mem_allY (by decide)).2 hz) hg) wf (st_self wf_watch2)]
  decide +kernel
theorem wf_few : FewIs wf 2 0 := .inr ⟨rfl, by decide, by decide, wf_yes, fun k h0 h1 => by
  rcases (show k = 0 ∨ k = 1 by omega) with rfl | rfl
  · exact ever_no 4 (by decide +kernel)
  · exact ever_no 4 (by decide +kernel)⟩
theorem wf_moist : MoistIs 1 wf 0 0 8 := .inl ⟨rfl, rfl, fun k h0 h1 => by
  have h0' : (1 : Int) ≤ k := h0
  rcases (show k = 1 ∨ k = 2 ∨ k = 3 ∨ k = 4 ∨ k = 5 ∨ k = 6 by omega) with rfl | rfl | rfl | rfl | rfl | rfl
  · exact ever_no 6 (by decide +kernel)
  · exact ever_no 6 (by decide +kernel)
  · exact ever_no 6 (by decide +kernel)
  · exact ever_no 6 (by decide +kernel)
  · exact ever_no 6 (by decide +kernel)
  · exact ever_no 6 (by decide +kernel)⟩
theorem nil_good : ∀ n, goodN 0 n [] = true
  | 0 => rfl
  | n + 1 => by
    rw [goodN]
    have : daysL 0 [] = [[]] := by decide +kernel
    rw [this]
    simp [coolB, dayR]
    exact nil_good n
theorem nil_yes : everB 0 [] = true := everB_iff.2 nil_good
theorem nil_plan : ∀ n, planS 0 [] n = []
  | 0 => rfl
  | n + 1 => by
    show dayR _ (planS 0 [] n) = []
    rw [nil_plan n]
    rfl
theorem nil_step : stepE 0 [] = [] := by
  have h1 := (ever_step nil_yes).2.1
  have : daysL 0 [] = [[]] := by decide +kernel
  rw [this] at h1
  simpa using h1
theorem nil_round : RoundIs 0 [] 0 1 := ⟨by decide, by rw [nil_plan, nil_plan], fun a b h1 h2 => by omega⟩
theorem nil_again : (planL 0 [] 1).drop 0 = [[]] := by
  simp [planL, planS, nil_step]
theorem goE_wl : goE 1 wl = 8 := by unfold goE; simp [wl_watch, wl_no]
theorem goE_nil : goE 0 [] = 0 := by unfold goE; simp [nil_watch, nil_yes]
theorem ex2_moist1 (u : Value) (w : World) (hT : TabR w) (hu : RL wx u w) (hz : NZ u) :
    Calls Tryd.prog 51 #[.agg #[.int .i64 1, u], .int .i64 1] w fun e w' => e = .returned (.tuple #[.int .i64 2, .int .i64 0]) ∧ Below w.heap.size w w' := by
  refine (moistP_any 1 1 wx u w hT hu hz 0 (.inr ⟨0, by decide, rfl, by decide, by decide⟩)).mono fun e w' ⟨h1, h2⟩ => ⟨?_, h2⟩
  rcases h1 with ⟨h, _⟩ | ⟨_, h, _⟩ | ⟨_, _, n, c, hf, h⟩
  · rw [wx_watch] at h; cases h
  · exact absurd h (by decide)
  · obtain ⟨rfl, rfl⟩ := hf.unique wx_moist1
    exact h
theorem ex2_rep3 (u : Value) (w : World) (hT : TabR w) (hu : RL wx u w) (hz : NZ u) (v : Value) (hv : DL [[1], [2], [3]] v w) :
    Calls Tryd.prog 25 #[.agg #[.int .i64 1, u], v] w fun e w' => e = .returned (.tuple #[.bool false, .int .i64 0]) ∧ Below w.heap.size w w' := by
  exact repP_v 1 wx [[1], [2], [3]] u v w hT hu hz hv (by decide) 0 false (by
    show _ ∧ _
    decide +kernel)
theorem ex2_can_late (u : Value) (w : World) (hT : TabR w) (hu : RL wl u w) :
    Calls Tryd.prog 32 #[.agg #[.int .i64 1, u]] w fun e w' => e = .returned (.tuple #[.bool false, .int .i64 0]) ∧ Below w.heap.size w w' := by
  exact canP_v 1 wl u w hT hu 0 false (by rw [wl_watch, wl_no]; exact ⟨rfl, rfl⟩)
theorem ex2_share_bare (u : Value) (w : World) (hT : TabR w) (hu : RL [] u w) :
    Calls Tryd.prog 30 #[.agg #[.int .i64 0, u]] w fun e w' => e = .returned (.tuple #[.agg #[.int .i64 0, .int .i64 1], .int .i64 0]) ∧ Below w.heap.size w w' := by
  refine (shareP_any 0 [] u w hT hu).mono fun e w' ⟨h1, h2⟩ => ⟨?_, h2⟩
  rcases h1 with ⟨h, _⟩ | ⟨_, h⟩
  · rw [nil_watch] at h; cases h
  · rw [h]
    have : partV (shareI []).toNat 60 = .agg #[.int .i64 0, .int .i64 1] := by kernel_rfl
    rw [this]
theorem ex2_round_bare (u : Value) (w : World) (hT : TabR w) (hu : RL [] u w) :
    Calls Tryd.prog 41 #[.agg #[.int .i64 0, u]] w fun e w' => (∃ p1 c1 g2 c2 p3 c3, e = .returned (.tuple #[.slice p1 0 c1, .slice (some g2) 1 c2, .int .i64 0]) ∧ w'.cell? g2 = some (.slice p3 0 c3)) ∧ Below w.heap.size w w' := by
  refine (round_b 0 [] u w hT hu nil_watch nil_yes).mono fun e w' ⟨⟨i, j, vl, vr, hr, he, hl, hr2⟩, h2⟩ => ⟨?_, h2⟩
  obtain ⟨rfl, rfl⟩ := hr.unique nil_round
  rw [nil_again] at hr2
  obtain ⟨p1, c1, rfl, _⟩ := hl.dl
  obtain ⟨p2, c2, rfl, _, hc⟩ := hr2.dl
  obtain ⟨b, off, rfl, hcc⟩ := hc (by simp)
  obtain ⟨u5, h5, p3, c3, rfl, _⟩ := hcc 0 (by simp)
  exact ⟨p1, c1, ⟨b, off, none⟩, c2, p3, c3, he, by simpa using h5⟩
theorem ex2_can_odd (u : Value) (w : World) (hT : TabR w) (hu : RL we u w) :
    Calls Tryd.prog 32 #[.agg #[.int .i64 1, u]] w fun e w' => e = .returned (.tuple #[.bool false, .int .i64 70]) ∧ Below w.heap.size w w' := by
  exact canP_v 1 we u w hT hu 70 false (by rw [we_watch]; exact ⟨rfl, rfl⟩)
theorem ex2_today_late (u : Value) (w : World) (hT : TabR w) (hu : RL wl u w) :
    Calls Tryd.prog 34 #[.agg #[.int .i64 1, u]] w fun e w' => e = .returned (.tuple #[.slice none 0 0, .int .i64 8]) ∧ Below w.heap.size w w' := by
  refine (todayP_v 1 wl u w hT hu 8 goE_wl).mono fun e w' ⟨h1, h2⟩ => ⟨?_, h2⟩
  rcases h1 with ⟨_, h⟩ | ⟨h, _⟩
  · exact h
  · exact absurd h (by decide)
theorem ex2_days61 (u : Value) (w : World) (hT : TabR w) (hu : RL wl u w) :
    Calls Tryd.prog 39 #[.agg #[.int .i64 1, u], .int .i64 61] w fun e w' => e = .returned (.tuple #[.slice none 0 0, .int .i64 2]) ∧ Below w.heap.size w w' := by
  refine (daysP_v 1 wl 61 u w hT hu 2 (by show _ = _; unfold daysE; simp [wl_watch, inB])).mono fun e w' ⟨h1, h2⟩ => ⟨?_, h2⟩
  rcases h1 with ⟨_, h⟩ | ⟨h, _⟩
  · exact h
  · exact absurd h (by decide)
theorem ex2_days60 (u : Value) (w : World) (hT : TabR w) (hu : RL wl u w) :
    Calls Tryd.prog 39 #[.agg #[.int .i64 1, u], .int .i64 60] w fun e w' => e = .returned (.tuple #[.slice none 0 0, .int .i64 8]) ∧ Below w.heap.size w w' := by
  refine (daysP_v 1 wl 60 u w hT hu 8 (by show _ = _; unfold daysE; rw [if_pos wl_watch, if_pos (by decide)]; exact goE_wl)).mono fun e w' ⟨h1, h2⟩ => ⟨?_, h2⟩
  rcases h1 with ⟨_, h⟩ | ⟨h, _⟩
  · exact h
  · exact absurd h (by decide)
theorem ex2_round_late (u : Value) (w : World) (hT : TabR w) (hu : RL wl u w) :
    Calls Tryd.prog 41 #[.agg #[.int .i64 1, u]] w fun e w' => e = .returned (.tuple #[.slice none 0 0, .slice none 0 0, .int .i64 8]) ∧ Below w.heap.size w w' := by
  exact round_a 1 wl u w hT hu 8 goE_wl (by decide)
theorem ex2_last_wx (u : Value) (w : World) (hT : TabR w) (hu : RL wx u w) :
    Calls Tryd.prog 47 #[.agg #[.int .i64 1, u]] w fun e w' => e = .returned (.tuple #[.slice none 0 0, .int .i64 6]) ∧ Below w.heap.size w w' := by
  refine (lastP_v 1 wx u w hT hu 6 (by show _ = _; unfold lastE; simp [wx_watch, wx_yes])).mono fun e w' ⟨h1, h2⟩ => ⟨?_, h2⟩
  rcases h1 with ⟨_, h⟩ | ⟨h, _⟩
  · exact h
  · exact absurd h (by decide)
theorem ex2_few_full (u : Value) (w : World) (hT : TabR w) (hu : RL wf u w) :
    Calls Tryd.prog 49 #[.agg #[.int .i64 1, u]] w fun e w' => e = .returned (.tuple #[.int .i64 2, .int .i64 0]) ∧ Below w.heap.size w w' := by
  refine (fewestP_any 1 wf u w hT hu).mono fun e w' ⟨h1, h2⟩ => ⟨?_, h2⟩
  rcases h1 with ⟨h, _⟩ | ⟨_, n, c, hf, h⟩
  · rw [wf_watch] at h; cases h
  · obtain ⟨rfl, rfl⟩ := hf.unique wf_few
    exact h
theorem ex2_moist_9 (u : Value) (w : World) (hT : TabR w) (hu : RL wf u w) (hz : NZ u) :
    Calls Tryd.prog 51 #[.agg #[.int .i64 1, u], .int .i64 9] w fun e w' => e = .returned (.tuple #[.int .i64 0, .int .i64 6]) ∧ Below w.heap.size w w' := by
  refine (moistP_any 1 9 wf u w hT hu hz (-1) (.inl ⟨rfl, by decide⟩)).mono fun e w' ⟨h1, h2⟩ => ⟨?_, h2⟩
  rcases h1 with ⟨h, _⟩ | ⟨_, _, h⟩ | ⟨_, h, _⟩
  · rw [wf_watch] at h; cases h
  · exact h
  · exact absurd h (by decide)
theorem ex2_moist_f1 (u : Value) (w : World) (hT : TabR w) (hu : RL wf u w) (hz : NZ u) :
    Calls Tryd.prog 51 #[.agg #[.int .i64 1, u], .int .i64 1] w fun e w' => e = .returned (.tuple #[.int .i64 0, .int .i64 8]) ∧ Below w.heap.size w w' := by
  refine (moistP_any 1 1 wf u w hT hu hz 0 (.inr ⟨0, by decide, rfl, by decide, by decide⟩)).mono fun e w' ⟨h1, h2⟩ => ⟨?_, h2⟩
  rcases h1 with ⟨h, _⟩ | ⟨_, h, _⟩ | ⟨_, _, n, c, hf, h⟩
  · rw [wf_watch] at h; cases h
  · exact absurd h (by decide)
  · obtain ⟨rfl, rfl⟩ := hf.unique wf_moist
    exact h
theorem ex2_spare_late (u : Value) (w : World) (hT : TabR w) (hu : RL wl u w) :
    Calls Tryd.prog 53 #[.agg #[.int .i64 1, u]] w fun e w' => e = .returned (.tuple #[.int .i64 0, .int .i64 8]) ∧ Below w.heap.size w w' := by
  refine (spareP_v 1 wl u w hT hu 8 goE_wl).mono fun e w' ⟨h1, h2⟩ => ⟨?_, h2⟩
  rcases h1 with ⟨_, h⟩ | ⟨h, _⟩ | ⟨h, _⟩
  · exact h
  · exact absurd h (by decide)
  · exact absurd h (by decide)
theorem ex2_spare_bare (u : Value) (w : World) (hT : TabR w) (hu : RL [] u w) :
    Calls Tryd.prog 53 #[.agg #[.int .i64 0, u]] w fun e w' => e = .returned (.tuple #[.int .i64 0, .int .i64 6]) ∧ Below w.heap.size w w' := by
  refine (spareP_v 0 [] u w hT hu 0 goE_nil).mono fun e w' ⟨h1, h2⟩ => ⟨?_, h2⟩
  rcases h1 with ⟨h, _⟩ | ⟨_, _, h⟩ | ⟨_, h, _⟩
  · exact absurd rfl h
  · exact h
  · exact absurd rfl h
theorem ex2_hot12 (u : Value) (w : World) (hT : TabR w) (hu : RL wx u w) (hz : NZ u) (v : Value) (hv : DL [[1, 2]] v w) :
    Calls Tryd.prog 21 #[.agg #[.int .i64 1, u], v] w fun e w' => (∃ v2, e = .returned (.tuple #[v2, .int .i64 72])) ∧ Below w.heap.size w w' := by
  refine (hotP_any 1 wx [[1, 2]] u v w hT hu hv (by decide)).mono fun e w' ⟨⟨v2, h1, h3⟩, h2⟩ => ⟨?_, h2⟩
  rw [show askE 1 wx [[1, 2]] = 72 by decide +kernel] at h1
  exact ⟨v2, h1⟩
theorem ex2_after2 (u : Value) (w : World) (hT : TabR w) (hu : RL wx u w) (hz : NZ u) (v : Value) (hv : DL [[], []] v w) :
    Calls Tryd.prog 23 #[.agg #[.int .i64 1, u], v] w fun e w' => (∃ p n c, e = .returned (.tuple #[.agg #[.int .i64 0, .slice p n c], .int .i64 73])) ∧ Below w.heap.size w w' := by
  refine (aftP_any 1 wx [[], []] u v w hT hu hz hv (by decide)).mono fun e w' ⟨⟨v2, h1, h3⟩, h2⟩ => ⟨?_, h2⟩
  rw [show aftE 1 wx [[], []] = 73 by decide +kernel, show aftH 1 wx [[], []] = 0 by decide +kernel] at h1
  obtain ⟨p, c, rfl⟩ := row_slice h3
  exact ⟨p, _, c, h1⟩
theorem ex2_rep0 (u : Value) (w : World) (hT : TabR w) (hu : RL wx u w) (hz : NZ u) :
    Calls Tryd.prog 25 #[.agg #[.int .i64 1, u], .slice none 0 0] w fun e w' => e = .returned (.tuple #[.bool false, .int .i64 72]) ∧ Below w.heap.size w w' := by
  exact repP_v 1 wx [] u _ w hT hu hz (DL.nil w) (by decide) 72 false (by
    show _ ∧ _
    decide +kernel)
theorem ex2_put_full (u : Value) (w : World) (hT : TabR w) (hu : RL wf u w) (hz : NZ u) :
    Calls Tryd.prog 43 #[.agg #[.int .i64 1, u], .agg #[.int .i64 0, .int .i64 0, .int .i64 0]] w fun e w' => (∃ p n c, e = .returned (.tuple #[.agg #[.int .i64 0, .slice p n c], .int .i64 9])) ∧ Below w.heap.size w w' := by
  refine (putP_v 1 0 0 0 wf u w hT hu hz 9 0 (by show _ = _; decide +kernel) (by show _ = _; decide +kernel)).mono fun e w' ⟨⟨v2, h1, h3⟩, h2⟩ => ⟨?_, h2⟩
  obtain ⟨p, c, rfl⟩ := row_slice h3
  exact ⟨p, _, c, h1⟩
theorem ex2_put_3 (u : Value) (w : World) (hT : TabR w) (hu : RL wx u w) (hz : NZ u) :
    Calls Tryd.prog 43 #[.agg #[.int .i64 1, u], .agg #[.int .i64 3, .int .i64 1, .int .i64 0]] w fun e w' => (∃ p n c, e = .returned (.tuple #[.agg #[.int .i64 0, .slice p n c], .int .i64 71])) ∧ Below w.heap.size w w' := by
  refine (putP_v 1 3 1 0 wx u w hT hu hz 71 0 (by show _ = _; decide +kernel) (by show _ = _; decide +kernel)).mono fun e w' ⟨⟨v2, h1, h3⟩, h2⟩ => ⟨?_, h2⟩
  obtain ⟨p, c, rfl⟩ := row_slice h3
  exact ⟨p, _, c, h1⟩
theorem ex2_drop4 (u : Value) (w : World) (hT : TabR w) (hu : RL wx u w) (hz : NZ u) :
    Calls Tryd.prog 45 #[.agg #[.int .i64 1, u], .int .i64 4] w fun e w' => (∃ p n c, e = .returned (.tuple #[.agg #[.int .i64 0, .slice p n c], .int .i64 6])) ∧ Below w.heap.size w w' := by
  refine (dropP_v 1 4 wx u w hT hu hz (by decide) (-1) (.inl ⟨rfl, by decide⟩) 6 0 (by show _ = _; decide +kernel) (by show _ = _; decide +kernel)).mono fun e w' ⟨⟨v2, h1, h3⟩, h2⟩ => ⟨?_, h2⟩
  obtain ⟨p, c, rfl⟩ := row_slice h3
  exact ⟨p, _, c, h1⟩
theorem ex2_check_odd (u : Value) (w : World) (hT : TabR w) (hu : RL we u w) :
    Calls Tryd.prog 36 #[.agg #[.int .i64 1, u]] w fun e w' => e = .returned (.int .i64 70) ∧ Below w.heap.size w w' := by
  exact checkP_v 1 we u w hT hu 70 (by show _ = _; simp [we_watch])
theorem ex2_check_wx (u : Value) (w : World) (hT : TabR w) (hu : RL wx u w) :
    Calls Tryd.prog 36 #[.agg #[.int .i64 1, u]] w fun e w' => e = .returned (.int .i64 0) ∧ Below w.heap.size w w' := by
  exact checkP_v 1 wx u w hT hu 0 (by show _ = _; simp [wx_watch])
theorem il_new {l : List Int} {cs : Array Value} {t : TypeId} {w : World} (h : cs.toList = l.map (Value.int .i64)) (hm : l.length ≤ maxLen) : IL l (.slice (some ⟨w.heap.size, 0, none⟩) l.length l.length) (w.alloc (.cells cs t)) :=
  ⟨_, _, rfl, hm, fun _ => ⟨w.heap.size, 0, rfl, fun k hk => by
    have hn := World.alloc_heap_new w (.cells cs t)
    rw [Nat.zero_add]
    refine cell_of_heap (o := k) hn ?_
    rw [← Array.getElem?_toList, h, List.getElem?_map, List.getElem?_eq_getElem hk]
    rfl⟩⟩
end Go.Proofs.YtknpglgpkkhhiaaDoor

/- RoundExamples: the chapter's examples, limits and numbers. -/
namespace Go.Proofs.YtknpglgpkkhhiaaDoor
set_option linter.unusedSimpArgs false
set_option linter.unusedVariables false
open Go.RowKit Go.Proofs.YtknpglgpkkhhiaaDoor.Free2 Go.Proofs.YtknpglgpkkhhiaaDoor.ML RR

theorem cells3_new (x y z : Value) (t : TypeId) (w : World) : ∀ k u, [x, y, z][k]? = some u → (w.alloc (.cells #[x, y, z] t)).cell? ((⟨w.heap.size, 0, none⟩ : Addr).add k) = some u := by
  intro k u hu
  have h9 := World.alloc_heap_new w (.cells #[x, y, z] t)
  rw [addE, Nat.zero_add]
  exact cell_of_heap (o := k) h9 (by rw [← hu]; match k with | 0 => rfl | 1 => rfl | 2 => rfl | k + 3 => simp)
set_option maxRecDepth 100000 in
set_option maxHeartbeats 64000000 in
theorem examL_walk (w : World) (hT : TabR w) :
    Calls Tryd.prog 15 #[] w fun e w' => e = .returned (.bool true) ∧ Below w.heap.size w w' := by
  have HTX := Lib.hid (fun (W : World) (hW : Below w.heap.size w W) => hT.bel hW)
  clear hT
  go_enter Tryd.func15, Tryd.ntmps15
  go_wp2_with fail
  refine (alive_any w (HTX.out w (Below.refl _ _))).mono ?_
  rintro e w1 ⟨rfl, hB1⟩
  have hzz : w.heap.size ≤ w1.heap.size := hB1.size
  generalize hbb : w.heap.size = bb at *
  have HBB := Lib.hid hbb
  clear hbb
  have HB_w1 := Lib.hid (show Below bb w w1 from hB1)
  have hz_w1 : bb ≤ w1.heap.size := hzz
  have FA : ∀ W, Free.Bel w1 W → Hid (TabR W) ∧ bb ≤ W.heap.size := fun W hW => ⟨Lib.hid (HTX.out W (hB1.trans (hW.mono hzz))), Nat.le_trans hz_w1 hW.size⟩
  have KR : Free.Bel w1 w1 := Free.Bel.refl _
  clear hB1 hzz
  go_wp2_with fail
  refine (watchX_any w1).mono ?_
  rintro e w2 ⟨⟨b2, rfl, hb2, hh2⟩, hB⟩
  have HH2 := Lib.hid (rl_of9 hh2)
  have HC2 := Lib.hid (And.intro hb2 hh2)
  have HS2 := Lib.hid hB
  have hq2 : bb ≤ b2 := Nat.le_trans hz_w1 hb2
  have HB_w2 := Lib.hid (HB_w1.out.trans ((hB).mono hz_w1))
  have hz_w2 : bb ≤ w2.heap.size := Nat.le_trans hz_w1 (hB).size
  have FN := fun (W : World) (hW : Free.Bel w2 W) => And.intro (Lib.hid (HH2.out.keeps hW)) (FA W (bt (hB) hW))
  clear FA HB_w1 hz_w1 KR
  have FA := FN
  clear FN
  have KR := Free.Bel.refl w2
  clear hB hb2 hh2 HH2
  go_wp2_with fail
  refine (ex2_moist1 _ w2 (FA w2 (Free.Bel.refl _)).2.1.out ((FA w2 (Free.Bel.refl _)).1).out nz_some).mono ?_
  rintro e w3 ⟨rfl, hB⟩
  have HB_w3 := Lib.hid (HB_w2.out.trans ((hB).mono hz_w2))
  have hz_w3 : bb ≤ w3.heap.size := Nat.le_trans hz_w2 (hB).size
  have FN := fun (W : World) (hW : Free.Bel w3 W) => FA W (bt (hB) hW)
  clear FA HB_w2 hz_w2 KR
  have FA := FN
  clear FN
  have KR := Free.Bel.refl w3
  clear hB
  go_wp2_with fail
  refine (watchX_any w3).mono ?_
  rintro e w4 ⟨⟨b4, rfl, hb4, hh4⟩, hB⟩
  have HH4 := Lib.hid (rl_of9 hh4)
  have HC4 := Lib.hid (And.intro hb4 hh4)
  have HS4 := Lib.hid hB
  have hq4 : bb ≤ b4 := Nat.le_trans hz_w3 hb4
  have HB_w4 := Lib.hid (HB_w3.out.trans ((hB).mono hz_w3))
  have hz_w4 : bb ≤ w4.heap.size := Nat.le_trans hz_w3 (hB).size
  have FN := fun (W : World) (hW : Free.Bel w4 W) => And.intro (Lib.hid (HH4.out.keeps hW)) (FA W (bt (hB) hW))
  clear FA HB_w3 hz_w3 KR
  have FA := FN
  clear FN
  have KR := Free.Bel.refl w4
  clear hB hb4 hh4 HH4
  go_wp2_with fail
  refine (dayX_any _ _).mono ?_
  rintro e wd ⟨rfl, rfl⟩
  go_wp2_with fail
  refine (dayX_any _ _).mono ?_
  rintro e wd ⟨rfl, rfl⟩
  go_wp2_with fail
  refine (dayX_any _ _).mono ?_
  rintro e wd ⟨rfl, rfl⟩
  go_wp2_with fail
  have hdl : DL [[1], [2], [3]] (.slice (some ⟨w4.heap.size + 1 + 1 + 1, 0, none⟩) 3 3) ((((w4.alloc (.cells #[.int .i64 1] 3)).alloc (.cells #[.int .i64 2] 3)).alloc (.cells #[.int .i64 3] 3)).alloc (.cells #[.slice (some ⟨w4.heap.size, 0, none⟩) 1 1, .slice (some ⟨w4.heap.size + 1, 0, none⟩) 1 1, .slice (some ⟨w4.heap.size + 1 + 1, 0, none⟩) 1 1] 58)) := by
    have h9 := dl_new (ds := [[1], [2], [3]]) (us := [.slice (some ⟨w4.heap.size, 0, none⟩) 1 1, .slice (some ⟨w4.heap.size + 1, 0, none⟩) 1 1, .slice (some ⟨w4.heap.size + 1 + 1, 0, none⟩) 1 1]) (t := 58) (w := (((w4.alloc (.cells #[.int .i64 1] 3)).alloc (.cells #[.int .i64 2] 3)).alloc (.cells #[.int .i64 3] 3))) rfl (by simp [maxLen]) (fun k hk u hu => by
      have hk9 : k < 3 := hk
      rcases (show k = 0 ∨ k = 1 ∨ k = 2 by omega) with rfl | rfl | rfl
      · obtain rfl := Option.some.inj hu
        exact (IL.keeps (IL.keeps (show IL [1] (.slice (some ⟨w4.heap.size, 0, none⟩) 1 1) (w4.alloc (.cells #[.int .i64 1] 3)) from by have h8 := il_new (l := [1]) (cs := #[.int .i64 1]) (t := 3) (w := w4) rfl (by simp [maxLen]); simpa using h8) (belAlloc _ _)) (belAlloc _ _))
      · obtain rfl := Option.some.inj hu
        exact (IL.keeps (show IL [2] (.slice (some ⟨w4.heap.size + 1, 0, none⟩) 1 1) ((w4.alloc (.cells #[.int .i64 1] 3)).alloc (.cells #[.int .i64 2] 3)) from by have h8 := il_new (l := [2]) (cs := #[.int .i64 2]) (t := 3) (w := (w4.alloc (.cells #[.int .i64 1] 3))) rfl (by simp [maxLen]); simpa using h8) (belAlloc _ _))
      · obtain rfl := Option.some.inj hu
        exact (show IL [3] (.slice (some ⟨w4.heap.size + 1 + 1, 0, none⟩) 1 1) (((w4.alloc (.cells #[.int .i64 1] 3)).alloc (.cells #[.int .i64 2] 3)).alloc (.cells #[.int .i64 3] 3)) from by have h8 := il_new (l := [3]) (cs := #[.int .i64 3]) (t := 3) (w := ((w4.alloc (.cells #[.int .i64 1] 3)).alloc (.cells #[.int .i64 2] 3))) rfl (by simp [maxLen]); simpa using h8)
      )
    simpa using h9
  have HDL := Lib.hid hdl
  clear hdl
  have KDL : Hid (Free.Bel w4 ((((w4.alloc (.cells #[.int .i64 1] 3)).alloc (.cells #[.int .i64 2] 3)).alloc (.cells #[.int .i64 3] 3)).alloc (.cells #[.slice (some ⟨w4.heap.size, 0, none⟩) 1 1, .slice (some ⟨w4.heap.size + 1, 0, none⟩) 1 1, .slice (some ⟨w4.heap.size + 1 + 1, 0, none⟩) 1 1] 58))) := (bt (bt (bt (bt (Free.Bel.refl _) (belAlloc _ _)) (belAlloc _ _)) (belAlloc _ _)) (belAlloc _ _))
  refine (daysX_any _ _).mono ?_
  rintro e wd ⟨rfl, rfl⟩
  go_wp2_with fail
  refine (ex2_rep3 _ ((((w4.alloc (.cells #[.int .i64 1] 3)).alloc (.cells #[.int .i64 2] 3)).alloc (.cells #[.int .i64 3] 3)).alloc (.cells #[.slice (some ⟨w4.heap.size, 0, none⟩) 1 1, .slice (some ⟨w4.heap.size + 1, 0, none⟩) 1 1, .slice (some ⟨w4.heap.size + 1 + 1, 0, none⟩) 1 1] 58)) ((FA ((((w4.alloc (.cells #[.int .i64 1] 3)).alloc (.cells #[.int .i64 2] 3)).alloc (.cells #[.int .i64 3] 3)).alloc (.cells #[.slice (some ⟨w4.heap.size, 0, none⟩) 1 1, .slice (some ⟨w4.heap.size + 1, 0, none⟩) 1 1, .slice (some ⟨w4.heap.size + 1 + 1, 0, none⟩) 1 1] 58)) KDL.out).2.2.1).out ((FA ((((w4.alloc (.cells #[.int .i64 1] 3)).alloc (.cells #[.int .i64 2] 3)).alloc (.cells #[.int .i64 3] 3)).alloc (.cells #[.slice (some ⟨w4.heap.size, 0, none⟩) 1 1, .slice (some ⟨w4.heap.size + 1, 0, none⟩) 1 1, .slice (some ⟨w4.heap.size + 1 + 1, 0, none⟩) 1 1] 58)) KDL.out).1).out nz_some _ HDL.out).mono ?_
  rintro e w5 ⟨rfl, hB⟩
  have hN : Free.Bel w4 w5 := bt KDL.out hB
  have HB_w5 := Lib.hid (HB_w4.out.trans ((hN).mono hz_w4))
  have hz_w5 : bb ≤ w5.heap.size := Nat.le_trans hz_w4 (hN).size
  have FN := fun (W : World) (hW : Free.Bel w5 W) => FA W (bt (hN) hW)
  clear FA HB_w4 hz_w4 KR
  have FA := FN
  clear FN
  have KR := Free.Bel.refl w5
  clear hN hB KDL HDL
  go_wp2_with fail
  refine (watchX_any w5).mono ?_
  rintro e w6 ⟨⟨b6, rfl, hb6, hh6⟩, hB⟩
  have HH6 := Lib.hid (rl_of9 hh6)
  have HC6 := Lib.hid (And.intro hb6 hh6)
  have HS6 := Lib.hid hB
  have hq6 : bb ≤ b6 := Nat.le_trans hz_w5 hb6
  have HB_w6 := Lib.hid (HB_w5.out.trans ((hB).mono hz_w5))
  have hz_w6 : bb ≤ w6.heap.size := Nat.le_trans hz_w5 (hB).size
  have FN := fun (W : World) (hW : Free.Bel w6 W) => And.intro (Lib.hid (HH6.out.keeps hW)) (FA W (bt (hB) hW))
  clear FA HB_w5 hz_w5 KR
  have FA := FN
  clear FN
  have KR := Free.Bel.refl w6
  clear hB hb6 hh6 HH6
  go_wp2_with fail
  refine (watchX_any w6).mono ?_
  rintro e w7 ⟨⟨b7, rfl, hb7, hh7⟩, hB⟩
  have HH7 := Lib.hid (rl_of9 hh7)
  have HC7 := Lib.hid (And.intro hb7 hh7)
  have HS7 := Lib.hid hB
  have hq7 : bb ≤ b7 := Nat.le_trans hz_w6 hb7
  have HB_w7 := Lib.hid (HB_w6.out.trans ((hB).mono hz_w6))
  have hz_w7 : bb ≤ w7.heap.size := Nat.le_trans hz_w6 (hB).size
  have FN := fun (W : World) (hW : Free.Bel w7 W) => And.intro (Lib.hid (HH7.out.keeps hW)) (FA W (bt (hB) hW))
  clear FA HB_w6 hz_w6 KR
  have FA := FN
  clear FN
  have KR := Free.Bel.refl w7
  clear hB hb7 hh7 HH7
  go_wp2_with fail
  refine (watchX_any w7).mono ?_
  rintro e w8 ⟨⟨b8, rfl, hb8, hh8⟩, hB⟩
  have HH8 := Lib.hid (rl_of9 hh8)
  have HC8 := Lib.hid (And.intro hb8 hh8)
  have HS8 := Lib.hid hB
  have hq8 : bb ≤ b8 := Nat.le_trans hz_w7 hb8
  have HB_w8 := Lib.hid (HB_w7.out.trans ((hB).mono hz_w7))
  have hz_w8 : bb ≤ w8.heap.size := Nat.le_trans hz_w7 (hB).size
  have FN := fun (W : World) (hW : Free.Bel w8 W) => And.intro (Lib.hid (HH8.out.keeps hW)) (FA W (bt (hB) hW))
  clear FA HB_w7 hz_w7 KR
  have FA := FN
  clear FN
  have KR := Free.Bel.refl w8
  clear hB hb8 hh8 HH8
  go_upto_region 6 with fail
  have hxB : ∀ W, W = ((((w8.alloc (.cells #[.int .i64 1, .slice (some ⟨b6, 0, none⟩) 3 3] 24)).alloc (.cells #[.int .i64 1, .slice (some ⟨b7, 0, none⟩) 3 3] 24)).alloc (.cells #[.int .i64 0, .slice none 0 0] 24)).alloc (.cells #[.int .i64 1, .slice (some ⟨b8, 0, none⟩) 3 3] 24)) → Free.Bel w8 W ∧ W.heap[w8.heap.size]? = some (.cells #[.int .i64 1, .slice (some ⟨b6, 0, none⟩) 3 3] 24 (0, 0)) ∧ W.heap[w8.heap.size + 1]? = some (.cells #[.int .i64 1, .slice (some ⟨b7, 0, none⟩) 3 3] 24 (0, 0)) ∧ W.heap[w8.heap.size + 1 + 1]? = some (.cells #[.int .i64 0, .slice none 0 0] 24 (0, 0)) ∧ W.heap[w8.heap.size + 1 + 1 + 1]? = some (.cells #[.int .i64 1, .slice (some ⟨b8, 0, none⟩) 3 3] 24 (0, 0)) ∧ W.heap.size = w8.heap.size + 1 + 1 + 1 + 1 := fun W hW => by
    subst hW
    refine ⟨Bel.allocT (Bel.allocT (Bel.allocT (belAlloc _ _) _) _) _, heap_old (heap_old (heap_old (World.alloc_heap_new _ _))), heap_old (heap_old (by have h9 := World.alloc_heap_new (w8.alloc (.cells #[.int .i64 1, .slice (some ⟨b6, 0, none⟩) 3 3] 24)) (.cells #[.int .i64 1, .slice (some ⟨b7, 0, none⟩) 3 3] 24); simpa using h9)), heap_old (by have h9 := World.alloc_heap_new ((w8.alloc (.cells #[.int .i64 1, .slice (some ⟨b6, 0, none⟩) 3 3] 24)).alloc (.cells #[.int .i64 1, .slice (some ⟨b7, 0, none⟩) 3 3] 24)) (.cells #[.int .i64 0, .slice none 0 0] 24); simpa using h9), by have h9 := World.alloc_heap_new (((w8.alloc (.cells #[.int .i64 1, .slice (some ⟨b6, 0, none⟩) 3 3] 24)).alloc (.cells #[.int .i64 1, .slice (some ⟨b7, 0, none⟩) 3 3] 24)).alloc (.cells #[.int .i64 0, .slice none 0 0] 24)) (.cells #[.int .i64 1, .slice (some ⟨b8, 0, none⟩) 3 3] 24); simpa using h9, by simp⟩
  have HXB := Lib.hid (hxB _ rfl)
  clear hxB
  obtain ⟨L, hL⟩ : ∃ x, w8.heap.size = x := ⟨_, rfl⟩
  have hls : b6 < L ∧ b7 < L ∧ b8 < L ∧ b6 ≠ b7 ∧ b6 ≠ b8 ∧ b7 ≠ b8 := by
    have h1 := lt_of_heap HC6.out.2
    have h2 := lt_of_heap HC7.out.2
    have h3 := lt_of_heap HC8.out.2
    have h4 := HC7.out.1
    have h5 := HC8.out.1
    have h6 := HS7.out.size
    have h7 := HS8.out.size
    omega
  have HLL := Lib.hid hL
  rw [hL] at HXB ⊢
  have hr6 := (HXB.out.1.block b6 (by omega)).trans ((HS8.out.block b6 (by have := lt_of_heap HC6.out.2; have := HS7.out.size; omega)).trans ((HS7.out.block b6 (lt_of_heap HC6.out.2)).trans HC6.out.2))
  have hr7 := (HXB.out.1.block b7 (by omega)).trans ((HS8.out.block b7 (lt_of_heap HC7.out.2)).trans HC7.out.2)
  have hr8 := (HXB.out.1.block b8 (by omega)).trans HC8.out.2
  have HR := Lib.hid (And.intro hr6 (And.intro hr7 hr8))
  have HB8 := Lib.hid (HB_w8.out.trans (HXB.out.1.mono hz_w8))
  have HFT := Lib.hid (fun (W : World) (hW : Below bb w W) (hs : bb ≤ W.heap.size) => HTX.out W hW)
  have hbL : bb ≤ L := by rw [← hL]; exact hz_w8
  clear hr6 hr7 hr8 hL FA KR HC6 HC7 HC8 HS6 HS7 HS8
  generalize ((((w8.alloc (.cells #[.int .i64 1, .slice (some ⟨b6, 0, none⟩) 3 3] 24)).alloc (.cells #[.int .i64 1, .slice (some ⟨b7, 0, none⟩) 3 3] 24)).alloc (.cells #[.int .i64 0, .slice none 0 0] 24)).alloc (.cells #[.int .i64 1, .slice (some ⟨b8, 0, none⟩) 3 3] 24)) = wB at *
  have HFF : Hid (∀ W', RX wB.heap.size [b6] wB.drew W' → W'.heap[L]? = some (.cells #[.int .i64 1, .slice (some ⟨b6, 0, none⟩) 3 3] 24 (0, 0))) := fun W' hR => (hR.block L (by have h9 := HXB.out.2.2.2.2.2; show L < wB.heap.size; omega) (by simp; omega)).trans HXB.out.2.1
  have hF : ∀ W', RX wB.heap.size [b6] wB.drew W' → W'.cell? ⟨L, 1, none⟩ = some (.slice (some ⟨b6, 0, none⟩) 3 3) := fun W' hR => cell_of_heap (o := 1) (HFF.out W' hR) rfl
  have HJ0 := Lib.hid (show JW b6 (fun _ => none) wB.drew from HR.out.1)
  refine Free2.wp_free (R := RX wB.heap.size [b6]) (J := JW b6) (by kernel_rfl) (by kernel_rfl) (RX.refl _ _) RX.trans HJ0.out ?_
  refine Free2.Chain.ex ?_ 0 rfl [] [5] (by kernel_rfl) (by kernel_rfl) rfl (RX.refl _ _) (fun X W v h => JW.skip h 0 v (by decide) (by decide)) ?_ ?_
  rotate_left
  · (intro ev W hb hR hO hD; have hS := hF W hR; obtain ⟨hb1, hb2, hb3⟩ := hb; simp only [Free.AllDeps, Free.AllOuts, Free.At, al1, al2, al3, al4, al5, and_true] at hO hD; go_simp; rfl)
  simp only [an1, an2]
  refine Free2.Chain.ex ?_ 1 rfl [(0, 66)] [] (by kernel_rfl) (by kernel_rfl) rfl (RX.refl _ _) (fun X W v h => JW.skip h 1 v (by decide) (by decide)) ?_ ?_
  rotate_left
  · (intro ev W hb hR hO hD; have hS := hF W hR; obtain ⟨hb1, hb2, hb3⟩ := hb; simp only [Free.AllDeps, Free.AllOuts, Free.At, al1, al2, al3, al4, al5, and_true] at hO hD; go_simp; rfl)
  simp only [an1, an2]
  refine Free2.Chain.ex ?_ 2 rfl [] [5] (by kernel_rfl) (by kernel_rfl) rfl (RX.refl _ _) (fun X W v h => JW.skip h 2 v (by decide) (by decide)) ?_ ?_
  rotate_left
  · (intro ev W hb hR hO hD; have hS := hF W hR; obtain ⟨hb1, hb2, hb3⟩ := hb; simp only [Free.AllDeps, Free.AllOuts, Free.At, al1, al2, al3, al4, al5, and_true] at hO hD; go_simp; rfl)
  simp only [an1, an2]
  refine Free2.Chain.ex ?_ 3 rfl [(2, 68)] [] (by kernel_rfl) (by kernel_rfl) rfl (RX.refl _ _) (fun X W v h => JW.skip h 3 v (by decide) (by decide)) ?_ ?_
  rotate_left
  · (intro ev W hb hR hO hD; have hS := hF W hR; obtain ⟨hb1, hb2, hb3⟩ := hb; simp only [Free.AllDeps, Free.AllOuts, Free.At, al1, al2, al3, al4, al5, and_true] at hO hD; go_simp; rfl)
  simp only [an1, an2]
  refine Free2.Chain.ex ?_ 4 rfl [(1, 67), (0, 66), (1, 67)] [] (by kernel_rfl) (by kernel_rfl) rfl (RX.refl _ _) (fun X W v h => JW.skip h 4 v (by decide) (by decide)) ?_ ?_
  rotate_left
  · (intro ev W hb hR hO hD; have hS := hF W hR; obtain ⟨hb1, hb2, hb3⟩ := hb; simp only [Free.AllDeps, Free.AllOuts, Free.At, al1, al2, al3, al4, al5, and_true] at hO hD; go_simp; rfl)
  simp only [an1, an2]
  refine Free2.Chain.ex ?_ 5 rfl [(4, 70), (0, 66), (1, 67)] [] (by kernel_rfl) (by kernel_rfl) rfl (RX.refl _ _) (fun X W v h => JW.skip h 5 v (by decide) (by decide)) ?_ ?_
  rotate_left
  · (intro ev W hb hR hO hD; have hS := hF W hR; obtain ⟨hb1, hb2, hb3⟩ := hb; simp only [Free.AllDeps, Free.AllOuts, Free.At, al1, al2, al3, al4, al5, and_true] at hO hD; go_simp; rfl)
  simp only [an1, an2]
  refine Free2.Chain.pr (fun _ _ => True) 6 rfl [(5, 71), (0, 66), (1, 67)] [] (by kernel_rfl) (by kernel_rfl) rfl (fun _ _ _ _ h => h) ?_ ?_
  · (intro ev W X hb hR hO hD hj hx hax; have hS := hF W hR; obtain ⟨hb1, hb2, hb3⟩ := hb; simp only [Free.AllDeps, Free.AllOuts, Free.At, al1, al2, al3, al4, al5, and_true] at hO hD; simp only [Free2.AllX, and_true] at hax; obtain ⟨x5, x8, c5, c8, f5, f8⟩ := JW.at hj; go_simp; exact ⟨RX.set (by simp), JW.put6 hj _⟩)
  simp only [an1, an2]
  refine Free2.Chain.ex ?_ 7 rfl [(3, 69), (0, 66), (1, 67), (2, 68), (3, 69), (4, 70), (5, 71)] [] (by kernel_rfl) (by kernel_rfl) rfl (RX.refl _ _) (fun X W v h => JW.skip h 7 v (by decide) (by decide)) ?_ ?_
  rotate_left
  · (intro ev W hb hR hO hD; have hS := hF W hR; obtain ⟨hb1, hb2, hb3⟩ := hb; simp only [Free.AllDeps, Free.AllOuts, Free.At, al1, al2, al3, al4, al5, and_true] at hO hD; go_simp; rfl)
  simp only [an1, an2]
  refine Free2.Chain.ex ?_ 8 rfl [(7, 72), (0, 66), (1, 67), (2, 68), (3, 69), (4, 70), (5, 71)] [] (by kernel_rfl) (by kernel_rfl) rfl (RX.refl _ _) (fun X W v h => JW.skip h 8 v (by decide) (by decide)) ?_ ?_
  rotate_left
  · (intro ev W hb hR hO hD; have hS := hF W hR; obtain ⟨hb1, hb2, hb3⟩ := hb; simp only [Free.AllDeps, Free.AllOuts, Free.At, al1, al2, al3, al4, al5, and_true] at hO hD; go_simp; rfl)
  simp only [an1, an2]
  refine Free2.Chain.pr (fun _ _ => True) 9 rfl [(8, 73), (0, 66), (1, 67), (2, 68), (3, 69), (4, 70), (5, 71)] [] (by kernel_rfl) (by kernel_rfl) rfl (fun _ _ _ _ h => h) ?_ ?_
  · (intro ev W X hb hR hO hD hj hx hax; have hS := hF W hR; obtain ⟨hb1, hb2, hb3⟩ := hb; simp only [Free.AllDeps, Free.AllOuts, Free.At, al1, al2, al3, al4, al5, and_true] at hO hD; simp only [Free2.AllX, and_true] at hax; obtain ⟨x5, x8, c5, c8, f5, f8⟩ := JW.at hj; go_simp; exact ⟨RX.set (by simp), JW.put9 hj _⟩)
  simp only [an1, an2]
  intro ys w9 hR9 hV hX
  obtain ⟨X, hj, hxx⟩ := hX
  simp only [Free.AllV, Free.At, List.length_cons, List.length_nil, Nat.reduceAdd, List.getElem?_cons_succ, List.getElem?_cons_zero, true_and, and_true] at hV
  simp only [Free.putsFrom, Act.put, Nat.zero_add, Nat.reduceAdd, hV, List.setIfInBounds_toArray, List.set_cons_succ, List.set_cons_zero]
  have hl9 : w9.heap[b6]? = some (.cells #[.int .i64 1, .int .i64 2, .int .i64 0, .int .i64 2, .int .i64 4, .int .i64 2, .int .i64 3, .int .i64 4, .int .i64 3] 47 (0, 0)) := by
    have h9 := hj
    unfold JW at h9
    rw [hxx 6 (by decide), hxx 9 (by decide)] at h9
    exact h9
  have K9 : Hid (RX wB.heap.size [b6] wB w9) := ⟨hR9.os, hR9.tape, hR9.output, hR9.size, hR9.block⟩
  have hsB := HXB.out.2.2.2.2.2
  have hl9s : w9.heap.size ≥ wB.heap.size := K9.out.size
  have hkeep : ∀ k q, k ≠ b6 → wB.heap[k]? = some q → w9.heap[k]? = some q := fun k q hk hq => (K9.out.block k (lt_of_heap hq) (by simpa using hk)).trans hq
  have g5 := hkeep _ _ (by omega) HXB.out.2.1
  have g6 := hkeep _ _ (by omega) HXB.out.2.2.1
  have g7 := hkeep _ _ (by omega) HXB.out.2.2.2.1
  have g8 := hkeep _ _ (by omega) HXB.out.2.2.2.2.1
  have r7 := hkeep _ _ (by omega) HR.out.2.1
  have r8 := hkeep _ _ (by omega) HR.out.2.2
  have HB9 := Lib.hid (HB8.out.trans ⟨K9.out.os, K9.out.tape, K9.out.output, K9.out.size, fun k hk => K9.out.block k (by omega) (by simp; omega)⟩)
  have HG := Lib.hid (And.intro hl9 (And.intro g5 (And.intro g6 (And.intro g7 (And.intro g8 (And.intro r7 r8))))))
  have y1 : w9.cell? ⟨L + 1, 1, none⟩ = some (.slice (some ⟨b7, 0, none⟩) 3 3) := cell_of_heap (o := 1) g6 rfl
  have y2 : w9.cell? ⟨b7, 2, none⟩ = some (.int .i64 0) := cell_of_heap (o := 2) r7 rfl
  have y3 : w9.frozen? ⟨b7, 2, none⟩ = false := frozen_of_heap (o := 2) r7
  clear hl9 hR9 hV hj hxx hF hkeep g5 g6 g7 g8 r7 r8 HFF HJ0
  go_upto_region 8 with fail
  have s6 : (w9.setCell ⟨b7, 2, none⟩ (.int .i64 2)).heap[b7]? = some (.cells #[.int .i64 1, .int .i64 2, .int .i64 2, .int .i64 2, .int .i64 4, .int .i64 1, .int .i64 3, .int .i64 4, .int .i64 0] 47 (0, 0)) := by have h9 := heap_setCell_same (o := 2) (.int .i64 2) HG.out.2.2.2.2.2.1; simpa using h9
  have soth : ∀ k q, k ≠ b7 → w9.heap[k]? = some q → (w9.setCell ⟨b7, 2, none⟩ (.int .i64 2)).heap[k]? = some q := fun k q hk hq => heap_other hq (by simpa using hk)
  have hl10 := soth _ _ (by omega) HG.out.1
  have g5 := soth _ _ (by omega) HG.out.2.1
  have g6 := soth _ _ (by omega) HG.out.2.2.1
  have g7 := soth _ _ (by omega) HG.out.2.2.2.1
  have g8 := soth _ _ (by omega) HG.out.2.2.2.2.1
  have r8 := soth _ _ (by omega) HG.out.2.2.2.2.2.2
  have HB10 := Lib.hid (HB9.out.setCell (p := ⟨b7, 2, none⟩) (by simp; omega) (.int .i64 2))
  have hs10 : (w9.setCell ⟨b7, 2, none⟩ (.int .i64 2)).heap.size = w9.heap.size := by simp
  clear HG soth y1 y2 y3
  generalize w9.setCell ⟨b7, 2, none⟩ (.int .i64 2) = w10 at *
  have z1 : w10.cell? ⟨L + 1 + 1 + 1, 1, none⟩ = some (.slice (some ⟨b8, 0, none⟩) 3 3) := cell_of_heap (o := 1) g8 rfl
  have hown8 : w10.ownsRow b8 47 3 (.slice (some ⟨b8, 0, none⟩) 3 3) 3 [.int .i64 1, .int .i64 2, .int .i64 0, .int .i64 2, .int .i64 4, .int .i64 1, .int .i64 3, .int .i64 4, .int .i64 0] := ⟨rfl, .inr ⟨b8, 3, _, rfl, Nat.le_refl _, r8, Nat.le_refl _, by simp [maxLen], rfl, rfl⟩⟩
  obtain ⟨i0, hi0, hz0, hz1, hz2⟩ := info_parts T.infoRick
  have HZ := Lib.hid (And.intro hi0 (And.intro hz0 (And.intro hz1 hz2)))
  clear hi0 hz0 hz1 hz2
  have HG := Lib.hid (And.intro hl10 (And.intro s6 (And.intro g5 (And.intro g6 (And.intro g7 g8)))))
  clear hl10 s6 g5 g6 g7 g8 r8
  go_upto_region 9 with (first | (at_builtin; go_loud (refine wpList_append_row rfl _ _ 22 rfl b8 47 i0 (.agg #[.int .i64 0, .int .i64 0, .int .i64 0]) 3 24 Tryd.underlying22 HZ.out.1 HZ.out.2.1 HZ.out.2.2.1 HZ.out.2.2.2 rfl (by decide) _ _ _ rfl (hown8.alloc _) ⟨w10.heap.size, 0, none⟩ 1 1 [.int .i64 4, .int .i64 1, .int .i64 0] (by first | rfl | simp [Act.eval, Act.put]) (by decide) rfl (cells3_new (.int .i64 4) (.int .i64 1) (.int .i64 0) 47 w10) (fun x hx => by simp at hx; rcases hx with rfl | rfl | rfl <;> rfl) (by unfold maxLen; omega) (by omega) (by simp; omega) ?_); intro v11 w11 hown11 hk8; go_loud (have hk11 : RowK (.slice (some ⟨b8, 0, none⟩) 3 3) (w10.alloc (.cells #[.int .i64 4, .int .i64 1, .int .i64 0] 47)) v11 w11 := hk8; clear hk8; have hoff : ∀ k, k ≠ b8 → Off (.slice (some ⟨b8, 0, none⟩) 3 3) k := (fun k hk => by simp [Off, Value.ownBlock]; omega); have g8 := hk11.heap (hoff (L + 1 + 1 + 1) (by omega)) (heap_old (o := .cells #[.int .i64 4, .int .i64 1, .int .i64 0] 47) HG.out.2.2.2.2.2); have z2 : w11.cell? ⟨L + 1 + 1 + 1, 1, none⟩ = some (.slice (some ⟨b8, 0, none⟩) 3 3) := cell_of_heap (o := 1) g8 rfl; have z3 : w11.frozen? ⟨L + 1 + 1 + 1, 1, none⟩ = false := frozen_of_heap (o := 1) g8; have HK11 := Lib.hid (And.intro hown11 hk11); obtain ⟨q11, c11, rfl⟩ := row_slice hown11; clear hown11 hk11)) | fail)
  have hoff : ∀ k, k ≠ b8 → Off (.slice (some ⟨b8, 0, none⟩) 3 3) k := fun k hk => by simp [Off, Value.ownBlock]; omega
  have hk : ∀ k q, k ≠ b8 → k ≠ L + 1 + 1 + 1 → w10.heap[k]? = some q → (w11.setCell ⟨L + 1 + 1 + 1, 1, none⟩ (.slice q11 4 c11)).heap[k]? = some q := fun k q h1 h2 hq => heap_other (HK11.out.2.heap (hoff k h1) (heap_old hq)) (by simpa using h2)
  have e1 := hk _ _ (by omega) (by omega) HG.out.1
  have e2 := hk _ _ (by omega) (by omega) HG.out.2.1
  have e3 := hk _ _ (by omega) (by omega) HG.out.2.2.1
  have e4 := hk _ _ (by omega) (by omega) HG.out.2.2.2.1
  have e5 := hk _ _ (by omega) (by omega) HG.out.2.2.2.2.1
  have e6 : (w11.setCell ⟨L + 1 + 1 + 1, 1, none⟩ (.slice q11 4 c11)).heap[L + 1 + 1 + 1]? = some (.cells #[.int .i64 1, .slice q11 4 c11] 24 (0, 0)) := by have h9 := heap_setCell_same (o := 1) (.slice q11 4 c11) g8; simpa using h9
  have e7 : (w11.setCell ⟨L + 1 + 1 + 1, 1, none⟩ (.slice q11 4 c11)).ownsRow b8 47 3 (.slice q11 4 c11) 4 (cellsR wf) := own_typed HK11.out.1 fun k c f hk9 => heap_other hk9 (by rintro rfl; rw [g8] at hk9; cases hk9)
  have hB12 : Below bb w (w11.setCell ⟨L + 1 + 1 + 1, 1, none⟩ (.slice q11 4 c11)) := (HB10.out.trans (((Below.refl _ w10).alloc (by omega) _).trans ((HK11.out.2.below (hown8.alloc _) (by simp; omega)).mono (by omega)))).setCell (by simp; omega) _
  have hz12 : bb ≤ (w11.setCell ⟨L + 1 + 1 + 1, 1, none⟩ (.slice q11 4 c11)).heap.size := by have := lt_of_heap e6; omega
  have HRL6 := Lib.hid (show RL wl _ _ from rl_of9 e1)
  have HRL7 := Lib.hid (show RL we _ _ from rl_of9 e2)
  have HRL8 := Lib.hid (show RL wf _ _ from RL.of_row rfl (by simp [maxLen, wf]) e7)
  have HNF := Lib.hid (NZ.row e7)
  clear e1 e2 e7 hk hoff g8 z1 z2 z3 HK11 HG hown8
  generalize w11.setCell ⟨L + 1 + 1 + 1, 1, none⟩ (.slice q11 4 c11) = w12 at *
  have HB_w12 := Lib.hid (show Below bb w w12 from hB12)
  have hz_w12 : bb ≤ w12.heap.size := hz12
  have FA : ∀ W, Free.Bel w12 W → W.cell? ⟨L, 0, none⟩ = some (.int .i64 1) ∧ W.cell? ⟨L, 1, none⟩ = some (.slice (some ⟨b6, 0, none⟩) 3 3) ∧ W.cell? ⟨L + 1, 0, none⟩ = some (.int .i64 1) ∧ W.cell? ⟨L + 1, 1, none⟩ = some (.slice (some ⟨b7, 0, none⟩) 3 3) ∧ W.cell? ⟨L + 1 + 1, 0, none⟩ = some (.int .i64 0) ∧ W.cell? ⟨L + 1 + 1, 1, none⟩ = some (.slice none 0 0) ∧ W.cell? ⟨L + 1 + 1 + 1, 0, none⟩ = some (.int .i64 1) ∧ W.cell? ⟨L + 1 + 1 + 1, 1, none⟩ = some (.slice q11 4 c11) ∧ Hid (RL wl (.slice (some ⟨b6, 0, none⟩) 3 3) W) ∧ Hid (RL we (.slice (some ⟨b7, 0, none⟩) 3 3) W) ∧ Hid (RL wf (.slice q11 4 c11) W) ∧ Hid (TabR W) ∧ bb ≤ W.heap.size := fun W hW => ⟨keepsB hW (cell_of_heap (o := 0) e3 rfl), keepsB hW (cell_of_heap (o := 1) e3 rfl), keepsB hW (cell_of_heap (o := 0) e4 rfl), keepsB hW (cell_of_heap (o := 1) e4 rfl), keepsB hW (cell_of_heap (o := 0) e5 rfl), keepsB hW (cell_of_heap (o := 1) e5 rfl), keepsB hW (cell_of_heap (o := 0) e6 rfl), keepsB hW (cell_of_heap (o := 1) e6 rfl), Lib.hid (HRL6.out.keeps hW), Lib.hid (HRL7.out.keeps hW), Lib.hid (HRL8.out.keeps hW), Lib.hid (HFT.out W (hB12.trans (hW.mono hz12)) (Nat.le_trans hz12 hW.size)), Nat.le_trans hz_w12 hW.size⟩
  have KR : Free.Bel w12 w12 := Free.Bel.refl _
  clear hB12 hz12 e3 e4 e5 e6 HRL6 HRL7 HRL8
  go_wp2_with fail
  refine (ex2_can_late _ w12 (FA w12 (Free.Bel.refl _)).2.2.2.2.2.2.2.2.2.2.2.1.out ((FA w12 (Free.Bel.refl _)).2.2.2.2.2.2.2.2.1).out).mono ?_
  rintro e w13 ⟨rfl, hB⟩
  have HB_w13 := Lib.hid (HB_w12.out.trans ((hB).mono hz_w12))
  have hz_w13 : bb ≤ w13.heap.size := Nat.le_trans hz_w12 (hB).size
  have FN := fun (W : World) (hW : Free.Bel w13 W) => FA W (bt (hB) hW)
  clear FA HB_w12 hz_w12 KR
  have FA := FN
  clear FN
  have KR := Free.Bel.refl w13
  clear hB
  go_wp2_with fail
  refine (ex2_share_bare _ w13 (FA w13 (Free.Bel.refl _)).2.2.2.2.2.2.2.2.2.2.2.1.out (RL.nil _)).mono ?_
  rintro e w14 ⟨rfl, hB⟩
  have HB_w14 := Lib.hid (HB_w13.out.trans ((hB).mono hz_w13))
  have hz_w14 : bb ≤ w14.heap.size := Nat.le_trans hz_w13 (hB).size
  have FN := fun (W : World) (hW : Free.Bel w14 W) => FA W (bt (hB) hW)
  clear FA HB_w13 hz_w13 KR
  have FA := FN
  clear FN
  have KR := Free.Bel.refl w14
  clear hB
  have KA0 : Free.Bel w14 (w14.alloc (.cells #[.int .i64 0, .int .i64 1] 51)) := Bel.allocT (Free.Bel.refl _) _
  go_wp2_with fail
  clear KA0
  have hN : Free.Bel w14 (w14.alloc (.cells #[.int .i64 0, .int .i64 1] 51)) := (Bel.allocT (Free.Bel.refl w14) _)
  have n_g140_0 : (w14.alloc (.cells #[.int .i64 0, .int .i64 1] 51)).cell? ⟨w14.heap.size, 0, none⟩ = some (.int .i64 0) := by simp [go_sem]
  have n_g140_1 : (w14.alloc (.cells #[.int .i64 0, .int .i64 1] 51)).cell? ⟨w14.heap.size, 1, none⟩ = some (.int .i64 1) := by simp [go_sem]
  generalize (w14.alloc (.cells #[.int .i64 0, .int .i64 1] 51)) = w15 at *
  obtain ⟨g140, hgz⟩ : ∃ x, x = w14.heap.size := ⟨_, rfl⟩
  rw [← hgz] at n_g140_0 n_g140_1 ⊢
  clear hgz
  have HB_w15 := Lib.hid (HB_w14.out.trans ((hN).mono hz_w14))
  have hz_w15 : bb ≤ w15.heap.size := Nat.le_trans hz_w14 (hN).size
  have FN := fun (W : World) (hW : Free.Bel w15 W) => And.intro (keepsB hW n_g140_0) (And.intro (keepsB hW n_g140_1) (FA W (bt (hN) hW)))
  clear FA HB_w14 hz_w14 KR
  have FA := FN
  clear FN
  have KR := Free.Bel.refl w15
  clear hN n_g140_0 n_g140_1
  go_wp2_with fail
  refine (ex2_round_bare _ w15 (FA w15 (Free.Bel.refl _)).2.2.2.2.2.2.2.2.2.2.2.2.2.1.out (RL.nil _)).mono ?_
  rintro e w16 ⟨⟨p1, c1, g2, c2, p3, c3, rfl, hcl⟩, hB⟩
  have HB_w16 := Lib.hid (HB_w15.out.trans ((hB).mono hz_w15))
  have hz_w16 : bb ≤ w16.heap.size := Nat.le_trans hz_w15 (hB).size
  have FN := fun (W : World) (hW : Free.Bel w16 W) => And.intro (keepsB hW hcl) (FA W (bt (hB) hW))
  clear FA HB_w15 hz_w15 KR
  have FA := FN
  clear FN
  have KR := Free.Bel.refl w16
  clear hB hcl
  go_wp2_with fail
  refine (ex2_can_odd _ w16 (FA w16 (Free.Bel.refl _)).2.2.2.2.2.2.2.2.2.2.2.2.2.2.1.out ((FA w16 (Free.Bel.refl _)).2.2.2.2.2.2.2.2.2.2.2.2.1).out).mono ?_
  rintro e w17 ⟨rfl, hB⟩
  have HB_w17 := Lib.hid (HB_w16.out.trans ((hB).mono hz_w16))
  have hz_w17 : bb ≤ w17.heap.size := Nat.le_trans hz_w16 (hB).size
  have FN := fun (W : World) (hW : Free.Bel w17 W) => FA W (bt (hB) hW)
  clear FA HB_w16 hz_w16 KR
  have FA := FN
  clear FN
  have KR := Free.Bel.refl w17
  clear hB
  go_wp2_with fail
  refine (ex2_today_late _ w17 (FA w17 (Free.Bel.refl _)).2.2.2.2.2.2.2.2.2.2.2.2.2.2.1.out ((FA w17 (Free.Bel.refl _)).2.2.2.2.2.2.2.2.2.2.2.1).out).mono ?_
  rintro e w18 ⟨rfl, hB⟩
  have HB_w18 := Lib.hid (HB_w17.out.trans ((hB).mono hz_w17))
  have hz_w18 : bb ≤ w18.heap.size := Nat.le_trans hz_w17 (hB).size
  have FN := fun (W : World) (hW : Free.Bel w18 W) => FA W (bt (hB) hW)
  clear FA HB_w17 hz_w17 KR
  have FA := FN
  clear FN
  have KR := Free.Bel.refl w18
  clear hB
  go_wp2_with fail
  refine (ex2_days61 _ w18 (FA w18 (Free.Bel.refl _)).2.2.2.2.2.2.2.2.2.2.2.2.2.2.1.out ((FA w18 (Free.Bel.refl _)).2.2.2.2.2.2.2.2.2.2.2.1).out).mono ?_
  rintro e w19 ⟨rfl, hB⟩
  have HB_w19 := Lib.hid (HB_w18.out.trans ((hB).mono hz_w18))
  have hz_w19 : bb ≤ w19.heap.size := Nat.le_trans hz_w18 (hB).size
  have FN := fun (W : World) (hW : Free.Bel w19 W) => FA W (bt (hB) hW)
  clear FA HB_w18 hz_w18 KR
  have FA := FN
  clear FN
  have KR := Free.Bel.refl w19
  clear hB
  go_wp2_with fail
  refine (ex2_days60 _ w19 (FA w19 (Free.Bel.refl _)).2.2.2.2.2.2.2.2.2.2.2.2.2.2.1.out ((FA w19 (Free.Bel.refl _)).2.2.2.2.2.2.2.2.2.2.2.1).out).mono ?_
  rintro e w20 ⟨rfl, hB⟩
  have HB_w20 := Lib.hid (HB_w19.out.trans ((hB).mono hz_w19))
  have hz_w20 : bb ≤ w20.heap.size := Nat.le_trans hz_w19 (hB).size
  have FN := fun (W : World) (hW : Free.Bel w20 W) => FA W (bt (hB) hW)
  clear FA HB_w19 hz_w19 KR
  have FA := FN
  clear FN
  have KR := Free.Bel.refl w20
  clear hB
  go_wp2_with fail
  refine (ex2_round_late _ w20 (FA w20 (Free.Bel.refl _)).2.2.2.2.2.2.2.2.2.2.2.2.2.2.1.out ((FA w20 (Free.Bel.refl _)).2.2.2.2.2.2.2.2.2.2.2.1).out).mono ?_
  rintro e w21 ⟨rfl, hB⟩
  have HB_w21 := Lib.hid (HB_w20.out.trans ((hB).mono hz_w20))
  have hz_w21 : bb ≤ w21.heap.size := Nat.le_trans hz_w20 (hB).size
  have FN := fun (W : World) (hW : Free.Bel w21 W) => FA W (bt (hB) hW)
  clear FA HB_w20 hz_w20 KR
  have FA := FN
  clear FN
  have KR := Free.Bel.refl w21
  clear hB
  go_wp2_with fail
  refine (watchX_any w21).mono ?_
  rintro e w22 ⟨⟨b22, rfl, hb22, hh22⟩, hB⟩
  have HH22 := Lib.hid (rl_of9 hh22)
  have HC22 := Lib.hid (And.intro hb22 hh22)
  have HS22 := Lib.hid hB
  have hq22 : bb ≤ b22 := Nat.le_trans hz_w21 hb22
  have HB_w22 := Lib.hid (HB_w21.out.trans ((hB).mono hz_w21))
  have hz_w22 : bb ≤ w22.heap.size := Nat.le_trans hz_w21 (hB).size
  have FN := fun (W : World) (hW : Free.Bel w22 W) => And.intro (Lib.hid (HH22.out.keeps hW)) (FA W (bt (hB) hW))
  clear FA HB_w21 hz_w21 KR
  have FA := FN
  clear FN
  have KR := Free.Bel.refl w22
  clear hB hb22 hh22 HH22
  go_wp2_with fail
  refine (ex2_last_wx _ w22 (FA w22 (Free.Bel.refl _)).2.2.2.2.2.2.2.2.2.2.2.2.2.2.2.1.out ((FA w22 (Free.Bel.refl _)).1).out).mono ?_
  rintro e w23 ⟨rfl, hB⟩
  have HB_w23 := Lib.hid (HB_w22.out.trans ((hB).mono hz_w22))
  have hz_w23 : bb ≤ w23.heap.size := Nat.le_trans hz_w22 (hB).size
  have FN := fun (W : World) (hW : Free.Bel w23 W) => FA W (bt (hB) hW)
  clear FA HB_w22 hz_w22 KR
  have FA := FN
  clear FN
  have KR := Free.Bel.refl w23
  clear hB
  go_wp2_with fail
  refine (ex2_few_full _ w23 (FA w23 (Free.Bel.refl _)).2.2.2.2.2.2.2.2.2.2.2.2.2.2.2.1.out ((FA w23 (Free.Bel.refl _)).2.2.2.2.2.2.2.2.2.2.2.2.2.2.1).out).mono ?_
  rintro e w24 ⟨rfl, hB⟩
  have HB_w24 := Lib.hid (HB_w23.out.trans ((hB).mono hz_w23))
  have hz_w24 : bb ≤ w24.heap.size := Nat.le_trans hz_w23 (hB).size
  have FN := fun (W : World) (hW : Free.Bel w24 W) => FA W (bt (hB) hW)
  clear FA HB_w23 hz_w23 KR
  have FA := FN
  clear FN
  have KR := Free.Bel.refl w24
  clear hB
  go_wp2_with fail
  refine (ex2_moist_9 _ w24 (FA w24 (Free.Bel.refl _)).2.2.2.2.2.2.2.2.2.2.2.2.2.2.2.1.out ((FA w24 (Free.Bel.refl _)).2.2.2.2.2.2.2.2.2.2.2.2.2.2.1).out HNF.out).mono ?_
  rintro e w25 ⟨rfl, hB⟩
  have HB_w25 := Lib.hid (HB_w24.out.trans ((hB).mono hz_w24))
  have hz_w25 : bb ≤ w25.heap.size := Nat.le_trans hz_w24 (hB).size
  have FN := fun (W : World) (hW : Free.Bel w25 W) => FA W (bt (hB) hW)
  clear FA HB_w24 hz_w24 KR
  have FA := FN
  clear FN
  have KR := Free.Bel.refl w25
  clear hB
  go_wp2_with fail
  refine (ex2_moist_f1 _ w25 (FA w25 (Free.Bel.refl _)).2.2.2.2.2.2.2.2.2.2.2.2.2.2.2.1.out ((FA w25 (Free.Bel.refl _)).2.2.2.2.2.2.2.2.2.2.2.2.2.2.1).out HNF.out).mono ?_
  rintro e w26 ⟨rfl, hB⟩
  have HB_w26 := Lib.hid (HB_w25.out.trans ((hB).mono hz_w25))
  have hz_w26 : bb ≤ w26.heap.size := Nat.le_trans hz_w25 (hB).size
  have FN := fun (W : World) (hW : Free.Bel w26 W) => FA W (bt (hB) hW)
  clear FA HB_w25 hz_w25 KR
  have FA := FN
  clear FN
  have KR := Free.Bel.refl w26
  clear hB
  go_wp2_with fail
  refine (ex2_spare_late _ w26 (FA w26 (Free.Bel.refl _)).2.2.2.2.2.2.2.2.2.2.2.2.2.2.2.1.out ((FA w26 (Free.Bel.refl _)).2.2.2.2.2.2.2.2.2.2.2.2.1).out).mono ?_
  rintro e w27 ⟨rfl, hB⟩
  have HB_w27 := Lib.hid (HB_w26.out.trans ((hB).mono hz_w26))
  have hz_w27 : bb ≤ w27.heap.size := Nat.le_trans hz_w26 (hB).size
  have FN := fun (W : World) (hW : Free.Bel w27 W) => FA W (bt (hB) hW)
  clear FA HB_w26 hz_w26 KR
  have FA := FN
  clear FN
  have KR := Free.Bel.refl w27
  clear hB
  go_wp2_with fail
  refine (ex2_spare_bare _ w27 (FA w27 (Free.Bel.refl _)).2.2.2.2.2.2.2.2.2.2.2.2.2.2.2.1.out (RL.nil _)).mono ?_
  rintro e w28 ⟨rfl, hB⟩
  have HB_w28 := Lib.hid (HB_w27.out.trans ((hB).mono hz_w27))
  have hz_w28 : bb ≤ w28.heap.size := Nat.le_trans hz_w27 (hB).size
  have FN := fun (W : World) (hW : Free.Bel w28 W) => FA W (bt (hB) hW)
  clear FA HB_w27 hz_w27 KR
  have FA := FN
  clear FN
  have KR := Free.Bel.refl w28
  clear hB
  go_wp2_with fail
  refine (watchX_any w28).mono ?_
  rintro e w29 ⟨⟨b29, rfl, hb29, hh29⟩, hB⟩
  have HH29 := Lib.hid (rl_of9 hh29)
  have HC29 := Lib.hid (And.intro hb29 hh29)
  have HS29 := Lib.hid hB
  have hq29 : bb ≤ b29 := Nat.le_trans hz_w28 hb29
  have HB_w29 := Lib.hid (HB_w28.out.trans ((hB).mono hz_w28))
  have hz_w29 : bb ≤ w29.heap.size := Nat.le_trans hz_w28 (hB).size
  have FN := fun (W : World) (hW : Free.Bel w29 W) => And.intro (Lib.hid (HH29.out.keeps hW)) (FA W (bt (hB) hW))
  clear FA HB_w28 hz_w28 KR
  have FA := FN
  clear FN
  have KR := Free.Bel.refl w29
  clear hB hb29 hh29 HH29
  go_wp2_with fail
  refine (dayX_any _ _).mono ?_
  rintro e wd ⟨rfl, rfl⟩
  go_wp2_with fail
  have hdl : DL [[1, 2]] (.slice (some ⟨w29.heap.size + 1, 0, none⟩) 1 1) ((w29.alloc (.cells #[.int .i64 1, .int .i64 2] 3)).alloc (.cells #[.slice (some ⟨w29.heap.size, 0, none⟩) 2 2] 58)) := by
    have h9 := dl_new (ds := [[1, 2]]) (us := [.slice (some ⟨w29.heap.size, 0, none⟩) 2 2]) (t := 58) (w := (w29.alloc (.cells #[.int .i64 1, .int .i64 2] 3))) rfl (by simp [maxLen]) (fun k hk u hu => by
      have hk9 : k < 1 := hk
      rcases (show k = 0 by omega) with rfl
      · obtain rfl := Option.some.inj hu
        exact (show IL [1, 2] (.slice (some ⟨w29.heap.size, 0, none⟩) 2 2) (w29.alloc (.cells #[.int .i64 1, .int .i64 2] 3)) from by have h8 := il_new (l := [1, 2]) (cs := #[.int .i64 1, .int .i64 2]) (t := 3) (w := w29) rfl (by simp [maxLen]); simpa using h8)
      )
    simpa using h9
  have HDL := Lib.hid hdl
  clear hdl
  have KDL : Hid (Free.Bel w29 ((w29.alloc (.cells #[.int .i64 1, .int .i64 2] 3)).alloc (.cells #[.slice (some ⟨w29.heap.size, 0, none⟩) 2 2] 58))) := (bt (bt (Free.Bel.refl _) (belAlloc _ _)) (belAlloc _ _))
  refine (daysX_any _ _).mono ?_
  rintro e wd ⟨rfl, rfl⟩
  go_wp2_with fail
  refine (ex2_hot12 _ ((w29.alloc (.cells #[.int .i64 1, .int .i64 2] 3)).alloc (.cells #[.slice (some ⟨w29.heap.size, 0, none⟩) 2 2] 58)) ((FA ((w29.alloc (.cells #[.int .i64 1, .int .i64 2] 3)).alloc (.cells #[.slice (some ⟨w29.heap.size, 0, none⟩) 2 2] 58)) KDL.out).2.2.2.2.2.2.2.2.2.2.2.2.2.2.2.2.1).out ((FA ((w29.alloc (.cells #[.int .i64 1, .int .i64 2] 3)).alloc (.cells #[.slice (some ⟨w29.heap.size, 0, none⟩) 2 2] 58)) KDL.out).1).out nz_some _ HDL.out).mono ?_
  rintro e w30 ⟨⟨v2, rfl⟩, hB⟩
  have hN : Free.Bel w29 w30 := bt KDL.out hB
  have HB_w30 := Lib.hid (HB_w29.out.trans ((hN).mono hz_w29))
  have hz_w30 : bb ≤ w30.heap.size := Nat.le_trans hz_w29 (hN).size
  have FN := fun (W : World) (hW : Free.Bel w30 W) => FA W (bt (hN) hW)
  clear FA HB_w29 hz_w29 KR
  have FA := FN
  clear FN
  have KR := Free.Bel.refl w30
  clear hN hB KDL HDL
  go_wp2_with fail
  refine (watchX_any w30).mono ?_
  rintro e w31 ⟨⟨b31, rfl, hb31, hh31⟩, hB⟩
  have HH31 := Lib.hid (rl_of9 hh31)
  have HC31 := Lib.hid (And.intro hb31 hh31)
  have HS31 := Lib.hid hB
  have hq31 : bb ≤ b31 := Nat.le_trans hz_w30 hb31
  have HB_w31 := Lib.hid (HB_w30.out.trans ((hB).mono hz_w30))
  have hz_w31 : bb ≤ w31.heap.size := Nat.le_trans hz_w30 (hB).size
  have FN := fun (W : World) (hW : Free.Bel w31 W) => And.intro (Lib.hid (HH31.out.keeps hW)) (FA W (bt (hB) hW))
  clear FA HB_w30 hz_w30 KR
  have FA := FN
  clear FN
  have KR := Free.Bel.refl w31
  clear hB hb31 hh31 HH31
  go_wp2_with fail
  have hdl : DL [[], []] (.slice (some ⟨w31.heap.size, 0, none⟩) 2 2) (w31.alloc (.cells #[.slice none 0 0, .slice none 0 0] 58)) := by
    have h9 := dl_new (ds := [[], []]) (us := [.slice none 0 0, .slice none 0 0]) (t := 58) (w := w31) rfl (by simp [maxLen]) (fun k hk u hu => by
      have hk9 : k < 2 := hk
      rcases (show k = 0 ∨ k = 1 by omega) with rfl | rfl
      · obtain rfl := Option.some.inj hu
        exact IL.nil _
      · obtain rfl := Option.some.inj hu
        exact IL.nil _
      )
    simpa using h9
  have HDL := Lib.hid hdl
  clear hdl
  have KDL : Hid (Free.Bel w31 (w31.alloc (.cells #[.slice none 0 0, .slice none 0 0] 58))) := (bt (Free.Bel.refl _) (belAlloc _ _))
  refine (daysX_any _ _).mono ?_
  rintro e wd ⟨rfl, rfl⟩
  go_wp2_with fail
  refine (ex2_after2 _ (w31.alloc (.cells #[.slice none 0 0, .slice none 0 0] 58)) ((FA (w31.alloc (.cells #[.slice none 0 0, .slice none 0 0] 58)) KDL.out).2.2.2.2.2.2.2.2.2.2.2.2.2.2.2.2.2.1).out ((FA (w31.alloc (.cells #[.slice none 0 0, .slice none 0 0] 58)) KDL.out).1).out nz_some _ HDL.out).mono ?_
  rintro e w32 ⟨⟨px, nx, cx, rfl⟩, hB⟩
  have hN : Free.Bel w31 w32 := bt KDL.out hB
  have HB_w32 := Lib.hid (HB_w31.out.trans ((hN).mono hz_w31))
  have hz_w32 : bb ≤ w32.heap.size := Nat.le_trans hz_w31 (hN).size
  have FN := fun (W : World) (hW : Free.Bel w32 W) => FA W (bt (hN) hW)
  clear FA HB_w31 hz_w31 KR
  have FA := FN
  clear FN
  have KR := Free.Bel.refl w32
  clear hN hB KDL HDL
  have KA0 : Free.Bel w32 (w32.alloc (.cells #[.int .i64 0, .slice px nx cx] 24)) := Bel.allocT (Free.Bel.refl _) _
  go_wp2_with fail
  clear KA0
  have hN : Free.Bel w32 (w32.alloc (.cells #[.int .i64 0, .slice px nx cx] 24)) := (Bel.allocT (Free.Bel.refl w32) _)
  have n_g320_0 : (w32.alloc (.cells #[.int .i64 0, .slice px nx cx] 24)).cell? ⟨w32.heap.size, 0, none⟩ = some (.int .i64 0) := by simp [go_sem]
  have n_g320_1 : (w32.alloc (.cells #[.int .i64 0, .slice px nx cx] 24)).cell? ⟨w32.heap.size, 1, none⟩ = some (.slice px nx cx) := by simp [go_sem]
  generalize (w32.alloc (.cells #[.int .i64 0, .slice px nx cx] 24)) = w33 at *
  obtain ⟨g320, hgz⟩ : ∃ x, x = w32.heap.size := ⟨_, rfl⟩
  rw [← hgz] at n_g320_0 n_g320_1 ⊢
  clear hgz
  have HB_w33 := Lib.hid (HB_w32.out.trans ((hN).mono hz_w32))
  have hz_w33 : bb ≤ w33.heap.size := Nat.le_trans hz_w32 (hN).size
  have FN := fun (W : World) (hW : Free.Bel w33 W) => And.intro (keepsB hW n_g320_0) (And.intro (keepsB hW n_g320_1) (FA W (bt (hN) hW)))
  clear FA HB_w32 hz_w32 KR
  have FA := FN
  clear FN
  have KR := Free.Bel.refl w33
  clear hN n_g320_0 n_g320_1
  go_wp2_with fail
  refine (watchX_any w33).mono ?_
  rintro e w34 ⟨⟨b34, rfl, hb34, hh34⟩, hB⟩
  have HH34 := Lib.hid (rl_of9 hh34)
  have HC34 := Lib.hid (And.intro hb34 hh34)
  have HS34 := Lib.hid hB
  have hq34 : bb ≤ b34 := Nat.le_trans hz_w33 hb34
  have HB_w34 := Lib.hid (HB_w33.out.trans ((hB).mono hz_w33))
  have hz_w34 : bb ≤ w34.heap.size := Nat.le_trans hz_w33 (hB).size
  have FN := fun (W : World) (hW : Free.Bel w34 W) => And.intro (Lib.hid (HH34.out.keeps hW)) (FA W (bt (hB) hW))
  clear FA HB_w33 hz_w33 KR
  have FA := FN
  clear FN
  have KR := Free.Bel.refl w34
  clear hB hb34 hh34 HH34
  go_wp2_with fail
  refine (ex2_rep0 _ w34 (FA w34 (Free.Bel.refl _)).2.2.2.2.2.2.2.2.2.2.2.2.2.2.2.2.2.2.2.2.1.out ((FA w34 (Free.Bel.refl _)).1).out nz_some).mono ?_
  rintro e w35 ⟨rfl, hB⟩
  have HB_w35 := Lib.hid (HB_w34.out.trans ((hB).mono hz_w34))
  have hz_w35 : bb ≤ w35.heap.size := Nat.le_trans hz_w34 (hB).size
  have FN := fun (W : World) (hW : Free.Bel w35 W) => FA W (bt (hB) hW)
  clear FA HB_w34 hz_w34 KR
  have FA := FN
  clear FN
  have KR := Free.Bel.refl w35
  clear hB
  go_wp2_with fail
  refine (ex2_put_full _ w35 (FA w35 (Free.Bel.refl _)).2.2.2.2.2.2.2.2.2.2.2.2.2.2.2.2.2.2.2.2.1.out ((FA w35 (Free.Bel.refl _)).2.2.2.2.2.2.2.2.2.2.2.2.2.2.2.2.2.2.2.1).out HNF.out).mono ?_
  rintro e w36 ⟨⟨pp1, nn1, cc1, rfl⟩, hB⟩
  have HB_w36 := Lib.hid (HB_w35.out.trans ((hB).mono hz_w35))
  have hz_w36 : bb ≤ w36.heap.size := Nat.le_trans hz_w35 (hB).size
  have FN := fun (W : World) (hW : Free.Bel w36 W) => FA W (bt (hB) hW)
  clear FA HB_w35 hz_w35 KR
  have FA := FN
  clear FN
  have KR := Free.Bel.refl w36
  clear hB
  have KA0 : Free.Bel w36 (w36.alloc (.cells #[.int .i64 0, .slice pp1 nn1 cc1] 24)) := Bel.allocT (Free.Bel.refl _) _
  go_wp2_with fail
  clear KA0
  have hN : Free.Bel w36 (w36.alloc (.cells #[.int .i64 0, .slice pp1 nn1 cc1] 24)) := (Bel.allocT (Free.Bel.refl w36) _)
  have n_g360_0 : (w36.alloc (.cells #[.int .i64 0, .slice pp1 nn1 cc1] 24)).cell? ⟨w36.heap.size, 0, none⟩ = some (.int .i64 0) := by simp [go_sem]
  have n_g360_1 : (w36.alloc (.cells #[.int .i64 0, .slice pp1 nn1 cc1] 24)).cell? ⟨w36.heap.size, 1, none⟩ = some (.slice pp1 nn1 cc1) := by simp [go_sem]
  generalize (w36.alloc (.cells #[.int .i64 0, .slice pp1 nn1 cc1] 24)) = w37 at *
  obtain ⟨g360, hgz⟩ : ∃ x, x = w36.heap.size := ⟨_, rfl⟩
  rw [← hgz] at n_g360_0 n_g360_1 ⊢
  clear hgz
  have HB_w37 := Lib.hid (HB_w36.out.trans ((hN).mono hz_w36))
  have hz_w37 : bb ≤ w37.heap.size := Nat.le_trans hz_w36 (hN).size
  have FN := fun (W : World) (hW : Free.Bel w37 W) => And.intro (keepsB hW n_g360_0) (And.intro (keepsB hW n_g360_1) (FA W (bt (hN) hW)))
  clear FA HB_w36 hz_w36 KR
  have FA := FN
  clear FN
  have KR := Free.Bel.refl w37
  clear hN n_g360_0 n_g360_1
  go_wp2_with fail
  refine (watchX_any w37).mono ?_
  rintro e w38 ⟨⟨b38, rfl, hb38, hh38⟩, hB⟩
  have HH38 := Lib.hid (rl_of9 hh38)
  have HC38 := Lib.hid (And.intro hb38 hh38)
  have HS38 := Lib.hid hB
  have hq38 : bb ≤ b38 := Nat.le_trans hz_w37 hb38
  have HB_w38 := Lib.hid (HB_w37.out.trans ((hB).mono hz_w37))
  have hz_w38 : bb ≤ w38.heap.size := Nat.le_trans hz_w37 (hB).size
  have FN := fun (W : World) (hW : Free.Bel w38 W) => And.intro (Lib.hid (HH38.out.keeps hW)) (FA W (bt (hB) hW))
  clear FA HB_w37 hz_w37 KR
  have FA := FN
  clear FN
  have KR := Free.Bel.refl w38
  clear hB hb38 hh38 HH38
  go_wp2_with fail
  refine (ex2_put_3 _ w38 (FA w38 (Free.Bel.refl _)).2.2.2.2.2.2.2.2.2.2.2.2.2.2.2.2.2.2.2.2.2.2.2.1.out ((FA w38 (Free.Bel.refl _)).1).out nz_some).mono ?_
  rintro e w39 ⟨⟨pp2, nn2, cc2, rfl⟩, hB⟩
  have HB_w39 := Lib.hid (HB_w38.out.trans ((hB).mono hz_w38))
  have hz_w39 : bb ≤ w39.heap.size := Nat.le_trans hz_w38 (hB).size
  have FN := fun (W : World) (hW : Free.Bel w39 W) => FA W (bt (hB) hW)
  clear FA HB_w38 hz_w38 KR
  have FA := FN
  clear FN
  have KR := Free.Bel.refl w39
  clear hB
  have KA0 : Free.Bel w39 (w39.alloc (.cells #[.int .i64 0, .slice pp2 nn2 cc2] 24)) := Bel.allocT (Free.Bel.refl _) _
  go_wp2_with fail
  clear KA0
  have hN : Free.Bel w39 (w39.alloc (.cells #[.int .i64 0, .slice pp2 nn2 cc2] 24)) := (Bel.allocT (Free.Bel.refl w39) _)
  have n_g390_0 : (w39.alloc (.cells #[.int .i64 0, .slice pp2 nn2 cc2] 24)).cell? ⟨w39.heap.size, 0, none⟩ = some (.int .i64 0) := by simp [go_sem]
  have n_g390_1 : (w39.alloc (.cells #[.int .i64 0, .slice pp2 nn2 cc2] 24)).cell? ⟨w39.heap.size, 1, none⟩ = some (.slice pp2 nn2 cc2) := by simp [go_sem]
  generalize (w39.alloc (.cells #[.int .i64 0, .slice pp2 nn2 cc2] 24)) = w40 at *
  obtain ⟨g390, hgz⟩ : ∃ x, x = w39.heap.size := ⟨_, rfl⟩
  rw [← hgz] at n_g390_0 n_g390_1 ⊢
  clear hgz
  have HB_w40 := Lib.hid (HB_w39.out.trans ((hN).mono hz_w39))
  have hz_w40 : bb ≤ w40.heap.size := Nat.le_trans hz_w39 (hN).size
  have FN := fun (W : World) (hW : Free.Bel w40 W) => And.intro (keepsB hW n_g390_0) (And.intro (keepsB hW n_g390_1) (FA W (bt (hN) hW)))
  clear FA HB_w39 hz_w39 KR
  have FA := FN
  clear FN
  have KR := Free.Bel.refl w40
  clear hN n_g390_0 n_g390_1
  go_wp2_with fail
  refine (watchX_any w40).mono ?_
  rintro e w41 ⟨⟨b41, rfl, hb41, hh41⟩, hB⟩
  have HH41 := Lib.hid (rl_of9 hh41)
  have HC41 := Lib.hid (And.intro hb41 hh41)
  have HS41 := Lib.hid hB
  have hq41 : bb ≤ b41 := Nat.le_trans hz_w40 hb41
  have HB_w41 := Lib.hid (HB_w40.out.trans ((hB).mono hz_w40))
  have hz_w41 : bb ≤ w41.heap.size := Nat.le_trans hz_w40 (hB).size
  have FN := fun (W : World) (hW : Free.Bel w41 W) => And.intro (Lib.hid (HH41.out.keeps hW)) (FA W (bt (hB) hW))
  clear FA HB_w40 hz_w40 KR
  have FA := FN
  clear FN
  have KR := Free.Bel.refl w41
  clear hB hb41 hh41 HH41
  go_wp2_with fail
  refine (ex2_drop4 _ w41 (FA w41 (Free.Bel.refl _)).2.2.2.2.2.2.2.2.2.2.2.2.2.2.2.2.2.2.2.2.2.2.2.2.2.2.1.out ((FA w41 (Free.Bel.refl _)).1).out nz_some).mono ?_
  rintro e w42 ⟨⟨pp3, nn3, cc3, rfl⟩, hB⟩
  have HB_w42 := Lib.hid (HB_w41.out.trans ((hB).mono hz_w41))
  have hz_w42 : bb ≤ w42.heap.size := Nat.le_trans hz_w41 (hB).size
  have FN := fun (W : World) (hW : Free.Bel w42 W) => FA W (bt (hB) hW)
  clear FA HB_w41 hz_w41 KR
  have FA := FN
  clear FN
  have KR := Free.Bel.refl w42
  clear hB
  have KA0 : Free.Bel w42 (w42.alloc (.cells #[.int .i64 0, .slice pp3 nn3 cc3] 24)) := Bel.allocT (Free.Bel.refl _) _
  go_wp2_with fail
  clear KA0
  have hN : Free.Bel w42 (w42.alloc (.cells #[.int .i64 0, .slice pp3 nn3 cc3] 24)) := (Bel.allocT (Free.Bel.refl w42) _)
  have n_g420_0 : (w42.alloc (.cells #[.int .i64 0, .slice pp3 nn3 cc3] 24)).cell? ⟨w42.heap.size, 0, none⟩ = some (.int .i64 0) := by simp [go_sem]
  have n_g420_1 : (w42.alloc (.cells #[.int .i64 0, .slice pp3 nn3 cc3] 24)).cell? ⟨w42.heap.size, 1, none⟩ = some (.slice pp3 nn3 cc3) := by simp [go_sem]
  generalize (w42.alloc (.cells #[.int .i64 0, .slice pp3 nn3 cc3] 24)) = w43 at *
  obtain ⟨g420, hgz⟩ : ∃ x, x = w42.heap.size := ⟨_, rfl⟩
  rw [← hgz] at n_g420_0 n_g420_1 ⊢
  clear hgz
  have HB_w43 := Lib.hid (HB_w42.out.trans ((hN).mono hz_w42))
  have hz_w43 : bb ≤ w43.heap.size := Nat.le_trans hz_w42 (hN).size
  have FN := fun (W : World) (hW : Free.Bel w43 W) => And.intro (keepsB hW n_g420_0) (And.intro (keepsB hW n_g420_1) (FA W (bt (hN) hW)))
  clear FA HB_w42 hz_w42 KR
  have FA := FN
  clear FN
  have KR := Free.Bel.refl w43
  clear hN n_g420_0 n_g420_1
  go_wp2_with fail
  refine (ex2_check_odd _ w43 (FA w43 (Free.Bel.refl _)).2.2.2.2.2.2.2.2.2.2.2.2.2.2.2.2.2.2.2.2.2.2.2.2.2.2.2.2.1.out ((FA w43 (Free.Bel.refl _)).2.2.2.2.2.2.2.2.2.2.2.2.2.2.2.2.2.2.2.2.2.2.2.2.2.2.1).out).mono ?_
  rintro e w44 ⟨rfl, hB⟩
  have HB_w44 := Lib.hid (HB_w43.out.trans ((hB).mono hz_w43))
  have hz_w44 : bb ≤ w44.heap.size := Nat.le_trans hz_w43 (hB).size
  have FN := fun (W : World) (hW : Free.Bel w44 W) => FA W (bt (hB) hW)
  clear FA HB_w43 hz_w43 KR
  have FA := FN
  clear FN
  have KR := Free.Bel.refl w44
  clear hB
  go_wp2_with fail
  refine (watchX_any w44).mono ?_
  rintro e w45 ⟨⟨b45, rfl, hb45, hh45⟩, hB⟩
  have HH45 := Lib.hid (rl_of9 hh45)
  have HC45 := Lib.hid (And.intro hb45 hh45)
  have HS45 := Lib.hid hB
  have hq45 : bb ≤ b45 := Nat.le_trans hz_w44 hb45
  have HB_w45 := Lib.hid (HB_w44.out.trans ((hB).mono hz_w44))
  have hz_w45 : bb ≤ w45.heap.size := Nat.le_trans hz_w44 (hB).size
  have FN := fun (W : World) (hW : Free.Bel w45 W) => And.intro (Lib.hid (HH45.out.keeps hW)) (FA W (bt (hB) hW))
  clear FA HB_w44 hz_w44 KR
  have FA := FN
  clear FN
  have KR := Free.Bel.refl w45
  clear hB hb45 hh45 HH45
  go_wp2_with fail
  refine (ex2_check_wx _ w45 (FA w45 (Free.Bel.refl _)).2.2.2.2.2.2.2.2.2.2.2.2.2.2.2.2.2.2.2.2.2.2.2.2.2.2.2.2.2.1.out ((FA w45 (Free.Bel.refl _)).1).out).mono ?_
  rintro e w46 ⟨rfl, hB⟩
  have HB_w46 := Lib.hid (HB_w45.out.trans ((hB).mono hz_w45))
  have hz_w46 : bb ≤ w46.heap.size := Nat.le_trans hz_w45 (hB).size
  have FN := fun (W : World) (hW : Free.Bel w46 W) => FA W (bt (hB) hW)
  clear FA HB_w45 hz_w45 KR
  have FA := FN
  clear FN
  have KR := Free.Bel.refl w46
  clear hB
  go_wp2_with fail
  go_ret
  have hbb := HBB.out
  subst hbb
  exact ⟨rfl, HB_w46.out⟩
end Go.Proofs.YtknpglgpkkhhiaaDoor

/- For every input the law RoundExamples returns true, and its arguments read behind the call as they read before; what a watch is asked lies in the table as the program's text lays it (tied). Condition: that table. -/
namespace Go.Proofs.YtknpglgpkkhhiaaDoor.lawRoundExamples
open Go Go.ChangeShapes Go.WideShapes Go.ChangeAt Go.RowKit
set_option linter.unusedVariables false
set_option linter.unusedSimpArgs false

set_option maxRecDepth 100000 in
theorem contract (H : Type) (enc : TypeId × Value → H) (W : World) (base : Nat) (args : Array Value) (ds gs : List (DataW H)) (before : List MemPlace)
    (hval : ∀ (j : Nat) t v, Tryd.f15.params[j]? = some t → args[j]? = some v → Value.okWide Tryd.prog W .any base t v)
    (hW : DataW.Whole enc Tryd.prog Tryd.f15.params.toList Rows.roundExamplesSpec.vars false W args.toList ds gs before) (hL : laidMetH Tryd.prog Rows.roundExamplesRow.laid W) :
    Calls Tryd.prog 15 args W fun e W' => ∃ v, e = .returned v ∧ Rows.roundExamplesSpec.post enc Tryd.prog Tryd.f15 false true false false W args v W' := by
  have hW' := hW
  obtain ⟨p, q, hA0, hV, rfl, hfz, hnd⟩ := hW
  have hA : DataW.TrodAll enc Tryd.prog W 0 (fun _ => true) true Tryd.f15.params.toList args.toList ds p := hA0
  have hAk := hA
  rw [Tryd.params15] at hA hval
  obtain ⟨hargs, rfl, rfl⟩ := trodAll_nil hA
  obtain rfl : args = #[] := by cases args; simp_all
  obtain ⟨rfl, rfl⟩ := trodVars_none hV
  have hlt : ∀ x ∈ ([] : List MemPlace), x.block < W.heap.size := fun x hx => by cases hx
  refine (examL_walk W (Tab.of_laid hL)).mono fun e W' ⟨he, hg⟩ => ?_
  subst he
  refine ⟨_, rfl, _, _, _, [], [], [], hW', ?_, ?_, ?_, hg.frame _, fun h => by cases h⟩
  · exact trodAll_cons_mk (shut_bool Tryd.underlying4 true) trodAll_mk0
  · exact Law.args_below Tab.laidOut (by kernel_rfl) hg hAk hlt
  · rfl

set_option maxRecDepth 100000 in
theorem lifted (os : Os) (started : os.Started) (H : Type) (enc : TypeId × Value → H) :
    ReturnsInHanded {} Tryd.checked os 15 .any (fun w args => (Rows.roundExamplesSpec.pre enc Tryd.prog Tryd.f15 [] false w args ∧ laidMetH Tryd.prog Rows.roundExamplesRow.laid w) ∧ sizedMet enc Tryd.prog Tryd.f15 (OpenSpec.ofChange Rows.roundExamplesSpec) false w args) (Rows.roundExamplesSpec.post enc Tryd.prog Tryd.f15 false true false false) := by
  refine returnsInHanded_of_change_and (C := Tryd.checked) (X := fun w _ => laidMetH Tryd.prog Rows.roundExamplesRow.laid w) (fun _ _ _ hh h => h.of_heap hh) Tab.own started (by kernel_rfl) Tryd.func15
    (ChangeSpec.witness_shaped (enc := enc) (C := Tryd.checked) (os := os) (X := fun w _ => laidMetH Tryd.prog Rows.roundExamplesRow.laid w) false (World.doorLaid Tryd.prog 17 os) #[] 8 rfl (World.shaped_of_RefB (by kernel_rfl) (by kernel_rfl)) (by kernel_rfl) (by kernel_rfl) (by kernel_rfl) (Tab.door_met os _)) ?_
  intro W base args ds gs before hval hW _ _ hL _
  exact contract H enc W base args ds gs before hval hW hL

theorem said : Rows.RoundExamplesSaid :=
  OpenClaim.holds_of_wide 15 Tryd.f15 rfl rfl rfl rfl rfl rfl rfl ⟨rfl, rfl, rfl, rfl, rfl⟩ rfl rfl rfl rfl rfl (by kernel_rfl) Tryd.func15 (by kernel_rfl)
    (of_decide_eq_true (by kernel_rfl)) (by unfold Func.isWrapper; first | (rw [if_pos (by decide +kernel)]; kernel_rfl) | (rw [if_neg (by decide +kernel)]; exact ⟨rfl, rfl⟩))
    (fun os started H enc _ => lifted os started H enc)

theorem plain (f : FuncId) (fn : Func) (hf : Tryd.pinned.checked.prog.funcNamed "oilcake/oilcakelaw07.RoundExamples" = some f) (hfn : Tryd.pinned.checked.prog.funcs[f]? = some fn) :
    false = Tryd.pinned.checked.prog.looks [] ∧ ∀ (j : Nat) t, fn.params[j]? = some t → Tryd.pinned.checked.prog.wantsStandIn t = false := by
  obtain rfl : f = 15 := Option.some.inj ((show Tryd.prog.funcNamed "oilcake/oilcakelaw07.RoundExamples" = some 15 by kernel_rfl).symm.trans hf) |>.symm
  obtain rfl : fn = Tryd.f15 := (Option.some.inj (Tryd.func15.symm.trans hfn)).symm
  refine ⟨by kernel_rfl, fun j t ht => ?_⟩
  rw [Tryd.params15] at ht
  simp at ht

theorem card : Rows.RoundExamplesCardSaid :=
  Claim7.holds_tied_plain_at .later [] _ _ _ _ said (fun _ h => by cases h) (by kernel_rfl) (fun _ h => by cases h) roundExamples_row_tie rfl ⟨rfl, rfl⟩ (by kernel_rfl) rfl plain (by kernel_rfl)
#print axioms card
end Go.Proofs.YtknpglgpkkhhiaaDoor.lawRoundExamples

