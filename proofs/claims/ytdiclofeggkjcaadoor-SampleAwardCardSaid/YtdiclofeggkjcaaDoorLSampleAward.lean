/- For every input the law SampleAward returns true, and its arguments read behind the call as they read before; what a double rule is asked lies in the table as the program's text lays it (tied). Condition: that table. -/
/- The law about awards: its walk. -/
import Derived.Test.YtdiclofeggkjcaaDoorB7
namespace Go.Proofs.YtdiclofeggkjcaaDoor
set_option linter.unusedSimpArgs false
set_option linter.unusedVariables false
open Go.RowKit Go.Proofs.YtdiclofeggkjcaaDoor.ML Go.Proofs.YtdiclofeggkjcaaDoor.Samp

theorem min3_run {P : Program} (ts : Array TypeId) (t : TypeId) (x y z : Int) (w : World) : (Builtin.min_ ts t #[.int .i64 x, .int .i64 y, .int .i64 z]).run P w = .ok (.int .i64 (min (min x y) z)) w := by
  have h : min (min x y) z = if z < (if y < x then y else x) then z else (if y < x then y else x) := by split <;> split <;> omega
  rw [h]
  simp [Builtin.min_, Builtin.min2]
theorem max3_run {P : Program} (ts : Array TypeId) (t : TypeId) (x y z : Int) (w : World) : (Builtin.max_ ts t #[.int .i64 x, .int .i64 y, .int .i64 z]).run P w = .ok (.int .i64 (max (max x y) z)) w := by
  have h : max (max x y) z = if z > (if y > x then y else x) then z else (if y > x then y else x) := by split <;> split <;> omega
  rw [h]
  simp [Builtin.max_, Builtin.max2]
theorem awardV_comm (a b u : Int) : awardV b a u = awardV a b u := by
  unfold awardV
  rw [Int.max_comm b a, Int.min_comm b a, Int.add_comm b a]
theorem award_ok (a b u : Int) (ha : 0 ≤ a ∧ a ≤ 1000000) (hb : 0 ≤ b ∧ b ≤ 1000000) (hu : 0 ≤ u ∧ u ≤ 1000000) (w : World) (n : Int) (hn : Hid (awardV a b u = n)) :
    Calls Tryd.prog 30 #[.int .i64 a, .int .i64 b, .int .i64 u] w fun e w' => e = .returned (.tuple #[.int .i64 n, .int .i64 0]) ∧ Below w.heap.size w w' := by
  have h := award_any a b u w
  rw [if_neg (by simp [awardB, inB]; omega), hn.out] at h
  exact h
theorem awardV_spec (a b u : Int) (ha : 0 ≤ a ∧ a ≤ 1000000) (hb : 0 ≤ b ∧ b ≤ 1000000) (hu : 0 ≤ u ∧ u ≤ 1000000) : min (min a b) u ≤ awardV a b u ∧ awardV a b u ≤ max (max a b) u ∧ min a b ≤ awardV a b u ∧ awardV a b u ≤ max a b ∧
    (10 * (max a b - min a b) ≤ max a b → awardV a b u = (a + b) / 2) ∧ (¬ 10 * (max a b - min a b) ≤ max a b → min a b ≤ u → u ≤ max a b → awardV a b u = u) := by
  unfold awardV
  split <;> omega

set_option maxRecDepth 100000 in
set_option maxHeartbeats 2000000 in
theorem awardL_walk (a b u : Int) (w : World) (hT : TabD w) (ha : 0 ≤ a ∧ a ≤ 4294967295) (hb : 0 ≤ b ∧ b ≤ 4294967295) (hu : 0 ≤ u ∧ u ≤ 4294967295) :
    Calls Tryd.prog 6 #[.int .u32 a, .int .u32 b, .int .u32 u] w fun e w' => e = .returned (.bool true) ∧ Below w.heap.size w w' := by
  have hB0 : Below w.heap.size w w := Below.refl _ _
  have t0 := hT.1
  have t1 := hT.2.1
  have t2 := hT.2.2
  clear hT
  go_enter Tryd.func6, Tryd.ntmps6
  go_wp2_with fail
  refine (alive_any _ (tabD_mk t0 t1 t2)).mono ?_
  rintro e w1 ⟨rfl, hB1⟩
  have hBz : Below w.heap.size w w1 := hB0.trans (hB1.mono (by simp))
  have hzz : w.heap.size ≤ w1.heap.size := hBz.size
  have kt0 := keepsB hB1 t0
  have kt1 := keepsB hB1 t1
  have kt2 := keepsB hB1 t2
  clear hB0 hB1 t0 t1 t2
  generalize hbb : w.heap.size = bb at *
  have HBB := Lib.hid hbb
  clear hbb
  have HB_w1 := Lib.hid (show Below bb w w1 from hBz)
  have hz_w1 : bb ≤ w1.heap.size := hzz
  have FA : ∀ W, Free.Bel w1 W → W.cell? ⟨0, 0, none⟩ = some (dblF 130) ∧ W.cell? ⟨0, 1, none⟩ = some (dblF 131) ∧ W.cell? ⟨0, 2, none⟩ = some (dblF 132) ∧ bb ≤ W.heap.size := fun W hW => ⟨keepsB hW kt0, keepsB hW kt1, keepsB hW kt2, Nat.le_trans hz_w1 hW.size⟩
  clear hBz hzz kt0 kt1 kt2
  have mx0 : 0 ≤ a % 1000001 := Int.emod_nonneg _ (by omega)
  have mx1 : a % 1000001 < 1000001 := Int.emod_lt_of_pos _ (by omega)
  have cx : IntKind.i64.wrap a = a := IntWalk.i64_in _ (by omega)
  have dx : a.tmod 1000001 = a % 1000001 := Int.tmod_eq_emod_of_nonneg ha.1
  obtain ⟨x, hx⟩ : ∃ x, a % 1000001 = x := ⟨_, rfl⟩
  rw [hx] at mx0 mx1 dx
  clear hx
  have ex : IntKind.i64.wrap x = x := IntWalk.i64_in _ (by omega)
  have my0 : 0 ≤ b % 1000001 := Int.emod_nonneg _ (by omega)
  have my1 : b % 1000001 < 1000001 := Int.emod_lt_of_pos _ (by omega)
  have cy : IntKind.i64.wrap b = b := IntWalk.i64_in _ (by omega)
  have dy : b.tmod 1000001 = b % 1000001 := Int.tmod_eq_emod_of_nonneg hb.1
  obtain ⟨y, hy⟩ : ∃ x, b % 1000001 = x := ⟨_, rfl⟩
  rw [hy] at my0 my1 dy
  clear hy
  have ey : IntKind.i64.wrap y = y := IntWalk.i64_in _ (by omega)
  have mz0 : 0 ≤ u % 1000001 := Int.emod_nonneg _ (by omega)
  have mz1 : u % 1000001 < 1000001 := Int.emod_lt_of_pos _ (by omega)
  have cz : IntKind.i64.wrap u = u := IntWalk.i64_in _ (by omega)
  have dz : u.tmod 1000001 = u % 1000001 := Int.tmod_eq_emod_of_nonneg hu.1
  obtain ⟨z, hz⟩ : ∃ x, u % 1000001 = x := ⟨_, rfl⟩
  rw [hz] at mz0 mz1 dz
  clear hz
  have ez : IntKind.i64.wrap z = z := IntWalk.i64_in _ (by omega)
  have hS := awardV_spec x y z (by omega) (by omega) (by omega)
  have hC := awardV_comm x y z
  obtain ⟨n, hn⟩ : ∃ n, awardV x y z = n := ⟨_, rfl⟩
  rw [hn] at hS hC
  have HN := Lib.hid hn
  have HC := Lib.hid hC
  have HS := Lib.hid hS
  clear hn hC hS
  go_wp2_with fail
  refine (award_ok x y z (by omega) (by omega) (by omega) _ n HN).mono ?_
  rintro e w2 ⟨rfl, hB⟩
  have HB_w2 := Lib.hid (HB_w1.out.trans ((hB).mono hz_w1))
  have hz_w2 : bb ≤ w2.heap.size := Nat.le_trans hz_w1 (hB).size
  have FN : ∀ W, Free.Bel w2 W → W.cell? ⟨0, 0, none⟩ = some (dblF 130) ∧ W.cell? ⟨0, 1, none⟩ = some (dblF 131) ∧ W.cell? ⟨0, 2, none⟩ = some (dblF 132) ∧ bb ≤ W.heap.size := fun W hW => by
    obtain ⟨a0, a1, a2, a3⟩ := FA W (Free.Bel.trans _ _ _ (hB) hW)
    exact ⟨a0, a1, a2, a3⟩
  clear FA HB_w1 hz_w1
  have FA := FN
  clear FN
  clear hB
  go_wp2_with fail
  refine (award_ok y x z (by omega) (by omega) (by omega) _ n HC).mono ?_
  rintro e w3 ⟨rfl, hB⟩
  have HB_w3 := Lib.hid (HB_w2.out.trans ((hB).mono hz_w2))
  have hz_w3 : bb ≤ w3.heap.size := Nat.le_trans hz_w2 (hB).size
  have FN : ∀ W, Free.Bel w3 W → W.cell? ⟨0, 0, none⟩ = some (dblF 130) ∧ W.cell? ⟨0, 1, none⟩ = some (dblF 131) ∧ W.cell? ⟨0, 2, none⟩ = some (dblF 132) ∧ bb ≤ W.heap.size := fun W hW => by
    obtain ⟨a0, a1, a2, a3⟩ := FA W (Free.Bel.trans _ _ _ (hB) hW)
    exact ⟨a0, a1, a2, a3⟩
  clear FA HB_w2 hz_w2
  have FA := FN
  clear FN
  clear hB
  have HB9 := HB_w3
  have hm3 : ∀ W, (Builtin.min_ #[3, 3, 3] 3 #[.int .i64 x, .int .i64 y, .int .i64 z]).run Tryd.prog W = .ok (.int .i64 (min (min x y) z)) W := fun W => by
    rw [min3_run]
  have hM3 : ∀ W, (Builtin.max_ #[3, 3, 3] 3 #[.int .i64 x, .int .i64 y, .int .i64 z]).run Tryd.prog W = .ok (.int .i64 (max (max x y) z)) W := fun W => by
    rw [max3_run]
  have hmn : (if y < x then y else x) = min x y := by split <;> omega
  have hmx : (if x < y then y else x) = max x y := by split <;> omega
  obtain ⟨q1, q2, q3, q4, q5, q6⟩ := HS.out
  have b1 : 0 ≤ min x y ∧ max x y ≤ 1000000 ∧ min x y ≤ max x y := by omega
  obtain ⟨l3, hl3⟩ : ∃ l, min (min x y) z = l := ⟨_, rfl⟩
  obtain ⟨g3, hg3⟩ : ∃ l, max (max x y) z = l := ⟨_, rfl⟩
  rw [hl3] at q1 hm3
  rw [hg3] at q2 hM3
  clear hl3 hg3
  have v1 : IntKind.i64.wrap (max x y - min x y) = max x y - min x y := IntWalk.i64_in _ (by omega)
  have v2 : IntKind.i64.wrap (10 * (max x y - min x y)) = 10 * (max x y - min x y) := IntWalk.i64_in _ (by omega)
  have v3 : IntKind.i64.wrap (x + y) = x + y := IntWalk.i64_in _ (by omega)
  have v4 : (x + y).tdiv 2 = (x + y) / 2 := Int.tdiv_eq_ediv_of_nonneg (by omega)
  have v5 : IntKind.i64.wrap ((x + y) / 2) = (x + y) / 2 := IntWalk.i64_in _ (by omega)
  have d1 : decide (n < l3) = false := decide_eq_false (by omega)
  have d2 : decide (g3 < n) = false := decide_eq_false (by omega)
  have d3 : decide (min x y ≤ n) = true := decide_eq_true q3
  have d4 : decide (n ≤ max x y) = true := decide_eq_true q4
  by_cases h1 : 10 * (max x y - min x y) ≤ max x y
  · have k1 : decide (10 * (max x y - min x y) ≤ max x y) = true := decide_eq_true h1
    have k2 := q5 h1
    have k3 : (n != (x + y) / 2) = false := by simp [k2]
    by_cases h2 : min x y ≤ z
    · have k4 : decide (min x y ≤ z) = true := decide_eq_true h2
      go_wp2_with fail
      (go_ret; have hbb := HBB.out; subst hbb; refine ⟨?_, HB_w3.out⟩; first | rfl | (show Ending.returned (.bool (decide _)) = _; rw [decide_eq_true (by omega)]))
    · have k4 : decide (min x y ≤ z) = false := decide_eq_false h2
      go_wp2_with fail
      (go_ret; have hbb := HBB.out; subst hbb; refine ⟨?_, HB_w3.out⟩; first | rfl | (show Ending.returned (.bool (decide _)) = _; rw [decide_eq_true (by omega)]))
  · have k1 : decide (10 * (max x y - min x y) ≤ max x y) = false := decide_eq_false h1
    by_cases h2 : min x y ≤ z
    · have k4 : decide (min x y ≤ z) = true := decide_eq_true h2
      by_cases h3 : z ≤ max x y
      · have k5 : decide (z ≤ max x y) = true := decide_eq_true h3
        have k6 := q6 (by omega) h2 h3
        have k7 : (n != z) = false := by simp [k6]
        go_wp2_with fail
        (go_ret; have hbb := HBB.out; subst hbb; refine ⟨?_, HB_w3.out⟩; first | rfl | (show Ending.returned (.bool (decide _)) = _; rw [decide_eq_true (by omega)]))
      · have k5 : decide (z ≤ max x y) = false := decide_eq_false h3
        go_wp2_with fail
        (go_ret; have hbb := HBB.out; subst hbb; refine ⟨?_, HB_w3.out⟩; first | rfl | (show Ending.returned (.bool (decide _)) = _; rw [decide_eq_true (by omega)]))
    · have k4 : decide (min x y ≤ z) = false := decide_eq_false h2
      go_wp2_with fail
      (go_ret; have hbb := HBB.out; subst hbb; refine ⟨?_, HB_w3.out⟩; first | rfl | (show Ending.returned (.bool (decide _)) = _; rw [decide_eq_true (by omega)]))
end Go.Proofs.YtdiclofeggkjcaaDoor

/- For every input the law SampleAward returns true, and its arguments read behind the call as they read before; what a double rule is asked lies in the table as the program's text lays it (tied). Condition: that table. -/
namespace Go.Proofs.YtdiclofeggkjcaaDoor.lawSampleAward
open Go Go.ChangeShapes Go.WideShapes Go.ChangeAt Go.RowKit
set_option linter.unusedVariables false
set_option linter.unusedSimpArgs false

set_option maxRecDepth 100000 in
theorem contract (H : Type) (enc : TypeId × Value → H) (W : World) (base : Nat) (args : Array Value) (ds gs : List (DataW H)) (before : List MemPlace)
    (hval : ∀ (j : Nat) t v, Tryd.f6.params[j]? = some t → args[j]? = some v → Value.okWide Tryd.prog W .any base t v)
    (hW : DataW.Whole enc Tryd.prog Tryd.f6.params.toList Rows.sampleAwardSpec.vars false W args.toList ds gs before) (hL : laidMetH Tryd.prog Rows.sampleAwardRow.laid W) :
    Calls Tryd.prog 6 args W fun e W' => ∃ v, e = .returned v ∧ Rows.sampleAwardSpec.post enc Tryd.prog Tryd.f6 false true false false W args v W' := by
  have hW' := hW
  obtain ⟨p, q, hA0, hV, rfl, hfz, hnd⟩ := hW
  have hA : DataW.TrodAll enc Tryd.prog W 0 (fun _ => true) true Tryd.f6.params.toList args.toList ds p := hA0
  have hAk := hA
  rw [Tryd.params6] at hA hval
  obtain ⟨v0, vs0, d0, ds0, p0, q0, hargs, rfl, rfl, h0, r0⟩ := trodAll_cons hA
  obtain ⟨v1, vs1, d1, ds1, p1, q1, rfl, rfl, rfl, h1, r1⟩ := trodAll_cons r0
  obtain ⟨v2, vs2, d2, ds2, p2, q2, rfl, rfl, rfl, h2, r2⟩ := trodAll_cons r1
  obtain ⟨rfl, rfl, rfl⟩ := trodAll_nil r2
  obtain rfl : args = #[v0, v1, v2] := by cases args; simp_all
  obtain ⟨rfl, rfl⟩ := trodVars_none hV
  have hlt : ∀ x ∈ p0 ++ (p1 ++ (p2 ++ ([]))), x.block < W.heap.size := fun x hx => by
    have := hW'.lt x (by simpa using hx)
    simpa using this
  obtain ⟨a, rfl, _, hwf0⟩ := open_int Tryd.underlying53 (hval 0 53 _ rfl rfl) h0
  obtain ⟨b, rfl, _, hwf1⟩ := open_int Tryd.underlying53 (hval 1 53 _ rfl rfl) h1
  obtain ⟨u, rfl, _, hwf2⟩ := open_int Tryd.underlying53 (hval 2 53 _ rfl rfl) h2
  refine (awardL_walk a b u W (Tab.of_laid hL) (u32_wf hwf0.2) (u32_wf hwf1.2) (u32_wf hwf2.2)).mono fun e W' ⟨he, hg⟩ => ?_
  subst he
  refine ⟨_, rfl, _, _, _, [], p0 ++ (p1 ++ (p2 ++ ([]))), [], hW', ?_, ?_, ?_, hg.frame _, fun h => by cases h⟩
  · exact trodAll_cons_mk (shut_bool Tryd.underlying4 true) trodAll_mk0
  · exact Law.args_below Tab.laidOut (by kernel_rfl) hg hAk hlt
  · rfl

set_option maxRecDepth 100000 in
theorem lifted (os : Os) (started : os.Started) (H : Type) (enc : TypeId × Value → H) :
    ReturnsInHanded {} Tryd.checked os 6 .any (fun w args => (Rows.sampleAwardSpec.pre enc Tryd.prog Tryd.f6 [] false w args ∧ laidMetH Tryd.prog Rows.sampleAwardRow.laid w) ∧ sizedMet enc Tryd.prog Tryd.f6 (OpenSpec.ofChange Rows.sampleAwardSpec) false w args) (Rows.sampleAwardSpec.post enc Tryd.prog Tryd.f6 false true false false) := by
  refine returnsInHanded_of_change_and (C := Tryd.checked) (X := fun w _ => laidMetH Tryd.prog Rows.sampleAwardRow.laid w) (fun _ _ _ hh h => h.of_heap hh) Tab.own started (by kernel_rfl) Tryd.func6
    (ChangeSpec.witness_shaped (enc := enc) (C := Tryd.checked) (os := os) (X := fun w _ => laidMetH Tryd.prog Rows.sampleAwardRow.laid w) false (World.doorLaid Tryd.prog 17 os) #[.int .u32 0, .int .u32 0, .int .u32 0] 8 rfl (World.shaped_of_RefB (by kernel_rfl) (by kernel_rfl)) (by kernel_rfl) (by kernel_rfl) (by kernel_rfl) (Tab.door_met os _)) ?_
  intro W base args ds gs before hval hW _ _ hL _
  exact contract H enc W base args ds gs before hval hW hL

theorem said : Rows.SampleAwardSaid :=
  OpenClaim.holds_of_wide 6 Tryd.f6 rfl rfl rfl rfl rfl rfl rfl ⟨rfl, rfl, rfl, rfl, rfl⟩ rfl rfl rfl rfl rfl (by kernel_rfl) Tryd.func6 (by kernel_rfl)
    (of_decide_eq_true (by kernel_rfl)) (by unfold Func.isWrapper; first | (rw [if_pos (by decide +kernel)]; kernel_rfl) | (rw [if_neg (by decide +kernel)]; exact ⟨rfl, rfl⟩))
    (fun os started H enc _ => lifted os started H enc)

theorem plain (f : FuncId) (fn : Func) (hf : Tryd.pinned.checked.prog.funcNamed "oilcake/oilcakelaw01.SampleAward" = some f) (hfn : Tryd.pinned.checked.prog.funcs[f]? = some fn) :
    false = Tryd.pinned.checked.prog.looks [] ∧ ∀ (j : Nat) t, fn.params[j]? = some t → Tryd.pinned.checked.prog.wantsStandIn t = false := by
  obtain rfl : f = 6 := Option.some.inj ((show Tryd.prog.funcNamed "oilcake/oilcakelaw01.SampleAward" = some 6 by kernel_rfl).symm.trans hf) |>.symm
  obtain rfl : fn = Tryd.f6 := (Option.some.inj (Tryd.func6.symm.trans hfn)).symm
  refine ⟨by kernel_rfl, fun j t ht => ?_⟩
  rw [Tryd.params6] at ht
  have hm := Array.mem_of_getElem? ht
  have hall : (Tryd.f6.params.toList.all fun u => !Tryd.prog.wantsStandIn u) = true := by kernel_rfl
  rw [Tryd.params6] at hall
  exact (show Tryd.prog.wantsStandIn t = false by simpa using List.all_eq_true.1 hall t (by simpa using hm))

theorem card : Rows.SampleAwardCardSaid :=
  Claim7.holds_tied_plain_at .later [] _ _ _ _ said (fun _ h => by cases h) (by kernel_rfl) (fun _ h => by cases h) sampleAward_row_tie rfl ⟨rfl, rfl⟩ (by kernel_rfl) rfl plain (by kernel_rfl)
#print axioms card
end Go.Proofs.YtdiclofeggkjcaaDoor.lawSampleAward

