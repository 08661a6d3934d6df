/- The numbers of dirty bags that can be, collected. -/
import Derived.Test.YtfdbegohjlijoaaB2
import Derived.Outline
namespace Go.Proofs.Ytfdbegohjlijoaa
set_option linter.unusedSimpArgs false
set_option linter.unusedVariables false
open Go.RowKit Go.Shelf RR
attribute [local go_sem] Oper.semAt_some

theorem ableK_length (N lo o f : Int) : ∀ k : Nat, (ableK N lo o f k).length ≤ k
  | 0 => Nat.le_refl _
  | k + 1 => by
    have := ableK_length N lo o f k
    rw [ableK]
    split
    · simp; omega
    · omega
section
variable {mb s0 : Nat} {w W W' : World}
theorem Kept.onBelow (h : Kept mb w W) (hB : Below w.heap.size W W') (hm : mb < w.heap.size) : Kept mb w W' :=
  ⟨hB.os.trans h.os, hB.tape.trans h.tape, hB.output.trans h.output, Nat.le_trans h.size hB.size, fun k hk hne => (hB.block k hk).trans (h.block k hk hne),
    fun m => by obtain ⟨l, hl, hv⟩ := h.memo m; exact ⟨l, hl.of_block (hB.block mb hm), hv⟩⟩
theorem Below.putNew {s D : Nat} (o : Obj) (hD : s ≤ D) : Below s W (W.putObj D o) :=
  ⟨rfl, rfl, rfl, by simp, fun k hk => World.putObj_heap_other (by omega)⟩
theorem KeptB.of_below (h : Below s0 W W') (hm : mb < s0) : KeptB s0 mb W W' :=
  ⟨h.os, h.tape, h.output, h.size, fun k hk _ => h.block k hk, fun ⟨l, hl, hv⟩ => ⟨l, hl.of_block (h.block mb hm), hv⟩⟩
theorem Below.of_grown {s : Nat} {row : Option Nat} (h : W.grownBy W' row) (hs : s ≤ W.heap.size) (hr : ∀ r, row = some r → s ≤ r) : Below s W W' :=
  (Below.refl _ _).grown h hs hr
end
theorem T.infoInt : (Try.prog.info? 3).map (fun i => (i.zero, i.size, i.bytes)) = some (some (.int .i64 0), 1, 8) := by kernel_rfl

set_option maxRecDepth 100000 in
set_option maxHeartbeats 2000000 in
theorem appendSeq_able (xb db hb mb kb cb : Nat) (N lo hi o f : Int) (hN : N ≤ 36) (hlo : 0 ≤ lo ∧ lo ≤ hi ∧ hi ≤ N) (ho : 0 ≤ o ∧ o ≤ N) (hf : 0 ≤ f ∧ f ≤ o) (w : World)
    (hH : Hold hb N lo hi mb kb cb w) (hx : w.cell? ⟨xb, 0, none⟩ = some (.pointer (some ⟨hb, 0, none⟩))) (hd0 : w.cell? ⟨db, 0, none⟩ = some (.int .i64 o)) (hd1 : w.cell? ⟨db, 1, none⟩ = some (.int .i64 f)) :
    Calls Try.prog 88 #[.slice none 0 0, .func (.func 89) #[] #[.pointer (some ⟨xb, 0, none⟩), .pointer (some ⟨db, 0, none⟩)]] w fun e w' =>
      ∃ v, e = .returned v ∧ w'.ownsRow w.heap.size 3 1 v (ableK N lo o f (hi - lo + 1).toNat).length ((ableK N lo o f (hi - lo + 1).toNat).map (Value.int .i64)) ∧ Kept mb w w' := by
  have hmb : mb < w.heap.size := by obtain ⟨l, hl, _⟩ := hH.ctr.memo; exact hl.lt
  have hL := ableK_length N lo o f (hi - lo + 1).toNat
  have hL37 : (ableK N lo o f (hi - lo + 1).toNat).length ≤ 37 := by omega
  have hltb : xb < w.heap.size ∧ db < w.heap.size ∧ hb < w.heap.size ∧ kb < w.heap.size ∧ cb < w.heap.size := ⟨lt_of_cell hx, lt_of_cell hd0, lt_of_cell hH.bags, lt_of_cell hH.ctr.known, lt_of_cell hH.ctr.count⟩
  obtain ⟨i0, hi0, hz0, hz1, hz2⟩ := info_parts T.infoInt
  have K0 : Kept mb w (w.alloc (.cells #[.slice none 0 0] 52)) := (Kept.refl _ _).alloc _
  have hseq : SeqL Fence.wide (5 - 1) Try.prog 89 #[.pointer (some ⟨xb, 0, none⟩), .pointer (some ⟨db, 0, none⟩)] (fun x : Int => #[Value.int .i64 x]) (Kept mb) (KeptB w.heap.size mb) (ableK N lo o f (hi - lo + 1).toNat) (w.alloc (.cells #[.slice none 0 0] 52)) := fun l J Jx W hW hJ hJx hY h0 =>
    able1_in (5 - 1) l w.heap.size xb db hb mb kb cb N lo hi o f (by omega) hN hlo ho hf _ W hltb (hH.kept K0) (K0.cell hx (hH.ctr.memo.ne hx)) (K0.cell hd0 (hH.ctr.memo.ne hd0)) (K0.cell hd1 (hH.ctr.memo.ne hd1)) (by simp) hW J Jx hJ hY h0
  have HSEQ := Lib.hid hseq
  have HZ := Lib.hid (And.intro hi0 (And.intro hz0 (And.intro hz1 hz2)))
  clear hseq hi0 hz0 hz1 hz2 hH hx hd0 hd1 hltb
  have bO := Lib.hid (Boxed.new w 52 (.slice none 0 0))
  have HK0 := Lib.hid K0
  clear K0
  refine (callsIn_wide (n := 5)).1 ?_
  refine callsIn_of_wp_marks Try.func88 rfl trivial ?_ rfl
  simp only [Try.ntmps88, List.size_toArray, List.length_cons, List.length_nil, Nat.reduceAdd, Nat.reduceSub, Array.replicate_succ, Array.replicate_zero, List.push_toArray, List.append_toArray, List.nil_append, List.cons_append]
  gi_wp2
  refine wpIn_rangeFunc_R (F := Fence.wide) (n := 5) rfl (by omega) (gf := 89) (lb := #[.pointer (some ⟨xb, 0, none⟩), .pointer (some ⟨db, 0, none⟩)]) rfl trivial (enters_of Try.func89 (by kernel_rfl) rfl)
    HSEQ.out (fun A o _ h => h.alloc o) (Kept.refl _ _) (fun A B k o h hk hA => (h.block k (Array.getElem?_eq_some_iff.1 hA).1 (by simp at hk; omega)).trans hA)
    KeptB.trans (fun W l o o' hl h _ _ => KeptB.of_below (Below.putNew o' (by simp at hl; omega)) hmb) (fun _ => rfl)
    (fun pre W => (∃ v, Boxed W w.heap.size 52 v ∧ W.ownsRow w.heap.size 3 1 v pre.length (pre.map (Value.int .i64))) ∧ Kept mb w W)
    (fun _ _ _ => False)
    ?own (fun _ _ _ _ _ hs _ _ => hs) ?abide (fun _ _ _ _ hs _ => hs)
    ⟨⟨_, bO.out, World.ownsRow_nil _ _ _ _⟩, HK0.out⟩
    (fun x => { tmps := #[.slice none 0 0, .func (.func 89) #[] #[.pointer (some ⟨xb, 0, none⟩), .pointer (some ⟨db, 0, none⟩)], .pointer (some ⟨w.heap.size, 0, none⟩), undef, .slice none 0 0, .int .i64 x, .func (.func 89) #[] #[.pointer (some ⟨xb, 0, none⟩), .pointer (some ⟨db, 0, none⟩)], .int .i64 x, undef, undef, undef, undef, undef], defers := [] }) ?assign ?body ?done ?stop
  case own =>
    rintro pre A B row ⟨⟨v, hv, hrow⟩, hK⟩ hg hr
    refine ⟨⟨v, hv.kept hg (fun e => by have := (hr _ e.symm).1; simp at this; omega), hrow.kept hg ?_⟩, hK.onBelow (Below.of_grown hg hK.size (fun r e => by have := (hr r e).1; simp at this; omega)) hmb⟩
    rcases hrow.2 with ⟨rfl, _⟩ | ⟨g, cap, cur, rfl, _, hgb, _⟩
    · exact .inl rfl
    · refine .inr fun e' => ?_
      obtain ⟨_, ob, hob, hcb⟩ := hr g (by simpa [Value.ownBlock] using e'.symm)
      rw [hgb] at hob; cases hob; cases hcb
  case abide =>
    rintro pre A B ⟨⟨v, hv, hrow⟩, hK⟩ hR
    exact ⟨⟨v, (hR.block _ hv.lt (by omega)).trans hv, ownsRow_kept hrow hR hmb⟩, hK.trans hR⟩
  case assign =>
    intro l x W K hK
    gi_wp2
    exact hK
  case body =>
    rintro l pre x W ⟨⟨v, hv, hrow⟩, hK⟩ hlt
    have hc := hv.cell
    have hpl : pre.length + 1 ≤ 37 := by have := hlt.length_le; simp at this; omega
    have hKs := hK.size
    gi_wp2_with (gi_at_builtin; refine wpListIn_append_own _ rfl _ _ 52 rfl w.heap.size 3 i0 (.int .i64 0) 1 8 Try.underlying52 HZ.out.1 HZ.out.2.1 HZ.out.2.2.1 HZ.out.2.2.2 rfl (by decide) _ _ _ rfl (hrow.alloc _) ⟨W.heap.size, 0, none⟩ 1 1 [.int .i64 x] rfl rfl (cell_one_new _ _ _) (by simp [Value.oneCell']) (by unfold maxLen; omega) (by omega) (by simp; omega) ?_; intro v' w1 hown' hgrow _; obtain ⟨g', cap', rfl⟩ := ownsRow_succ hown'; obtain ⟨hv1, hv2, hr2, hk2, hb2⟩ := hv.appended (by decide) hrow hK.size (Nat.le_refl _) hown' hgrow; have hc1 := hv1.cell; have hf1 := hv1.frozen)
    exact ⟨hk2.from _, KeptB.of_below hb2 hmb, ⟨_, hv2, by simpa using hr2⟩, hK.onBelow hb2 hmb⟩
  case done =>
    rintro D W hD ⟨⟨v, hv, hrow⟩, hK⟩ hKD
    have hc := hv.cell
    gi_wp2
    refine ⟨by simp, .inl ⟨_, _, rfl, run_takeDeferred hKD, ?_⟩⟩
    exact ⟨_, results_tmp rfl _ _ _, v, rfl, ownsRow_putObj hrow _ hKD rfl, hK.onBelow (Below.putNew _ (by simp at hD; omega)) hmb⟩
  case stop =>
    rintro D c pre W _ _ h _
    exact h.elim
end Go.Proofs.Ytfdbegohjlijoaa

/- slices.Backward at terms: the iterator; what terms take off. -/
namespace Go.Proofs.Ytfdbegohjlijoaa
set_option linter.unusedSimpArgs false
set_option linter.unusedVariables false
open Go.RowKit Go.Shelf
attribute [local go_sem] Oper.semAt_some

/-- A list backward, each with its index. -/
def revT (xs : List (Int × Int)) : Nat → List (Int × Int × Int)
  | 0 => []
  | k + 1 => revT xs k ++ [(((xs.length - (k + 1) : Nat) : Int), (xs.getD (xs.length - (k + 1)) (0, 0)).1, (xs.getD (xs.length - (k + 1)) (0, 0)).2)]
theorem revT_prefix (xs : List (Int × Int)) {j : Nat} : ∀ {k : Nat}, j ≤ k → revT xs j <+: revT xs k
  | 0, h => by obtain rfl : j = 0 := by omega
               exact List.prefix_refl _
  | k + 1, h => by
    by_cases e : j = k + 1
    · rw [e]; exact List.prefix_refl _
    · exact (revT_prefix xs (j := j) (k := k) (by omega)).trans (List.prefix_append _ _)
theorem revT_length (xs : List (Int × Int)) : ∀ k, (revT xs k).length = k
  | 0 => rfl
  | k + 1 => by simp [revT, revT_length xs k]
abbrev encT (x : Int × Int × Int) : Array Value := #[.int .i64 x.1, .agg #[.int .i64 x.2.1, .int .i64 x.2.2]]

set_option maxRecDepth 100000 in
set_option maxHeartbeats 2000000 in
theorem backT1_in (n l Bs n0 : Nat) (v : Value) (xs : List (Int × Int)) (hn : 1 ≤ n) (w0 W : World) (hv : PL xs v w0) (h0n : w0.heap.size ≤ n0) (hB0 : Below w0.heap.size w0 W) (hBs : W.cell? ⟨Bs, 0, none⟩ = some v) (hBl : Bs < n0) (J Jx : List (Int × Int × Int) → World → Prop)
    (hY : ∀ pre x W1, pre ++ [x] <+: revT xs xs.length → J pre W1 → YieldAt Fence.wide (n - 1) Try.prog l (encT x) W1 fun e W' =>
      (e = .returned (.bool true) ∧ J (pre ++ [x]) W' ∧ Below n0 W1 W') ∨ (e = .returned (.bool false) ∧ Jx (pre ++ [x]) W'))
    (hJ0 : J [] W) :
    CallsIn Fence.wide n Try.prog 91 (#[.func (.yield l) #[] #[]] ++ #[.pointer (some ⟨Bs, 0, none⟩)]) W fun e W' => (∃ v, e = .returned v) ∧
      (J (revT xs xs.length) W' ∨ (∃ pre, pre <+: revT xs xs.length ∧ Jx pre W')) := by
  obtain ⟨p, cap, rfl, hm, hcells⟩ := hv
  unfold maxLen at hm
  have HC := Lib.hid hcells
  have HBs := Lib.hid hBs
  have HB0 := Lib.hid hB0
  have HY := Lib.hid hY
  clear hcells hB0 hY
  have hFB : ∀ W', Below n0 W W' → W'.cell? ⟨Bs, 0, none⟩ = some (.slice p xs.length cap) := fun W' h => (h.cell (p := ⟨Bs, 0, none⟩) hBl).trans HBs.out
  have hWW : Below n0 W W := Below.refl _ _
  refine callsIn_of_wp Try.func91 rfl trivial ?_ rfl
  simp only [Try.ntmps91, List.size_toArray, List.length_cons, List.length_nil, Nat.reduceAdd, Nat.reduceSub, Array.replicate_succ, Array.replicate_zero, List.push_toArray, List.append_toArray, List.nil_append, List.cons_append]
  gi_wp2
  clear hBs
  gi_loopw [3] (fun i wr => ∃ m : Nat, m ≤ xs.length ∧ i = .int .i64 ((m : Int) - 1) ∧ Hid (J (revT xs (xs.length - m)) wr) ∧ Below n0 W wr) (fun i _ => (intOf i + 1).toNat)
  case atStart => exact ⟨xs.length, Nat.le_refl _, rfl, by show J _ _; rw [Nat.sub_self]; exact hJ0, hWW⟩
  case round =>
    obtain ⟨m, hk, rfl, hJs, HK⟩ := hrel
    clear hWW
    rcases m with _ | j
    · have hz : ((0 : Nat) : Int) - 1 = -1 := by omega
      rw [hz]
      clear hz
      gi_wp2
      go_end0
      exact ⟨⟨_, rfl⟩, .inl (by have := hJs.out; rwa [Nat.sub_zero] at this)⟩
    · have hz : (((j + 1 : Nat) : Int) - 1) = (j : Int) := by omega
      rw [hz]
      clear hz
      obtain ⟨b, off, rfl, hcs⟩ := HC.out (by intro h; rw [h] at hk; simp at hk)
      obtain ⟨e0, e1⟩ := hcs j (by omega)
      have l0 := lt_of_cell e0
      simp at l0
      have c0 : wr.cell? ⟨b, off + j * 2, none⟩ = some (.int .i64 xs[j].1) := (HK.cell (p := ⟨b, off + j * 2, none⟩) (by simp <;> omega)).trans (keepsB HB0.out e0)
      have c1 : wr.cell? ⟨b, off + j * 2 + 1, none⟩ = some (.int .i64 xs[j].2) := (HK.cell (p := ⟨b, off + j * 2 + 1, none⟩) (by simp <;> omega)).trans (keepsB HB0.out e1)
      have hstep : Hid (revT xs (xs.length - j) = revT xs (xs.length - (j + 1)) ++ [((j : Int), xs[j].1, xs[j].2)]) := by
        show _ = _
        rw [show xs.length - j = (xs.length - (j + 1)) + 1 by omega, revT, show xs.length - (xs.length - (j + 1) + 1) = j by omega]
        simp [List.getD_eq_getElem?_getD, show j < xs.length by omega]
      have hpx : Hid (revT xs (xs.length - (j + 1)) ++ [((j : Int), xs[j].1, xs[j].2)] <+: revT xs xs.length) := by
        show _ <+: _
        rw [← hstep.out]; exact revT_prefix xs (by omega)
      obtain ⟨x, hx⟩ : ∃ x, xs[j].1 = x := ⟨_, rfl⟩
      obtain ⟨y, hy⟩ : ∃ y, xs[j].2 = y := ⟨_, rfl⟩
      rw [hx] at c0 hstep hpx
      rw [hy] at c1 hstep hpx
      clear hx hy hcs e0 e1
      obtain ⟨fn, tmps, assign, body, hyy, hR⟩ := HY.out _ ((j : Int), x, y) wr hpx.out hJs.out
      dsimp only [encT] at hyy
      gi_wp2
      refine hR.mono ?_
      rintro e W3 (⟨rfl, hJ3, hk3⟩ | ⟨rfl, hJx3⟩)
      · have HK3 : Below n0 W W3 := HK.trans hk3
        have HJ3 := Lib.hid hJ3
        clear hJ3 HK hk3
        gi_wp2
        go_roundw
        case rel => exact ⟨j, by omega, by simp, by show J _ _; rw [hstep.out]; exact HJ3.out, HK3⟩
        case measure => simp [intOf] <;> omega
      · gi_wp2
        refine bodyPost_ret (results_none rfl _ _ _) rfl ?_
        exact ⟨⟨_, rfl⟩, .inr ⟨_, hpx.out, hJx3⟩⟩
end Go.Proofs.Ytfdbegohjlijoaa

/- What terms take off for a draw. -/
namespace Go.Proofs.Ytfdbegohjlijoaa
set_option linter.unusedSimpArgs false
set_option linter.unusedVariables false
open Go.RowKit Go.Shelf RR
attribute [local go_sem] Oper.semAt_some

def offB (o f : Int) (x : Int × Int) : Bool := decide (0 < o) && decide (x.1 * o ≤ 100 * f)
def offR (o f : Int) (l : List (Int × Int × Int)) : Int := match l.find? (fun x => offB o f x.2) with | some x => x.2.2 | none => 0
/-- What terms take off. -/
def offV (xs : List (Int × Int)) (o f : Int) : Int := offR o f (revT xs xs.length)
theorem offR_skip {o f : Int} {pre : List (Int × Int × Int)} {x : Int × Int × Int} (h : ∀ rest, offR o f (pre ++ rest) = offR o f rest) (hx : offB o f x.2 = false) : ∀ rest, offR o f (pre ++ [x] ++ rest) = offR o f rest := fun rest => by
  rw [List.append_assoc, h]; simp [offR, hx]
theorem offR_hit {o f : Int} {pre : List (Int × Int × Int)} {x : Int × Int × Int} (h : ∀ rest, offR o f (pre ++ rest) = offR o f rest) (hx : offB o f x.2 = true) : ∀ rest, offR o f (pre ++ [x] ++ rest) = x.2.2 := fun rest => by
  rw [List.append_assoc, h]; simp [offR, hx]
theorem revT_mem (xs : List (Int × Int)) : ∀ k, k ≤ xs.length → ∀ x ∈ revT xs k, x.2 ∈ xs
  | 0, _, x, h => by simp [revT] at h
  | k + 1, hk, x, h => by
    rcases List.mem_append.1 h with h | h
    · exact revT_mem xs k (by omega) x h
    · simp at h
      subst h
      have : xs.length - (k + 1) < xs.length := by omega
      simp only [List.getD_eq_getElem?_getD, List.getElem?_eq_getElem this, Option.getD_some]
      exact List.getElem_mem this

set_option maxRecDepth 100000 in
set_option maxHeartbeats 1000000 in
theorem backT_any (p : Option Addr) (n cap : Nat) (w : World) :
    Calls Try.prog 85 #[.slice p n cap] w fun e w' => e = .returned (.func (.func 91) #[] #[.pointer (some ⟨w.heap.size, 0, none⟩)]) ∧ w.alloc (.cells #[.slice p n cap] 63) = w' := by
  go_enter Try.func85, Try.ntmps85
  go_wp2_with fail
  go_ret
  exact ⟨rfl, rfl⟩
section
variable {w W W' : World}
theorem heap_bel {b : Nat} {o : Obj} (h : W.heap[b]? = some o) (hB : Free.Bel W W') : W'.heap[b]? = some o := (hB.block b (lt_of_heap h)).trans h
theorem heap_grown {b : Nat} {o : Obj} {row : Option Nat} (h : W.heap[b]? = some o) (hg : W.grownBy W' row) (hne : some b ≠ row) : W'.heap[b]? = some o := (hg.block b (lt_of_heap h) hne).trans h
theorem heap_set {b b' k : Nat} {o : Obj} {v : Value} (h : W.heap[b]? = some o) (hne : b ≠ b') : (W.setCell ⟨b', k, none⟩ v).heap[b]? = some o := (Below.heap_setCell _ _ _ _ hne).trans h
end

set_option maxRecDepth 100000 in
set_option maxHeartbeats 4000000 in
theorem off_any (xs : List (Int × Int)) (v : Value) (o f : Int) (w : World) (hv : PL xs v w) (hxs : ∀ t ∈ xs, 0 ≤ t.1 ∧ t.1 ≤ 100) (ho : 0 ≤ o ∧ o ≤ 36) (hf : 0 ≤ f ∧ f ≤ 36) :
    Calls Try.prog 66 #[v, .agg #[.int .i64 o, .int .i64 f]] w fun e w' => e = .returned (.int .i64 (offV xs o f)) ∧ Below w.heap.size w w' := by
  have hv' := hv
  obtain ⟨p, cap, rfl, _, _⟩ := hv'
  obtain ⟨s, hs⟩ : ∃ s, w.heap.size = s := ⟨_, rfl⟩
  have bR0 := World.alloc_heap_new (w.alloc (.cells #[.int .i64 o, .int .i64 f] 27)) (.cells #[.int .i64 0] 3)
  have bD0 := World.alloc_heap_new w (.cells #[.int .i64 o, .int .i64 f] 27)
  obtain ⟨W2, hW2⟩ : ∃ W2, (w.alloc (.cells #[.int .i64 o, .int .i64 f] 27)).alloc (.cells #[.int .i64 0] 3) = W2 := ⟨_, rfl⟩
  have bD1 := heap_bel bD0 (belAlloc (w.alloc (.cells #[.int .i64 o, .int .i64 f] 27)) (.cells #[.int .i64 0] 3))
  have hB2 : Below w.heap.size w W2 := by rw [← hW2]; exact ((Below.refl _ w).alloc (Nat.le_refl _) _).alloc (by simp) _
  have hs2 : W2.heap.size = s + 2 := by rw [← hW2, ← hs]; simp
  rw [hW2] at bR0 bD1
  simp only [World.size_alloc, hs] at bR0 bD1
  have bR := heap_bel bR0 (belAlloc W2 (.cells #[.slice p xs.length cap] 63))
  have bD := heap_bel bD1 (belAlloc W2 (.cells #[.slice p xs.length cap] 63))
  have bS := World.alloc_heap_new W2 (.cells #[.slice p xs.length cap] 63)
  rw [hs2] at bS
  have hB3 : Below s w (W2.alloc (.cells #[.slice p xs.length cap] 63)) := by rw [← hs]; exact hB2.alloc hB2.size _
  have hseq : SeqL Fence.wide (5 - 1) Try.prog 91 #[.pointer (some ⟨s + 2, 0, none⟩)] encT Free.Bel (Below (s + 3)) (revT xs xs.length) (W2.alloc (.cells #[.slice p xs.length cap] 63)) := fun l J Jx W hW hJ hJx hY h0 =>
    backT1_in (5 - 1) l (s + 2) (s + 3) _ xs (by omega) w W hv (by omega) (by rw [hs]; exact hB3.trans (hW.mono (by simp [hs2]; omega))) (cell_of_heap (heap_bel bS hW) rfl) (by omega) J Jx hY h0
  have HSEQ := Lib.hid hseq
  have HBS := Lib.hid (And.intro bR (And.intro bD (And.intro hB3 hs2)))
  have HXS := Lib.hid (fun (x : Int × Int × Int) (pre : List (Int × Int × Int)) (h : pre ++ [x] <+: revT xs xs.length) => hxs _ (revT_mem xs xs.length (Nat.le_refl _) x (h.subset (by simp))))
  have HS := Lib.hid hs
  clear hseq bR bD bS hB3 bR0 bD0 bD1 hB2 hxs hv
  refine (callsIn_wide (n := 5)).1 ?_
  refine callsIn_of_wp_marks Try.func66 rfl trivial ?_ rfl
  simp only [Try.ntmps66, List.size_toArray, List.length_cons, List.length_nil, Nat.reduceAdd, Nat.reduceSub, Array.replicate_succ, Array.replicate_zero, List.push_toArray, List.append_toArray, List.nil_append, List.cons_append]
  gi_wp2
  refine ⟨trivial, ?_⟩
  gi_at_call 85
  refine (callsIn_wide.2 (backT_any p xs.length cap W2)).mono ?_
  rintro e w1 ⟨rfl, hw1⟩
  subst hw1
  rw [hs2]
  gi_wp2
  refine wpIn_rangeFunc_RH (F := Fence.wide) (n := 5) rfl (by omega) (gf := 91) (lb := #[.pointer (some ⟨s + 2, 0, none⟩)]) rfl trivial (enters_of Try.func91 (by kernel_rfl) rfl)
    HSEQ.out (fun A b _ h => Free.Bel.trans _ _ _ h (belAlloc A b)) (Free.Bel.refl _) (fun A B k b h _ hA => heap_bel hA h)
    Below.trans (fun W l b b' hl h _ _ => Below.putNew b' (by simp [hs2] at hl; omega)) (fun _ => rfl)
    (fun pre W => (∀ rest, offR o f (pre ++ rest) = offR o f rest) ∧ W.heap[s + 1]? = some (.cells #[.int .i64 0] 3) ∧ W.heap[s]? = some (.cells #[.int .i64 o, .int .i64 f] 27) ∧ Below s w W ∧ s + 3 ≤ W.heap.size)
    (fun c pre W => c = .ret ∧ (∃ q, W.cell? ⟨s + 1, 0, none⟩ = some (.int .i64 q) ∧ ∀ rest, offR o f (pre ++ rest) = q) ∧ Below s w W)
    ?own ?ownx ?abide ?abidex ⟨fun _ => rfl, HBS.out.1, HBS.out.2.1, HBS.out.2.2.1, by simp [HBS.out.2.2.2]⟩
    (fun x a' W => ∃ B, s + 3 ≤ B ∧ Two B (.int .i64 x.2.1) (.int .i64 x.2.2) W ∧ a' = { tmps := #[.slice p xs.length cap, .agg #[.int .i64 o, .int .i64 f], undef, .pointer (some ⟨s, 0, none⟩), .pointer (some ⟨s + 1, 0, none⟩), undef, .pointer (some ⟨B, 0, none⟩), .slice p xs.length cap, .func (.func 91) #[] #[.pointer (some ⟨s + 2, 0, none⟩)], .int .i64 x.1, .agg #[.int .i64 x.2.1, .int .i64 x.2.2], undef, undef, undef, undef, undef, undef, undef, undef, undef, undef, undef, undef, undef, undef, undef, undef], defers := [] })
    ?hAx ?assign ?body ?done ?stop
  case own =>
    rintro pre A B row ⟨hp, hr, hd, hB, hsz⟩ hg hrow
    have hne : ∀ b, b < s + 3 → some b ≠ row := fun b hb e => by have := (hrow _ e.symm).1; simp [hs2] at this; omega
    exact ⟨hp, heap_grown hr hg (hne _ (by omega)), heap_grown hd hg (hne _ (by omega)), hB.trans (Below.of_grown hg (by rw [← HS.out]; exact hB.size) (fun r e => by have := (hrow r e).1; simp [hs2] at this; omega)), Nat.le_trans hsz hg.size⟩
  case ownx =>
    rintro c pre A B row ⟨rfl, ⟨q, hq, hp⟩, hB⟩ hg hrow
    exact ⟨rfl, ⟨q, cell_kept hq hg (fun r e => (hrow r e).2), hp⟩, hB.trans (Below.of_grown hg (by rw [← HS.out]; exact hB.size) (fun r e => by have := (hrow r e).1; simp [hs2] at this; omega))⟩
  case abide =>
    rintro pre A B ⟨hp, hr, hd, hB, hsz⟩ hR
    exact ⟨hp, heap_bel hr hR, heap_bel hd hR, hB.trans (hR.mono (by omega)), Nat.le_trans hsz hR.size⟩
  case abidex =>
    rintro c pre A B ⟨rfl, ⟨q, hq, hp⟩, hB⟩ hR
    exact ⟨rfl, ⟨q, (World.cell?_of_block (w := A) (a := ⟨s + 1, 0, none⟩) (hR.block _ (lt_of_cell hq))).trans hq, hp⟩, hB.trans (hR.mono (by rw [← HS.out]; exact hB.size))⟩
  case hAx =>
    rintro x a' _ A B row ⟨b, hb, hT, rfl⟩ hg hrow
    have hr' := fun r e => (hrow r e).2
    exact ⟨b, hb, ⟨cell_kept hT.c0 hg hr', cell_kept hT.c1 hg hr', (frozen_kept hT.c0 hg hr').trans hT.f0, (frozen_kept hT.c1 hg hr').trans hT.f1⟩, rfl⟩
  case assign =>
    intro l pre x W K hI hpre hK
    obtain ⟨hp, hr, hd, hB, hsz⟩ := hI
    have c0 : (W.alloc (.cells #[.int .i64 x.2.1, .int .i64 x.2.2] 113)).heap[W.heap.size]? = _ := World.alloc_heap_new W _
    gi_wp2
    exact hK _ _ ((KeepsOthers.alloc W _).from _) ((Below.refl _ W).alloc hsz _) ⟨hp, heap_bel hr (belAlloc W _), heap_bel hd (belAlloc W _), hB.alloc (by omega) _, by simp; omega⟩ ⟨W.heap.size, hsz, ⟨cell_of_heap c0 rfl, cell_of_heap c0 rfl, frozen_of_heap c0, frozen_of_heap c0⟩, rfl⟩
  case body =>
    rintro l pre x a' W ⟨hp, hr, hd, hB, hsz⟩ ⟨b, hb, hT, rfl⟩ hpre
    have hx := HXS.out x pre hpre
    have hm1 : 0 ≤ x.2.1 * o := Int.mul_nonneg hx.1 ho.1
    have hm2 : x.2.1 * o ≤ 100 * 36 := Int.mul_le_mul hx.2 ho.2 ho.1 (by omega)
    have hrc := Boxed.cell hr
    have hrf := Boxed.frozen hr
    have hd0 : W.cell? ⟨s, 0, none⟩ = some (.int .i64 o) := cell_of_heap hd rfl
    have hd1 : W.cell? ⟨s, 1, none⟩ = some (.int .i64 f) := cell_of_heap hd rfl
    have hc0 := hT.c0
    have hc1 := hT.c1
    rw [show (W2.alloc (.cells #[.slice p xs.length cap] 63)).heap.size = s + 3 by simp [hs2]]
    gi_wp2
    · exact ⟨(KeepsOthers.setCell _ _ _).from _, rfl, ⟨x.2.2, World.cell?_setCell_same' _ _ _ (by rw [hrc]; rfl), offR_hit hp (by simp [offB]; omega)⟩, hB.setCell (p := ⟨s + 1, 0, none⟩) (by simp) _⟩
    · exact ⟨KeepsFrom.refl _ _, Below.refl _ _, offR_skip hp (by simp [offB]; omega), hr, hd, hB, hsz⟩
    · exact ⟨KeepsFrom.refl _ _, Below.refl _ _, offR_skip hp (by simp [offB]; omega), hr, hd, hB, hsz⟩
  case done =>
    rintro D W hD ⟨hp, hr, hd, hB, hsz⟩ hKD
    have hrc := Boxed.cell hr
    have hrf := Boxed.frozen hr
    gi_wp2
    have hK' := (KeepsOthers.setCell W ⟨s + 1, 0, none⟩ (.int .i64 0)).same D _ hKD rfl
    refine ⟨by simp, .inl ⟨_, _, rfl, run_takeDeferred hK', ?_⟩⟩
    have hc5 := cell_kept (World.cell?_setCell_same' W ⟨s + 1, 0, none⟩ (.int .i64 0) (by rw [hrc]; rfl)) (grownBy_putObj' _ D (.deferred none)) (fun r e => by cases e; exact ⟨_, hK', rfl⟩)
    have ho0 : offV xs o f = 0 := by have := hp []; rwa [List.append_nil] at this
    refine ⟨.int .i64 0, ?_, by rw [ho0], ?_⟩
    · simp [results, Try.f66, go_sem, hc5]
    · rw [HS.out]
      exact (hB.setCell (p := ⟨s + 1, 0, none⟩) (by simp) _).trans (Below.putNew _ (by simp [hs2] at hD; omega))
  case stop =>
    rintro D c pre W hD ⟨t, ht⟩ ⟨rfl, ⟨q, hq, hp⟩, hB⟩ hKD
    gi_wp2
    refine ⟨by simp, .inl ⟨_, _, rfl, run_takeDeferred hKD, ?_⟩⟩
    have hc5 := cell_kept hq (grownBy_putObj' _ D (.deferred none)) (fun r e => by cases e; exact ⟨_, hKD, rfl⟩)
    have hq := hp t
    rw [ht] at hq
    refine ⟨.int .i64 q, ?_, by rw [offV, hq], ?_⟩
    · simp [results, Try.f66, go_sem, hc5]
    · rw [HS.out]
      exact hB.trans (Below.putNew _ (by simp [hs2] at hD; omega))
end Go.Proofs.Ytfdbegohjlijoaa

/- What terms take off for a draw: Off. -/
namespace Go.Proofs.Ytfdbegohjlijoaa
set_option linter.unusedSimpArgs false
set_option linter.unusedVariables false
open Go.RowKit Go.Proofs.Ytfdbegohjlijoaa.ML Go.Proofs.Ytfdbegohjlijoaa.Samp

theorem agreedFrom_mem : ∀ (xs : List (Int × Int)) (f p : Int), 0 ≤ f + 1 → agreedFrom f p xs = true → ∀ t ∈ xs, 0 ≤ t.1 ∧ t.1 ≤ 100
  | [], _, _, _, _, t, h => by cases h
  | x :: r, f, p, h0, h, t, ht => by
    simp only [agreedFrom, Bool.and_eq_true] at h
    have h1 : f + 1 ≤ x.1 ∧ x.1 ≤ 100 := by simpa [inB] using h.1
    rcases List.mem_cons.1 ht with rfl | ht
    · omega
    · exact agreedFrom_mem r x.1 x.2 (by omega) h.2.2 t ht
theorem agreedE_mem {xs : List (Int × Int)} (h : agreedE xs = 0) : ∀ t ∈ xs, 0 ≤ t.1 ∧ t.1 ≤ 100 := by
  unfold agreedE at h
  split at h
  · simp at h
  · rename_i h'
    exact agreedFrom_mem xs 0 0 (by omega) (by simpa using h')
def offE (xs : List (Int × Int)) (o f : Int) : Int := firstE [agreedE xs, unlessV (drawB 36 o f) 11]
/-- What Off returns. -/
def offAll (xs : List (Int × Int)) (o f : Int) : Value := if offE xs o f ≠ 0 then .tuple #[.int .i64 0, .int .i64 (offE xs o f)] else .tuple #[.int .i64 (offV xs o f), .int .i64 0]
theorem offE_zero {xs : List (Int × Int)} {o f : Int} (h : offE xs o f = 0) : agreedE xs = 0 ∧ drawB 36 o f = true := by
  unfold offE at h
  have h1 : agreedE xs = 0 := by
    by_cases hm : agreedE xs = 0
    · exact hm
    · simp [firstE, hm] at h
  refine ⟨h1, ?_⟩
  cases hm : drawB 36 o f
  · rw [hm, h1] at h; simp [firstE, unlessV] at h
  · rfl

set_option maxRecDepth 100000 in
set_option maxHeartbeats 4000000 in
theorem offA_a (ts : List (Int × Int)) (v : Value) (o f : Int) (w : World) (hv : PL ts v w) (h1 : inB 0 36 [o] = false) (x z : Int) (hx : Hid (agreedE ts = x)) (hz : Hid (firstE [x, 11] = z)) (hz0 : (z != 0) = true) :
    Calls Try.prog 27 #[v, .agg #[.int .i64 o, .int .i64 f]] w fun e w' => e = .returned (.tuple #[.int .i64 0, .int .i64 z]) ∧ Below w.heap.size w w' := by
  have hB0 : Below w.heap.size w (w.alloc (.cells #[.int .i64 o, .int .i64 f] 27)) := (Below.refl _ w).alloc (Nat.le_refl _) _
  have c0_0 : (w.alloc (.cells #[.int .i64 o, .int .i64 f] 27)).cell? ⟨w.heap.size, 0, none⟩ = some (.int .i64 o) := by simp [go_sem]
  have c0_1 : (w.alloc (.cells #[.int .i64 o, .int .i64 f] 27)).cell? ⟨w.heap.size, 1, none⟩ = some (.int .i64 f) := by simp [go_sem]
  have HV0 := Lib.hid (fun (W : World) (hW : Free.Bel (w.alloc (.cells #[.int .i64 o, .int .i64 f] 27)) W) => (hv.keeps hB0).keeps hW)
  clear hv
  go_enter Try.func27, Try.ntmps27
  go_wp2_with fail
  have hq : w.heap.size + 1 = (w.alloc (.cells #[.int .i64 o, .int .i64 f] 27)).heap.size := by simp
  generalize (w.alloc (.cells #[.int .i64 o, .int .i64 f] 27)) = W0 at *
  generalize hbb : w.heap.size = bb at *
  have HBB := Lib.hid hbb
  clear hbb
  have HB0 := Lib.hid hB0
  have hq0 : bb + 1 ≤ W0.heap.size := by omega
  clear hB0 hq
  have FA : ∀ W, Free.Bel W0 W → W.cell? ⟨bb, 0, none⟩ = some (.int .i64 o) ∧ W.cell? ⟨bb, 1, none⟩ = some (.int .i64 f) ∧ bb + 1 ≤ W.heap.size := fun W hW => ⟨keepsB hW c0_0, keepsB hW c0_1, Nat.le_trans hq0 hW.size⟩
  clear c0_0 c0_1
  have hF : ∀ W, Free.Bel W0.drew W → Free.Bel W0 W := fun W hW => Free.Bel.trans _ _ _ (Bel.drewT (Free.Bel.refl _)) hW
  refine Free.wp_free (R := Free.Bel) (by kernel_rfl) (by kernel_rfl) Free.Bel.refl Free.Bel.trans ?_
  refine Free.Chain.ex ?_ [] [0] (by kernel_rfl) (by kernel_rfl) rfl Free.Bel.refl ?_ ?_
  rotate_left
  · (intro ev W hb hR hO hD; have hS := hF W hR; obtain ⟨hb1, hb2, hb3⟩ := hb; simp only [Free.AllDeps, Free.AllOuts, Free.At, List.getElem?_cons_succ, List.getElem?_cons_zero, Array.getD_eq_getD_getElem?, List.getElem?_toArray, Option.getD_some, and_true] at hO hD; go_simp; rfl)
  simp only [List.nil_append, List.cons_append]
  refine Free.Chain.pr (fun v _ => v = .int .i64 x) [(0, 7)] [] (by kernel_rfl) (by kernel_rfl) rfl (fun _ _ _ _ h => h) ?_ ?_
  · (intro ev W hb hR hO hD; have hS := hF W hR; obtain ⟨hb1, hb2, hb3⟩ := hb; simp only [Free.AllDeps, Free.AllOuts, Free.At, List.getElem?_cons_succ, List.getElem?_cons_zero, Array.getD_eq_getD_getElem?, List.getElem?_toArray, Option.getD_some, and_true] at hO hD; go_simp; refine yields_enter ?_; (with_reducible refine (agreed_v ts v _ (HV0.out _ hS) x hx).mono ?_); rintro e W2 ⟨rfl, hB2⟩; exact ⟨_, rfl, hB2, rfl⟩)
  simp only [List.nil_append, List.cons_append]
  refine Free.Chain.ex ?_ [] [3] (by kernel_rfl) (by kernel_rfl) rfl Free.Bel.refl ?_ ?_
  rotate_left
  · (intro ev W hb hR hO hD; have hS := hF W hR; obtain ⟨hb1, hb2, hb3⟩ := hb; simp only [Free.AllDeps, Free.AllOuts, Free.At, List.getElem?_cons_succ, List.getElem?_cons_zero, Array.getD_eq_getD_getElem?, List.getElem?_toArray, Option.getD_some, and_true] at hO hD; go_simp; rfl)
  simp only [List.nil_append, List.cons_append]
  refine Free.Chain.ex ?_ [(2, 9)] [] (by kernel_rfl) (by kernel_rfl) rfl Free.Bel.refl ?_ ?_
  rotate_left
  · (intro ev W hb hR hO hD; have hS := hF W hR; obtain ⟨hb1, hb2, hb3⟩ := hb; simp only [Free.AllDeps, Free.AllOuts, Free.At, List.getElem?_cons_succ, List.getElem?_cons_zero, Array.getD_eq_getD_getElem?, List.getElem?_toArray, Option.getD_some, and_true] at hO hD; go_simp; rfl)
  simp only [List.nil_append, List.cons_append]
  refine Free.Chain.pr (SlI [o]) [(3, 10)] [] (by kernel_rfl) (by kernel_rfl) rfl (SlI.stable _) ?_ ?_
  · (intro ev W hb hR hO hD; have hS := hF W hR; obtain ⟨hb1, hb2, hb3⟩ := hb; simp only [Free.AllDeps, Free.AllOuts, Free.At, List.getElem?_cons_succ, List.getElem?_cons_zero, Array.getD_eq_getD_getElem?, List.getElem?_toArray, Option.getD_some, and_true] at hO hD; go_simp; exact ⟨belAlloc _ _, SlI.one _ _ _⟩)
  simp only [List.nil_append, List.cons_append]
  refine Free.Chain.pr (fun v _ => v = .bool false) [(4, 11), (1, 8)] [] (by kernel_rfl) (by kernel_rfl) rfl (fun _ _ _ _ h => h) ?_ ?_
  · (intro ev W hb hR hO hD; have hS := hF W hR; obtain ⟨hb1, hb2, hb3⟩ := hb; simp only [Free.AllDeps, Free.AllOuts, Free.At, List.getElem?_cons_succ, List.getElem?_cons_zero, Array.getD_eq_getD_getElem?, List.getElem?_toArray, Option.getD_some, and_true] at hO hD; go_simp; refine yields_enter ?_; (with_reducible refine (in_sl 0 36 [o] false _ _ (by simp [maxLen]) h1 hD.1).mono ?_); rintro e W2 ⟨rfl, hB2⟩; exact ⟨_, rfl, hB2, rfl⟩)
  simp only [List.nil_append, List.cons_append]
  refine Free.Chain.ex ?_ [(5, 12), (5, 12)] [] (by kernel_rfl) (by kernel_rfl) rfl Free.Bel.refl ?_ ?_
  rotate_left
  · (intro ev W hb hR hO hD; have hS := hF W hR; obtain ⟨hb1, hb2, hb3⟩ := hb; simp only [Free.AllDeps, Free.AllOuts, Free.At, List.getElem?_cons_succ, List.getElem?_cons_zero, Array.getD_eq_getD_getElem?, List.getElem?_toArray, Option.getD_some, and_true] at hO hD; go_simp; rfl)
  simp only [List.nil_append, List.cons_append]
  refine Free.Chain.no [(6, 13)] [3] 6 true 13 (by kernel_rfl) (by kernel_rfl) rfl (by kernel_rfl) ?_ ?_
  · (intro ev W hR hD; simp only [Free.AllDeps, Free.At, List.getElem?_cons_succ, List.getElem?_cons_zero, and_true] at hD; simp [hD])
  simp only [List.nil_append, List.cons_append]
  refine Free.Chain.no [(7, 14), (6, 13)] [] 6 true 13 (by kernel_rfl) (by kernel_rfl) rfl (by kernel_rfl) ?_ ?_
  · (intro ev W hR hD; simp only [Free.AllDeps, Free.At, List.getElem?_cons_succ, List.getElem?_cons_zero, and_true] at hD; simp [hD])
  simp only [List.nil_append, List.cons_append]
  refine Free.Chain.no [(6, 13)] [3] 6 true 13 (by kernel_rfl) (by kernel_rfl) rfl (by kernel_rfl) ?_ ?_
  · (intro ev W hR hD; simp only [Free.AllDeps, Free.At, List.getElem?_cons_succ, List.getElem?_cons_zero, and_true] at hD; simp [hD])
  simp only [List.nil_append, List.cons_append]
  refine Free.Chain.no [(9, 16), (6, 13)] [] 6 true 13 (by kernel_rfl) (by kernel_rfl) rfl (by kernel_rfl) ?_ ?_
  · (intro ev W hR hD; simp only [Free.AllDeps, Free.At, List.getElem?_cons_succ, List.getElem?_cons_zero, and_true] at hD; simp [hD])
  simp only [List.nil_append, List.cons_append]
  refine Free.Chain.no [(10, 17), (6, 13)] [] 6 true 13 (by kernel_rfl) (by kernel_rfl) rfl (by kernel_rfl) ?_ ?_
  · (intro ev W hR hD; simp only [Free.AllDeps, Free.At, List.getElem?_cons_succ, List.getElem?_cons_zero, and_true] at hD; simp [hD])
  simp only [List.nil_append, List.cons_append]
  refine Free.Chain.no [(8, 15), (11, 18), (6, 13), (6, 13)] [] 6 true 13 (by kernel_rfl) (by kernel_rfl) rfl (by kernel_rfl) ?_ ?_
  · (intro ev W hR hD; simp only [Free.AllDeps, Free.At, List.getElem?_cons_succ, List.getElem?_cons_zero, and_true] at hD; simp [hD])
  simp only [List.nil_append, List.cons_append]
  refine Free.Chain.ex ?_ [(6, 13), (12, 19)] [] (by kernel_rfl) (by kernel_rfl) rfl Free.Bel.refl ?_ ?_
  rotate_left
  · (intro ev W hb hR hO hD; have hS := hF W hR; obtain ⟨hb1, hb2, hb3⟩ := hb; simp only [Free.AllDeps, Free.AllOuts, Free.At, List.getElem?_cons_succ, List.getElem?_cons_zero, Array.getD_eq_getD_getElem?, List.getElem?_toArray, Option.getD_some, and_true] at hO hD; go_simp; rfl)
  simp only [List.nil_append, List.cons_append]
  refine Free.Chain.pr (fun v _ => v = .int .i64 11) [(13, 20), (12, 19)] [] (by kernel_rfl) (by kernel_rfl) rfl (fun _ _ _ _ h => h) ?_ ?_
  · (intro ev W hb hR hO hD; have hS := hF W hR; obtain ⟨hb1, hb2, hb3⟩ := hb; simp only [Free.AllDeps, Free.AllOuts, Free.At, List.getElem?_cons_succ, List.getElem?_cons_zero, Array.getD_eq_getD_getElem?, List.getElem?_toArray, Option.getD_some, and_true] at hO hD; go_simp; refine yields_enter ?_; (with_reducible refine (unless_any _ _ 11 _ rfl).mono ?_); rintro e W2 ⟨rfl, rfl⟩; exact ⟨_, rfl, Free.Bel.refl _, rfl⟩)
  simp only [List.nil_append, List.cons_append]
  refine Free.Chain.pr (SlI [x, 11]) [(1, 8), (14, 21)] [] (by kernel_rfl) (by kernel_rfl) rfl (SlI.stable _) ?_ ?_
  · (intro ev W hb hR hO hD; have hS := hF W hR; obtain ⟨hb1, hb2, hb3⟩ := hb; simp only [Free.AllDeps, Free.AllOuts, Free.At, List.getElem?_cons_succ, List.getElem?_cons_zero, Array.getD_eq_getD_getElem?, List.getElem?_toArray, Option.getD_some, and_true] at hO hD; go_simp; exact ⟨belAlloc _ _, SlI.two _ _ _ _⟩)
  simp only [List.nil_append, List.cons_append]
  refine Free.Chain.pr (fun v _ => v = .int .i64 z) [(15, 22), (14, 21)] [] (by kernel_rfl) (by kernel_rfl) rfl (fun _ _ _ _ h => h) ?_ ?_
  · (intro ev W hb hR hO hD; have hS := hF W hR; obtain ⟨hb1, hb2, hb3⟩ := hb; simp only [Free.AllDeps, Free.AllOuts, Free.At, List.getElem?_cons_succ, List.getElem?_cons_zero, Array.getD_eq_getD_getElem?, List.getElem?_toArray, Option.getD_some, and_true] at hO hD; go_simp; refine yields_enter ?_; (with_reducible refine (first_sl [x, 11] z _ _ (by simp [maxLen]) hz.out hD.1).mono ?_); rintro e W2 ⟨rfl, rfl⟩; exact ⟨_, rfl, Free.Bel.refl _, rfl⟩)
  simp only [List.nil_append, List.cons_append]
  refine Free.Chain.ex ?_ [(16, 23), (16, 23), (0, 7), (1, 8), (2, 9), (3, 10), (4, 11), (5, 12), (6, 13), (7, 14), (8, 15), (9, 16), (10, 17), (11, 18), (12, 19), (13, 20), (14, 21), (15, 22), (16, 23)] [] (by kernel_rfl) (by kernel_rfl) rfl Free.Bel.refl ?_ ?_
  rotate_left
  · (intro ev W hb hR hO hD; have hS := hF W hR; obtain ⟨hb1, hb2, hb3⟩ := hb; simp only [Free.AllDeps, Free.AllOuts, Free.At, List.getElem?_cons_succ, List.getElem?_cons_zero, Array.getD_eq_getD_getElem?, List.getElem?_toArray, Option.getD_some, and_true] at hO hD; go_simp; rfl)
  simp only [List.nil_append, List.cons_append]
  intro xs w2 hR hV
  simp only [Free.AllV, Free.At, List.length_cons, List.length_nil, Nat.reduceAdd, List.getElem?_cons_succ, List.getElem?_cons_zero, true_and] at hV
  simp only [Free.putsFrom, Act.put, Nat.zero_add, Nat.reduceAdd, hV, List.setIfInBounds_toArray, List.set_cons_succ, List.set_cons_zero]
  have HK2 := hF w2 hR
  clear hR hV hF
  go_wp2_with fail
  go_ret2
  have hbb := HBB.out
  subst hbb
  exact ⟨rfl, HB0.out.trans (HK2.mono (by omega))⟩

set_option maxRecDepth 100000 in
set_option maxHeartbeats 4000000 in
theorem offA_b (ts : List (Int × Int)) (v : Value) (o f : Int) (w : World) (hv : PL ts v w) (h1 : inB 0 36 [o] = true) (h2 : inB 0 o [f] = false) (x z : Int) (hx : Hid (agreedE ts = x)) (hz : Hid (firstE [x, 11] = z)) (hz0 : (z != 0) = true) :
    Calls Try.prog 27 #[v, .agg #[.int .i64 o, .int .i64 f]] w fun e w' => e = .returned (.tuple #[.int .i64 0, .int .i64 z]) ∧ Below w.heap.size w w' := by
  have hB0 : Below w.heap.size w (w.alloc (.cells #[.int .i64 o, .int .i64 f] 27)) := (Below.refl _ w).alloc (Nat.le_refl _) _
  have c0_0 : (w.alloc (.cells #[.int .i64 o, .int .i64 f] 27)).cell? ⟨w.heap.size, 0, none⟩ = some (.int .i64 o) := by simp [go_sem]
  have c0_1 : (w.alloc (.cells #[.int .i64 o, .int .i64 f] 27)).cell? ⟨w.heap.size, 1, none⟩ = some (.int .i64 f) := by simp [go_sem]
  have HV0 := Lib.hid (fun (W : World) (hW : Free.Bel (w.alloc (.cells #[.int .i64 o, .int .i64 f] 27)) W) => (hv.keeps hB0).keeps hW)
  clear hv
  go_enter Try.func27, Try.ntmps27
  go_wp2_with fail
  have hq : w.heap.size + 1 = (w.alloc (.cells #[.int .i64 o, .int .i64 f] 27)).heap.size := by simp
  generalize (w.alloc (.cells #[.int .i64 o, .int .i64 f] 27)) = W0 at *
  generalize hbb : w.heap.size = bb at *
  have HBB := Lib.hid hbb
  clear hbb
  have HB0 := Lib.hid hB0
  have hq0 : bb + 1 ≤ W0.heap.size := by omega
  clear hB0 hq
  have FA : ∀ W, Free.Bel W0 W → W.cell? ⟨bb, 0, none⟩ = some (.int .i64 o) ∧ W.cell? ⟨bb, 1, none⟩ = some (.int .i64 f) ∧ bb + 1 ≤ W.heap.size := fun W hW => ⟨keepsB hW c0_0, keepsB hW c0_1, Nat.le_trans hq0 hW.size⟩
  clear c0_0 c0_1
  have hF : ∀ W, Free.Bel W0.drew W → Free.Bel W0 W := fun W hW => Free.Bel.trans _ _ _ (Bel.drewT (Free.Bel.refl _)) hW
  refine Free.wp_free (R := Free.Bel) (by kernel_rfl) (by kernel_rfl) Free.Bel.refl Free.Bel.trans ?_
  refine Free.Chain.ex ?_ [] [0] (by kernel_rfl) (by kernel_rfl) rfl Free.Bel.refl ?_ ?_
  rotate_left
  · (intro ev W hb hR hO hD; have hS := hF W hR; obtain ⟨hb1, hb2, hb3⟩ := hb; simp only [Free.AllDeps, Free.AllOuts, Free.At, List.getElem?_cons_succ, List.getElem?_cons_zero, Array.getD_eq_getD_getElem?, List.getElem?_toArray, Option.getD_some, and_true] at hO hD; go_simp; rfl)
  simp only [List.nil_append, List.cons_append]
  refine Free.Chain.pr (fun v _ => v = .int .i64 x) [(0, 7)] [] (by kernel_rfl) (by kernel_rfl) rfl (fun _ _ _ _ h => h) ?_ ?_
  · (intro ev W hb hR hO hD; have hS := hF W hR; obtain ⟨hb1, hb2, hb3⟩ := hb; simp only [Free.AllDeps, Free.AllOuts, Free.At, List.getElem?_cons_succ, List.getElem?_cons_zero, Array.getD_eq_getD_getElem?, List.getElem?_toArray, Option.getD_some, and_true] at hO hD; go_simp; refine yields_enter ?_; (with_reducible refine (agreed_v ts v _ (HV0.out _ hS) x hx).mono ?_); rintro e W2 ⟨rfl, hB2⟩; exact ⟨_, rfl, hB2, rfl⟩)
  simp only [List.nil_append, List.cons_append]
  refine Free.Chain.ex ?_ [] [3] (by kernel_rfl) (by kernel_rfl) rfl Free.Bel.refl ?_ ?_
  rotate_left
  · (intro ev W hb hR hO hD; have hS := hF W hR; obtain ⟨hb1, hb2, hb3⟩ := hb; simp only [Free.AllDeps, Free.AllOuts, Free.At, List.getElem?_cons_succ, List.getElem?_cons_zero, Array.getD_eq_getD_getElem?, List.getElem?_toArray, Option.getD_some, and_true] at hO hD; go_simp; rfl)
  simp only [List.nil_append, List.cons_append]
  refine Free.Chain.ex ?_ [(2, 9)] [] (by kernel_rfl) (by kernel_rfl) rfl Free.Bel.refl ?_ ?_
  rotate_left
  · (intro ev W hb hR hO hD; have hS := hF W hR; obtain ⟨hb1, hb2, hb3⟩ := hb; simp only [Free.AllDeps, Free.AllOuts, Free.At, List.getElem?_cons_succ, List.getElem?_cons_zero, Array.getD_eq_getD_getElem?, List.getElem?_toArray, Option.getD_some, and_true] at hO hD; go_simp; rfl)
  simp only [List.nil_append, List.cons_append]
  refine Free.Chain.pr (SlI [o]) [(3, 10)] [] (by kernel_rfl) (by kernel_rfl) rfl (SlI.stable _) ?_ ?_
  · (intro ev W hb hR hO hD; have hS := hF W hR; obtain ⟨hb1, hb2, hb3⟩ := hb; simp only [Free.AllDeps, Free.AllOuts, Free.At, List.getElem?_cons_succ, List.getElem?_cons_zero, Array.getD_eq_getD_getElem?, List.getElem?_toArray, Option.getD_some, and_true] at hO hD; go_simp; exact ⟨belAlloc _ _, SlI.one _ _ _⟩)
  simp only [List.nil_append, List.cons_append]
  refine Free.Chain.pr (fun v _ => v = .bool true) [(4, 11), (1, 8)] [] (by kernel_rfl) (by kernel_rfl) rfl (fun _ _ _ _ h => h) ?_ ?_
  · (intro ev W hb hR hO hD; have hS := hF W hR; obtain ⟨hb1, hb2, hb3⟩ := hb; simp only [Free.AllDeps, Free.AllOuts, Free.At, List.getElem?_cons_succ, List.getElem?_cons_zero, Array.getD_eq_getD_getElem?, List.getElem?_toArray, Option.getD_some, and_true] at hO hD; go_simp; refine yields_enter ?_; (with_reducible refine (in_sl 0 36 [o] true _ _ (by simp [maxLen]) h1 hD.1).mono ?_); rintro e W2 ⟨rfl, hB2⟩; exact ⟨_, rfl, hB2, rfl⟩)
  simp only [List.nil_append, List.cons_append]
  refine Free.Chain.ex ?_ [(5, 12), (5, 12)] [] (by kernel_rfl) (by kernel_rfl) rfl Free.Bel.refl ?_ ?_
  rotate_left
  · (intro ev W hb hR hO hD; have hS := hF W hR; obtain ⟨hb1, hb2, hb3⟩ := hb; simp only [Free.AllDeps, Free.AllOuts, Free.At, List.getElem?_cons_succ, List.getElem?_cons_zero, Array.getD_eq_getD_getElem?, List.getElem?_toArray, Option.getD_some, and_true] at hO hD; go_simp; rfl)
  simp only [List.nil_append, List.cons_append]
  refine Free.Chain.exG ?_ [(6, 13)] [3] 6 true 13 (by kernel_rfl) (by kernel_rfl) rfl (by kernel_rfl) Free.Bel.refl ?_ ?_
  rotate_left
  · (intro ev W hb hR hO hD; have hS := hF W hR; obtain ⟨hb1, hb2, hb3⟩ := hb; simp only [Free.AllDeps, Free.AllOuts, Free.At, List.getElem?_cons_succ, List.getElem?_cons_zero, Array.getD_eq_getD_getElem?, List.getElem?_toArray, Option.getD_some, and_true] at hO hD; refine ⟨by simp [hD], ?_⟩; go_simp; rfl)
  simp only [List.nil_append, List.cons_append]
  refine Free.Chain.exG ?_ [(7, 14), (6, 13)] [] 6 true 13 (by kernel_rfl) (by kernel_rfl) rfl (by kernel_rfl) Free.Bel.refl ?_ ?_
  rotate_left
  · (intro ev W hb hR hO hD; have hS := hF W hR; obtain ⟨hb1, hb2, hb3⟩ := hb; simp only [Free.AllDeps, Free.AllOuts, Free.At, List.getElem?_cons_succ, List.getElem?_cons_zero, Array.getD_eq_getD_getElem?, List.getElem?_toArray, Option.getD_some, and_true] at hO hD; refine ⟨by simp [hD], ?_⟩; go_simp; rfl)
  simp only [List.nil_append, List.cons_append]
  refine Free.Chain.exG ?_ [(6, 13)] [3] 6 true 13 (by kernel_rfl) (by kernel_rfl) rfl (by kernel_rfl) Free.Bel.refl ?_ ?_
  rotate_left
  · (intro ev W hb hR hO hD; have hS := hF W hR; obtain ⟨hb1, hb2, hb3⟩ := hb; simp only [Free.AllDeps, Free.AllOuts, Free.At, List.getElem?_cons_succ, List.getElem?_cons_zero, Array.getD_eq_getD_getElem?, List.getElem?_toArray, Option.getD_some, and_true] at hO hD; refine ⟨by simp [hD], ?_⟩; go_simp; rfl)
  simp only [List.nil_append, List.cons_append]
  refine Free.Chain.exG ?_ [(9, 16), (6, 13)] [] 6 true 13 (by kernel_rfl) (by kernel_rfl) rfl (by kernel_rfl) Free.Bel.refl ?_ ?_
  rotate_left
  · (intro ev W hb hR hO hD; have hS := hF W hR; obtain ⟨hb1, hb2, hb3⟩ := hb; simp only [Free.AllDeps, Free.AllOuts, Free.At, List.getElem?_cons_succ, List.getElem?_cons_zero, Array.getD_eq_getD_getElem?, List.getElem?_toArray, Option.getD_some, and_true] at hO hD; refine ⟨by simp [hD], ?_⟩; go_simp; rfl)
  simp only [List.nil_append, List.cons_append]
  refine Free.Chain.prG (SlI [f]) [(10, 17), (6, 13)] [] 6 true 13 (by kernel_rfl) (by kernel_rfl) rfl (by kernel_rfl) (SlI.stable _) ?_ ?_
  · (intro ev W hb hR hO hD; have hS := hF W hR; obtain ⟨hb1, hb2, hb3⟩ := hb; simp only [Free.AllDeps, Free.AllOuts, Free.At, List.getElem?_cons_succ, List.getElem?_cons_zero, Array.getD_eq_getD_getElem?, List.getElem?_toArray, Option.getD_some, and_true] at hO hD; refine ⟨by simp [hD], ?_⟩; go_simp; exact ⟨belAlloc _ _, SlI.one _ _ _⟩)
  simp only [List.nil_append, List.cons_append]
  refine Free.Chain.prG (fun v _ => v = .bool false) [(8, 15), (11, 18), (6, 13), (6, 13)] [] 6 true 13 (by kernel_rfl) (by kernel_rfl) rfl (by kernel_rfl) (fun _ _ _ _ h => h) ?_ ?_
  · (intro ev W hb hR hO hD; have hS := hF W hR; obtain ⟨hb1, hb2, hb3⟩ := hb; simp only [Free.AllDeps, Free.AllOuts, Free.At, List.getElem?_cons_succ, List.getElem?_cons_zero, Array.getD_eq_getD_getElem?, List.getElem?_toArray, Option.getD_some, and_true] at hO hD; refine ⟨by simp [hD], ?_⟩; go_simp; refine yields_enter ?_; (with_reducible refine (in_sl 0 o [f] false _ _ (by simp [maxLen]) h2 hD.2.1).mono ?_); rintro e W2 ⟨rfl, hB2⟩; exact ⟨_, rfl, hB2, rfl⟩)
  simp only [List.nil_append, List.cons_append]
  refine Free.Chain.ex ?_ [(6, 13), (12, 19)] [] (by kernel_rfl) (by kernel_rfl) rfl Free.Bel.refl ?_ ?_
  rotate_left
  · (intro ev W hb hR hO hD; have hS := hF W hR; obtain ⟨hb1, hb2, hb3⟩ := hb; simp only [Free.AllDeps, Free.AllOuts, Free.At, List.getElem?_cons_succ, List.getElem?_cons_zero, Array.getD_eq_getD_getElem?, List.getElem?_toArray, Option.getD_some, and_true] at hO hD; go_simp; rfl)
  simp only [List.nil_append, List.cons_append]
  refine Free.Chain.pr (fun v _ => v = .int .i64 11) [(13, 20), (12, 19)] [] (by kernel_rfl) (by kernel_rfl) rfl (fun _ _ _ _ h => h) ?_ ?_
  · (intro ev W hb hR hO hD; have hS := hF W hR; obtain ⟨hb1, hb2, hb3⟩ := hb; simp only [Free.AllDeps, Free.AllOuts, Free.At, List.getElem?_cons_succ, List.getElem?_cons_zero, Array.getD_eq_getD_getElem?, List.getElem?_toArray, Option.getD_some, and_true] at hO hD; go_simp; refine yields_enter ?_; (with_reducible refine (unless_any _ _ 11 _ rfl).mono ?_); rintro e W2 ⟨rfl, rfl⟩; exact ⟨_, rfl, Free.Bel.refl _, rfl⟩)
  simp only [List.nil_append, List.cons_append]
  refine Free.Chain.pr (SlI [x, 11]) [(1, 8), (14, 21)] [] (by kernel_rfl) (by kernel_rfl) rfl (SlI.stable _) ?_ ?_
  · (intro ev W hb hR hO hD; have hS := hF W hR; obtain ⟨hb1, hb2, hb3⟩ := hb; simp only [Free.AllDeps, Free.AllOuts, Free.At, List.getElem?_cons_succ, List.getElem?_cons_zero, Array.getD_eq_getD_getElem?, List.getElem?_toArray, Option.getD_some, and_true] at hO hD; go_simp; exact ⟨belAlloc _ _, SlI.two _ _ _ _⟩)
  simp only [List.nil_append, List.cons_append]
  refine Free.Chain.pr (fun v _ => v = .int .i64 z) [(15, 22), (14, 21)] [] (by kernel_rfl) (by kernel_rfl) rfl (fun _ _ _ _ h => h) ?_ ?_
  · (intro ev W hb hR hO hD; have hS := hF W hR; obtain ⟨hb1, hb2, hb3⟩ := hb; simp only [Free.AllDeps, Free.AllOuts, Free.At, List.getElem?_cons_succ, List.getElem?_cons_zero, Array.getD_eq_getD_getElem?, List.getElem?_toArray, Option.getD_some, and_true] at hO hD; go_simp; refine yields_enter ?_; (with_reducible refine (first_sl [x, 11] z _ _ (by simp [maxLen]) hz.out hD.1).mono ?_); rintro e W2 ⟨rfl, rfl⟩; exact ⟨_, rfl, Free.Bel.refl _, rfl⟩)
  simp only [List.nil_append, List.cons_append]
  refine Free.Chain.ex ?_ [(16, 23), (16, 23), (0, 7), (1, 8), (2, 9), (3, 10), (4, 11), (5, 12), (6, 13), (7, 14), (8, 15), (9, 16), (10, 17), (11, 18), (12, 19), (13, 20), (14, 21), (15, 22), (16, 23)] [] (by kernel_rfl) (by kernel_rfl) rfl Free.Bel.refl ?_ ?_
  rotate_left
  · (intro ev W hb hR hO hD; have hS := hF W hR; obtain ⟨hb1, hb2, hb3⟩ := hb; simp only [Free.AllDeps, Free.AllOuts, Free.At, List.getElem?_cons_succ, List.getElem?_cons_zero, Array.getD_eq_getD_getElem?, List.getElem?_toArray, Option.getD_some, and_true] at hO hD; go_simp; rfl)
  simp only [List.nil_append, List.cons_append]
  intro xs w2 hR hV
  simp only [Free.AllV, Free.At, List.length_cons, List.length_nil, Nat.reduceAdd, List.getElem?_cons_succ, List.getElem?_cons_zero, true_and] at hV
  simp only [Free.putsFrom, Act.put, Nat.zero_add, Nat.reduceAdd, hV, List.setIfInBounds_toArray, List.set_cons_succ, List.set_cons_zero]
  have HK2 := hF w2 hR
  clear hR hV hF
  go_wp2_with fail
  go_ret2
  have hbb := HBB.out
  subst hbb
  exact ⟨rfl, HB0.out.trans (HK2.mono (by omega))⟩

set_option maxRecDepth 100000 in
set_option maxHeartbeats 4000000 in
theorem offA_c (ts : List (Int × Int)) (v : Value) (o f : Int) (w : World) (hv : PL ts v w) (h1 : inB 0 36 [o] = true) (h2 : inB 0 o [f] = true) (x z : Int) (hx : Hid (agreedE ts = x)) (hz : Hid (firstE [x, 0] = z)) (hz0 : (z != 0) = true) :
    Calls Try.prog 27 #[v, .agg #[.int .i64 o, .int .i64 f]] w fun e w' => e = .returned (.tuple #[.int .i64 0, .int .i64 z]) ∧ Below w.heap.size w w' := by
  have hB0 : Below w.heap.size w (w.alloc (.cells #[.int .i64 o, .int .i64 f] 27)) := (Below.refl _ w).alloc (Nat.le_refl _) _
  have c0_0 : (w.alloc (.cells #[.int .i64 o, .int .i64 f] 27)).cell? ⟨w.heap.size, 0, none⟩ = some (.int .i64 o) := by simp [go_sem]
  have c0_1 : (w.alloc (.cells #[.int .i64 o, .int .i64 f] 27)).cell? ⟨w.heap.size, 1, none⟩ = some (.int .i64 f) := by simp [go_sem]
  have HV0 := Lib.hid (fun (W : World) (hW : Free.Bel (w.alloc (.cells #[.int .i64 o, .int .i64 f] 27)) W) => (hv.keeps hB0).keeps hW)
  clear hv
  go_enter Try.func27, Try.ntmps27
  go_wp2_with fail
  have hq : w.heap.size + 1 = (w.alloc (.cells #[.int .i64 o, .int .i64 f] 27)).heap.size := by simp
  generalize (w.alloc (.cells #[.int .i64 o, .int .i64 f] 27)) = W0 at *
  generalize hbb : w.heap.size = bb at *
  have HBB := Lib.hid hbb
  clear hbb
  have HB0 := Lib.hid hB0
  have hq0 : bb + 1 ≤ W0.heap.size := by omega
  clear hB0 hq
  have FA : ∀ W, Free.Bel W0 W → W.cell? ⟨bb, 0, none⟩ = some (.int .i64 o) ∧ W.cell? ⟨bb, 1, none⟩ = some (.int .i64 f) ∧ bb + 1 ≤ W.heap.size := fun W hW => ⟨keepsB hW c0_0, keepsB hW c0_1, Nat.le_trans hq0 hW.size⟩
  clear c0_0 c0_1
  have hF : ∀ W, Free.Bel W0.drew W → Free.Bel W0 W := fun W hW => Free.Bel.trans _ _ _ (Bel.drewT (Free.Bel.refl _)) hW
  refine Free.wp_free (R := Free.Bel) (by kernel_rfl) (by kernel_rfl) Free.Bel.refl Free.Bel.trans ?_
  refine Free.Chain.ex ?_ [] [0] (by kernel_rfl) (by kernel_rfl) rfl Free.Bel.refl ?_ ?_
  rotate_left
  · (intro ev W hb hR hO hD; have hS := hF W hR; obtain ⟨hb1, hb2, hb3⟩ := hb; simp only [Free.AllDeps, Free.AllOuts, Free.At, List.getElem?_cons_succ, List.getElem?_cons_zero, Array.getD_eq_getD_getElem?, List.getElem?_toArray, Option.getD_some, and_true] at hO hD; go_simp; rfl)
  simp only [List.nil_append, List.cons_append]
  refine Free.Chain.pr (fun v _ => v = .int .i64 x) [(0, 7)] [] (by kernel_rfl) (by kernel_rfl) rfl (fun _ _ _ _ h => h) ?_ ?_
  · (intro ev W hb hR hO hD; have hS := hF W hR; obtain ⟨hb1, hb2, hb3⟩ := hb; simp only [Free.AllDeps, Free.AllOuts, Free.At, List.getElem?_cons_succ, List.getElem?_cons_zero, Array.getD_eq_getD_getElem?, List.getElem?_toArray, Option.getD_some, and_true] at hO hD; go_simp; refine yields_enter ?_; (with_reducible refine (agreed_v ts v _ (HV0.out _ hS) x hx).mono ?_); rintro e W2 ⟨rfl, hB2⟩; exact ⟨_, rfl, hB2, rfl⟩)
  simp only [List.nil_append, List.cons_append]
  refine Free.Chain.ex ?_ [] [3] (by kernel_rfl) (by kernel_rfl) rfl Free.Bel.refl ?_ ?_
  rotate_left
  · (intro ev W hb hR hO hD; have hS := hF W hR; obtain ⟨hb1, hb2, hb3⟩ := hb; simp only [Free.AllDeps, Free.AllOuts, Free.At, List.getElem?_cons_succ, List.getElem?_cons_zero, Array.getD_eq_getD_getElem?, List.getElem?_toArray, Option.getD_some, and_true] at hO hD; go_simp; rfl)
  simp only [List.nil_append, List.cons_append]
  refine Free.Chain.ex ?_ [(2, 9)] [] (by kernel_rfl) (by kernel_rfl) rfl Free.Bel.refl ?_ ?_
  rotate_left
  · (intro ev W hb hR hO hD; have hS := hF W hR; obtain ⟨hb1, hb2, hb3⟩ := hb; simp only [Free.AllDeps, Free.AllOuts, Free.At, List.getElem?_cons_succ, List.getElem?_cons_zero, Array.getD_eq_getD_getElem?, List.getElem?_toArray, Option.getD_some, and_true] at hO hD; go_simp; rfl)
  simp only [List.nil_append, List.cons_append]
  refine Free.Chain.pr (SlI [o]) [(3, 10)] [] (by kernel_rfl) (by kernel_rfl) rfl (SlI.stable _) ?_ ?_
  · (intro ev W hb hR hO hD; have hS := hF W hR; obtain ⟨hb1, hb2, hb3⟩ := hb; simp only [Free.AllDeps, Free.AllOuts, Free.At, List.getElem?_cons_succ, List.getElem?_cons_zero, Array.getD_eq_getD_getElem?, List.getElem?_toArray, Option.getD_some, and_true] at hO hD; go_simp; exact ⟨belAlloc _ _, SlI.one _ _ _⟩)
  simp only [List.nil_append, List.cons_append]
  refine Free.Chain.pr (fun v _ => v = .bool true) [(4, 11), (1, 8)] [] (by kernel_rfl) (by kernel_rfl) rfl (fun _ _ _ _ h => h) ?_ ?_
  · (intro ev W hb hR hO hD; have hS := hF W hR; obtain ⟨hb1, hb2, hb3⟩ := hb; simp only [Free.AllDeps, Free.AllOuts, Free.At, List.getElem?_cons_succ, List.getElem?_cons_zero, Array.getD_eq_getD_getElem?, List.getElem?_toArray, Option.getD_some, and_true] at hO hD; go_simp; refine yields_enter ?_; (with_reducible refine (in_sl 0 36 [o] true _ _ (by simp [maxLen]) h1 hD.1).mono ?_); rintro e W2 ⟨rfl, hB2⟩; exact ⟨_, rfl, hB2, rfl⟩)
  simp only [List.nil_append, List.cons_append]
  refine Free.Chain.ex ?_ [(5, 12), (5, 12)] [] (by kernel_rfl) (by kernel_rfl) rfl Free.Bel.refl ?_ ?_
  rotate_left
  · (intro ev W hb hR hO hD; have hS := hF W hR; obtain ⟨hb1, hb2, hb3⟩ := hb; simp only [Free.AllDeps, Free.AllOuts, Free.At, List.getElem?_cons_succ, List.getElem?_cons_zero, Array.getD_eq_getD_getElem?, List.getElem?_toArray, Option.getD_some, and_true] at hO hD; go_simp; rfl)
  simp only [List.nil_append, List.cons_append]
  refine Free.Chain.exG ?_ [(6, 13)] [3] 6 true 13 (by kernel_rfl) (by kernel_rfl) rfl (by kernel_rfl) Free.Bel.refl ?_ ?_
  rotate_left
  · (intro ev W hb hR hO hD; have hS := hF W hR; obtain ⟨hb1, hb2, hb3⟩ := hb; simp only [Free.AllDeps, Free.AllOuts, Free.At, List.getElem?_cons_succ, List.getElem?_cons_zero, Array.getD_eq_getD_getElem?, List.getElem?_toArray, Option.getD_some, and_true] at hO hD; refine ⟨by simp [hD], ?_⟩; go_simp; rfl)
  simp only [List.nil_append, List.cons_append]
  refine Free.Chain.exG ?_ [(7, 14), (6, 13)] [] 6 true 13 (by kernel_rfl) (by kernel_rfl) rfl (by kernel_rfl) Free.Bel.refl ?_ ?_
  rotate_left
  · (intro ev W hb hR hO hD; have hS := hF W hR; obtain ⟨hb1, hb2, hb3⟩ := hb; simp only [Free.AllDeps, Free.AllOuts, Free.At, List.getElem?_cons_succ, List.getElem?_cons_zero, Array.getD_eq_getD_getElem?, List.getElem?_toArray, Option.getD_some, and_true] at hO hD; refine ⟨by simp [hD], ?_⟩; go_simp; rfl)
  simp only [List.nil_append, List.cons_append]
  refine Free.Chain.exG ?_ [(6, 13)] [3] 6 true 13 (by kernel_rfl) (by kernel_rfl) rfl (by kernel_rfl) Free.Bel.refl ?_ ?_
  rotate_left
  · (intro ev W hb hR hO hD; have hS := hF W hR; obtain ⟨hb1, hb2, hb3⟩ := hb; simp only [Free.AllDeps, Free.AllOuts, Free.At, List.getElem?_cons_succ, List.getElem?_cons_zero, Array.getD_eq_getD_getElem?, List.getElem?_toArray, Option.getD_some, and_true] at hO hD; refine ⟨by simp [hD], ?_⟩; go_simp; rfl)
  simp only [List.nil_append, List.cons_append]
  refine Free.Chain.exG ?_ [(9, 16), (6, 13)] [] 6 true 13 (by kernel_rfl) (by kernel_rfl) rfl (by kernel_rfl) Free.Bel.refl ?_ ?_
  rotate_left
  · (intro ev W hb hR hO hD; have hS := hF W hR; obtain ⟨hb1, hb2, hb3⟩ := hb; simp only [Free.AllDeps, Free.AllOuts, Free.At, List.getElem?_cons_succ, List.getElem?_cons_zero, Array.getD_eq_getD_getElem?, List.getElem?_toArray, Option.getD_some, and_true] at hO hD; refine ⟨by simp [hD], ?_⟩; go_simp; rfl)
  simp only [List.nil_append, List.cons_append]
  refine Free.Chain.prG (SlI [f]) [(10, 17), (6, 13)] [] 6 true 13 (by kernel_rfl) (by kernel_rfl) rfl (by kernel_rfl) (SlI.stable _) ?_ ?_
  · (intro ev W hb hR hO hD; have hS := hF W hR; obtain ⟨hb1, hb2, hb3⟩ := hb; simp only [Free.AllDeps, Free.AllOuts, Free.At, List.getElem?_cons_succ, List.getElem?_cons_zero, Array.getD_eq_getD_getElem?, List.getElem?_toArray, Option.getD_some, and_true] at hO hD; refine ⟨by simp [hD], ?_⟩; go_simp; exact ⟨belAlloc _ _, SlI.one _ _ _⟩)
  simp only [List.nil_append, List.cons_append]
  refine Free.Chain.prG (fun v _ => v = .bool true) [(8, 15), (11, 18), (6, 13), (6, 13)] [] 6 true 13 (by kernel_rfl) (by kernel_rfl) rfl (by kernel_rfl) (fun _ _ _ _ h => h) ?_ ?_
  · (intro ev W hb hR hO hD; have hS := hF W hR; obtain ⟨hb1, hb2, hb3⟩ := hb; simp only [Free.AllDeps, Free.AllOuts, Free.At, List.getElem?_cons_succ, List.getElem?_cons_zero, Array.getD_eq_getD_getElem?, List.getElem?_toArray, Option.getD_some, and_true] at hO hD; refine ⟨by simp [hD], ?_⟩; go_simp; refine yields_enter ?_; (with_reducible refine (in_sl 0 o [f] true _ _ (by simp [maxLen]) h2 hD.2.1).mono ?_); rintro e W2 ⟨rfl, hB2⟩; exact ⟨_, rfl, hB2, rfl⟩)
  simp only [List.nil_append, List.cons_append]
  refine Free.Chain.ex ?_ [(6, 13), (12, 19)] [] (by kernel_rfl) (by kernel_rfl) rfl Free.Bel.refl ?_ ?_
  rotate_left
  · (intro ev W hb hR hO hD; have hS := hF W hR; obtain ⟨hb1, hb2, hb3⟩ := hb; simp only [Free.AllDeps, Free.AllOuts, Free.At, List.getElem?_cons_succ, List.getElem?_cons_zero, Array.getD_eq_getD_getElem?, List.getElem?_toArray, Option.getD_some, and_true] at hO hD; go_simp; rfl)
  simp only [List.nil_append, List.cons_append]
  refine Free.Chain.pr (fun v _ => v = .int .i64 0) [(13, 20), (12, 19)] [] (by kernel_rfl) (by kernel_rfl) rfl (fun _ _ _ _ h => h) ?_ ?_
  · (intro ev W hb hR hO hD; have hS := hF W hR; obtain ⟨hb1, hb2, hb3⟩ := hb; simp only [Free.AllDeps, Free.AllOuts, Free.At, List.getElem?_cons_succ, List.getElem?_cons_zero, Array.getD_eq_getD_getElem?, List.getElem?_toArray, Option.getD_some, and_true] at hO hD; go_simp; refine yields_enter ?_; (with_reducible refine (unless_any _ _ 0 _ rfl).mono ?_); rintro e W2 ⟨rfl, rfl⟩; exact ⟨_, rfl, Free.Bel.refl _, rfl⟩)
  simp only [List.nil_append, List.cons_append]
  refine Free.Chain.pr (SlI [x, 0]) [(1, 8), (14, 21)] [] (by kernel_rfl) (by kernel_rfl) rfl (SlI.stable _) ?_ ?_
  · (intro ev W hb hR hO hD; have hS := hF W hR; obtain ⟨hb1, hb2, hb3⟩ := hb; simp only [Free.AllDeps, Free.AllOuts, Free.At, List.getElem?_cons_succ, List.getElem?_cons_zero, Array.getD_eq_getD_getElem?, List.getElem?_toArray, Option.getD_some, and_true] at hO hD; go_simp; exact ⟨belAlloc _ _, SlI.two _ _ _ _⟩)
  simp only [List.nil_append, List.cons_append]
  refine Free.Chain.pr (fun v _ => v = .int .i64 z) [(15, 22), (14, 21)] [] (by kernel_rfl) (by kernel_rfl) rfl (fun _ _ _ _ h => h) ?_ ?_
  · (intro ev W hb hR hO hD; have hS := hF W hR; obtain ⟨hb1, hb2, hb3⟩ := hb; simp only [Free.AllDeps, Free.AllOuts, Free.At, List.getElem?_cons_succ, List.getElem?_cons_zero, Array.getD_eq_getD_getElem?, List.getElem?_toArray, Option.getD_some, and_true] at hO hD; go_simp; refine yields_enter ?_; (with_reducible refine (first_sl [x, 0] z _ _ (by simp [maxLen]) hz.out hD.1).mono ?_); rintro e W2 ⟨rfl, rfl⟩; exact ⟨_, rfl, Free.Bel.refl _, rfl⟩)
  simp only [List.nil_append, List.cons_append]
  refine Free.Chain.ex ?_ [(16, 23), (16, 23), (0, 7), (1, 8), (2, 9), (3, 10), (4, 11), (5, 12), (6, 13), (7, 14), (8, 15), (9, 16), (10, 17), (11, 18), (12, 19), (13, 20), (14, 21), (15, 22), (16, 23)] [] (by kernel_rfl) (by kernel_rfl) rfl Free.Bel.refl ?_ ?_
  rotate_left
  · (intro ev W hb hR hO hD; have hS := hF W hR; obtain ⟨hb1, hb2, hb3⟩ := hb; simp only [Free.AllDeps, Free.AllOuts, Free.At, List.getElem?_cons_succ, List.getElem?_cons_zero, Array.getD_eq_getD_getElem?, List.getElem?_toArray, Option.getD_some, and_true] at hO hD; go_simp; rfl)
  simp only [List.nil_append, List.cons_append]
  intro xs w2 hR hV
  simp only [Free.AllV, Free.At, List.length_cons, List.length_nil, Nat.reduceAdd, List.getElem?_cons_succ, List.getElem?_cons_zero, true_and] at hV
  simp only [Free.putsFrom, Act.put, Nat.zero_add, Nat.reduceAdd, hV, List.setIfInBounds_toArray, List.set_cons_succ, List.set_cons_zero]
  have HK2 := hF w2 hR
  clear hR hV hF
  go_wp2_with fail
  go_ret2
  have hbb := HBB.out
  subst hbb
  exact ⟨rfl, HB0.out.trans (HK2.mono (by omega))⟩

set_option maxRecDepth 100000 in
set_option maxHeartbeats 4000000 in
theorem offA_d (ts : List (Int × Int)) (v : Value) (o f : Int) (w : World) (hv : PL ts v w) (h1 : inB 0 36 [o] = true) (h2 : inB 0 o [f] = true) (x : Int) (hx : Hid (agreedE ts = x)) (hz : Hid (firstE [x, 0] = 0)) (hts : Hid (∀ t ∈ ts, 0 ≤ t.1 ∧ t.1 ≤ 100)) :
    Calls Try.prog 27 #[v, .agg #[.int .i64 o, .int .i64 f]] w fun e w' => e = .returned (.tuple #[.int .i64 (offV ts o f), .int .i64 0]) ∧ Below w.heap.size w w' := by
  have q1 : 0 ≤ o ∧ o ≤ 36 := by simpa [inB] using h1
  have q2 : 0 ≤ f ∧ f ≤ o := by simpa [inB] using h2
  have hB0 : Below w.heap.size w (w.alloc (.cells #[.int .i64 o, .int .i64 f] 27)) := (Below.refl _ w).alloc (Nat.le_refl _) _
  have c0_0 : (w.alloc (.cells #[.int .i64 o, .int .i64 f] 27)).cell? ⟨w.heap.size, 0, none⟩ = some (.int .i64 o) := by simp [go_sem]
  have c0_1 : (w.alloc (.cells #[.int .i64 o, .int .i64 f] 27)).cell? ⟨w.heap.size, 1, none⟩ = some (.int .i64 f) := by simp [go_sem]
  have HV0 := Lib.hid (fun (W : World) (hW : Free.Bel (w.alloc (.cells #[.int .i64 o, .int .i64 f] 27)) W) => (hv.keeps hB0).keeps hW)
  clear hv
  go_enter Try.func27, Try.ntmps27
  go_wp2_with fail
  have hq : w.heap.size + 1 = (w.alloc (.cells #[.int .i64 o, .int .i64 f] 27)).heap.size := by simp
  generalize (w.alloc (.cells #[.int .i64 o, .int .i64 f] 27)) = W0 at *
  generalize hbb : w.heap.size = bb at *
  have HBB := Lib.hid hbb
  clear hbb
  have HB0 := Lib.hid hB0
  have hq0 : bb + 1 ≤ W0.heap.size := by omega
  clear hB0 hq
  have FA : ∀ W, Free.Bel W0 W → W.cell? ⟨bb, 0, none⟩ = some (.int .i64 o) ∧ W.cell? ⟨bb, 1, none⟩ = some (.int .i64 f) ∧ bb + 1 ≤ W.heap.size := fun W hW => ⟨keepsB hW c0_0, keepsB hW c0_1, Nat.le_trans hq0 hW.size⟩
  clear c0_0 c0_1
  have hF : ∀ W, Free.Bel W0.drew W → Free.Bel W0 W := fun W hW => Free.Bel.trans _ _ _ (Bel.drewT (Free.Bel.refl _)) hW
  refine Free.wp_free (R := Free.Bel) (by kernel_rfl) (by kernel_rfl) Free.Bel.refl Free.Bel.trans ?_
  refine Free.Chain.ex ?_ [] [0] (by kernel_rfl) (by kernel_rfl) rfl Free.Bel.refl ?_ ?_
  rotate_left
  · (intro ev W hb hR hO hD; have hS := hF W hR; obtain ⟨hb1, hb2, hb3⟩ := hb; simp only [Free.AllDeps, Free.AllOuts, Free.At, List.getElem?_cons_succ, List.getElem?_cons_zero, Array.getD_eq_getD_getElem?, List.getElem?_toArray, Option.getD_some, and_true] at hO hD; go_simp; rfl)
  simp only [List.nil_append, List.cons_append]
  refine Free.Chain.pr (fun v _ => v = .int .i64 x) [(0, 7)] [] (by kernel_rfl) (by kernel_rfl) rfl (fun _ _ _ _ h => h) ?_ ?_
  · (intro ev W hb hR hO hD; have hS := hF W hR; obtain ⟨hb1, hb2, hb3⟩ := hb; simp only [Free.AllDeps, Free.AllOuts, Free.At, List.getElem?_cons_succ, List.getElem?_cons_zero, Array.getD_eq_getD_getElem?, List.getElem?_toArray, Option.getD_some, and_true] at hO hD; go_simp; refine yields_enter ?_; (with_reducible refine (agreed_v ts v _ (HV0.out _ hS) x hx).mono ?_); rintro e W2 ⟨rfl, hB2⟩; exact ⟨_, rfl, hB2, rfl⟩)
  simp only [List.nil_append, List.cons_append]
  refine Free.Chain.ex ?_ [] [3] (by kernel_rfl) (by kernel_rfl) rfl Free.Bel.refl ?_ ?_
  rotate_left
  · (intro ev W hb hR hO hD; have hS := hF W hR; obtain ⟨hb1, hb2, hb3⟩ := hb; simp only [Free.AllDeps, Free.AllOuts, Free.At, List.getElem?_cons_succ, List.getElem?_cons_zero, Array.getD_eq_getD_getElem?, List.getElem?_toArray, Option.getD_some, and_true] at hO hD; go_simp; rfl)
  simp only [List.nil_append, List.cons_append]
  refine Free.Chain.ex ?_ [(2, 9)] [] (by kernel_rfl) (by kernel_rfl) rfl Free.Bel.refl ?_ ?_
  rotate_left
  · (intro ev W hb hR hO hD; have hS := hF W hR; obtain ⟨hb1, hb2, hb3⟩ := hb; simp only [Free.AllDeps, Free.AllOuts, Free.At, List.getElem?_cons_succ, List.getElem?_cons_zero, Array.getD_eq_getD_getElem?, List.getElem?_toArray, Option.getD_some, and_true] at hO hD; go_simp; rfl)
  simp only [List.nil_append, List.cons_append]
  refine Free.Chain.pr (SlI [o]) [(3, 10)] [] (by kernel_rfl) (by kernel_rfl) rfl (SlI.stable _) ?_ ?_
  · (intro ev W hb hR hO hD; have hS := hF W hR; obtain ⟨hb1, hb2, hb3⟩ := hb; simp only [Free.AllDeps, Free.AllOuts, Free.At, List.getElem?_cons_succ, List.getElem?_cons_zero, Array.getD_eq_getD_getElem?, List.getElem?_toArray, Option.getD_some, and_true] at hO hD; go_simp; exact ⟨belAlloc _ _, SlI.one _ _ _⟩)
  simp only [List.nil_append, List.cons_append]
  refine Free.Chain.pr (fun v _ => v = .bool true) [(4, 11), (1, 8)] [] (by kernel_rfl) (by kernel_rfl) rfl (fun _ _ _ _ h => h) ?_ ?_
  · (intro ev W hb hR hO hD; have hS := hF W hR; obtain ⟨hb1, hb2, hb3⟩ := hb; simp only [Free.AllDeps, Free.AllOuts, Free.At, List.getElem?_cons_succ, List.getElem?_cons_zero, Array.getD_eq_getD_getElem?, List.getElem?_toArray, Option.getD_some, and_true] at hO hD; go_simp; refine yields_enter ?_; (with_reducible refine (in_sl 0 36 [o] true _ _ (by simp [maxLen]) h1 hD.1).mono ?_); rintro e W2 ⟨rfl, hB2⟩; exact ⟨_, rfl, hB2, rfl⟩)
  simp only [List.nil_append, List.cons_append]
  refine Free.Chain.ex ?_ [(5, 12), (5, 12)] [] (by kernel_rfl) (by kernel_rfl) rfl Free.Bel.refl ?_ ?_
  rotate_left
  · (intro ev W hb hR hO hD; have hS := hF W hR; obtain ⟨hb1, hb2, hb3⟩ := hb; simp only [Free.AllDeps, Free.AllOuts, Free.At, List.getElem?_cons_succ, List.getElem?_cons_zero, Array.getD_eq_getD_getElem?, List.getElem?_toArray, Option.getD_some, and_true] at hO hD; go_simp; rfl)
  simp only [List.nil_append, List.cons_append]
  refine Free.Chain.exG ?_ [(6, 13)] [3] 6 true 13 (by kernel_rfl) (by kernel_rfl) rfl (by kernel_rfl) Free.Bel.refl ?_ ?_
  rotate_left
  · (intro ev W hb hR hO hD; have hS := hF W hR; obtain ⟨hb1, hb2, hb3⟩ := hb; simp only [Free.AllDeps, Free.AllOuts, Free.At, List.getElem?_cons_succ, List.getElem?_cons_zero, Array.getD_eq_getD_getElem?, List.getElem?_toArray, Option.getD_some, and_true] at hO hD; refine ⟨by simp [hD], ?_⟩; go_simp; rfl)
  simp only [List.nil_append, List.cons_append]
  refine Free.Chain.exG ?_ [(7, 14), (6, 13)] [] 6 true 13 (by kernel_rfl) (by kernel_rfl) rfl (by kernel_rfl) Free.Bel.refl ?_ ?_
  rotate_left
  · (intro ev W hb hR hO hD; have hS := hF W hR; obtain ⟨hb1, hb2, hb3⟩ := hb; simp only [Free.AllDeps, Free.AllOuts, Free.At, List.getElem?_cons_succ, List.getElem?_cons_zero, Array.getD_eq_getD_getElem?, List.getElem?_toArray, Option.getD_some, and_true] at hO hD; refine ⟨by simp [hD], ?_⟩; go_simp; rfl)
  simp only [List.nil_append, List.cons_append]
  refine Free.Chain.exG ?_ [(6, 13)] [3] 6 true 13 (by kernel_rfl) (by kernel_rfl) rfl (by kernel_rfl) Free.Bel.refl ?_ ?_
  rotate_left
  · (intro ev W hb hR hO hD; have hS := hF W hR; obtain ⟨hb1, hb2, hb3⟩ := hb; simp only [Free.AllDeps, Free.AllOuts, Free.At, List.getElem?_cons_succ, List.getElem?_cons_zero, Array.getD_eq_getD_getElem?, List.getElem?_toArray, Option.getD_some, and_true] at hO hD; refine ⟨by simp [hD], ?_⟩; go_simp; rfl)
  simp only [List.nil_append, List.cons_append]
  refine Free.Chain.exG ?_ [(9, 16), (6, 13)] [] 6 true 13 (by kernel_rfl) (by kernel_rfl) rfl (by kernel_rfl) Free.Bel.refl ?_ ?_
  rotate_left
  · (intro ev W hb hR hO hD; have hS := hF W hR; obtain ⟨hb1, hb2, hb3⟩ := hb; simp only [Free.AllDeps, Free.AllOuts, Free.At, List.getElem?_cons_succ, List.getElem?_cons_zero, Array.getD_eq_getD_getElem?, List.getElem?_toArray, Option.getD_some, and_true] at hO hD; refine ⟨by simp [hD], ?_⟩; go_simp; rfl)
  simp only [List.nil_append, List.cons_append]
  refine Free.Chain.prG (SlI [f]) [(10, 17), (6, 13)] [] 6 true 13 (by kernel_rfl) (by kernel_rfl) rfl (by kernel_rfl) (SlI.stable _) ?_ ?_
  · (intro ev W hb hR hO hD; have hS := hF W hR; obtain ⟨hb1, hb2, hb3⟩ := hb; simp only [Free.AllDeps, Free.AllOuts, Free.At, List.getElem?_cons_succ, List.getElem?_cons_zero, Array.getD_eq_getD_getElem?, List.getElem?_toArray, Option.getD_some, and_true] at hO hD; refine ⟨by simp [hD], ?_⟩; go_simp; exact ⟨belAlloc _ _, SlI.one _ _ _⟩)
  simp only [List.nil_append, List.cons_append]
  refine Free.Chain.prG (fun v _ => v = .bool true) [(8, 15), (11, 18), (6, 13), (6, 13)] [] 6 true 13 (by kernel_rfl) (by kernel_rfl) rfl (by kernel_rfl) (fun _ _ _ _ h => h) ?_ ?_
  · (intro ev W hb hR hO hD; have hS := hF W hR; obtain ⟨hb1, hb2, hb3⟩ := hb; simp only [Free.AllDeps, Free.AllOuts, Free.At, List.getElem?_cons_succ, List.getElem?_cons_zero, Array.getD_eq_getD_getElem?, List.getElem?_toArray, Option.getD_some, and_true] at hO hD; refine ⟨by simp [hD], ?_⟩; go_simp; refine yields_enter ?_; (with_reducible refine (in_sl 0 o [f] true _ _ (by simp [maxLen]) h2 hD.2.1).mono ?_); rintro e W2 ⟨rfl, hB2⟩; exact ⟨_, rfl, hB2, rfl⟩)
  simp only [List.nil_append, List.cons_append]
  refine Free.Chain.ex ?_ [(6, 13), (12, 19)] [] (by kernel_rfl) (by kernel_rfl) rfl Free.Bel.refl ?_ ?_
  rotate_left
  · (intro ev W hb hR hO hD; have hS := hF W hR; obtain ⟨hb1, hb2, hb3⟩ := hb; simp only [Free.AllDeps, Free.AllOuts, Free.At, List.getElem?_cons_succ, List.getElem?_cons_zero, Array.getD_eq_getD_getElem?, List.getElem?_toArray, Option.getD_some, and_true] at hO hD; go_simp; rfl)
  simp only [List.nil_append, List.cons_append]
  refine Free.Chain.pr (fun v _ => v = .int .i64 0) [(13, 20), (12, 19)] [] (by kernel_rfl) (by kernel_rfl) rfl (fun _ _ _ _ h => h) ?_ ?_
  · (intro ev W hb hR hO hD; have hS := hF W hR; obtain ⟨hb1, hb2, hb3⟩ := hb; simp only [Free.AllDeps, Free.AllOuts, Free.At, List.getElem?_cons_succ, List.getElem?_cons_zero, Array.getD_eq_getD_getElem?, List.getElem?_toArray, Option.getD_some, and_true] at hO hD; go_simp; refine yields_enter ?_; (with_reducible refine (unless_any _ _ 0 _ rfl).mono ?_); rintro e W2 ⟨rfl, rfl⟩; exact ⟨_, rfl, Free.Bel.refl _, rfl⟩)
  simp only [List.nil_append, List.cons_append]
  refine Free.Chain.pr (SlI [x, 0]) [(1, 8), (14, 21)] [] (by kernel_rfl) (by kernel_rfl) rfl (SlI.stable _) ?_ ?_
  · (intro ev W hb hR hO hD; have hS := hF W hR; obtain ⟨hb1, hb2, hb3⟩ := hb; simp only [Free.AllDeps, Free.AllOuts, Free.At, List.getElem?_cons_succ, List.getElem?_cons_zero, Array.getD_eq_getD_getElem?, List.getElem?_toArray, Option.getD_some, and_true] at hO hD; go_simp; exact ⟨belAlloc _ _, SlI.two _ _ _ _⟩)
  simp only [List.nil_append, List.cons_append]
  refine Free.Chain.pr (fun v _ => v = .int .i64 0) [(15, 22), (14, 21)] [] (by kernel_rfl) (by kernel_rfl) rfl (fun _ _ _ _ h => h) ?_ ?_
  · (intro ev W hb hR hO hD; have hS := hF W hR; obtain ⟨hb1, hb2, hb3⟩ := hb; simp only [Free.AllDeps, Free.AllOuts, Free.At, List.getElem?_cons_succ, List.getElem?_cons_zero, Array.getD_eq_getD_getElem?, List.getElem?_toArray, Option.getD_some, and_true] at hO hD; go_simp; refine yields_enter ?_; (with_reducible refine (first_sl [x, 0] 0 _ _ (by simp [maxLen]) hz.out hD.1).mono ?_); rintro e W2 ⟨rfl, rfl⟩; exact ⟨_, rfl, Free.Bel.refl _, rfl⟩)
  simp only [List.nil_append, List.cons_append]
  refine Free.Chain.ex ?_ [(16, 23), (16, 23), (0, 7), (1, 8), (2, 9), (3, 10), (4, 11), (5, 12), (6, 13), (7, 14), (8, 15), (9, 16), (10, 17), (11, 18), (12, 19), (13, 20), (14, 21), (15, 22), (16, 23)] [] (by kernel_rfl) (by kernel_rfl) rfl Free.Bel.refl ?_ ?_
  rotate_left
  · (intro ev W hb hR hO hD; have hS := hF W hR; obtain ⟨hb1, hb2, hb3⟩ := hb; simp only [Free.AllDeps, Free.AllOuts, Free.At, List.getElem?_cons_succ, List.getElem?_cons_zero, Array.getD_eq_getD_getElem?, List.getElem?_toArray, Option.getD_some, and_true] at hO hD; go_simp; rfl)
  simp only [List.nil_append, List.cons_append]
  intro xs w2 hR hV
  simp only [Free.AllV, Free.At, List.length_cons, List.length_nil, Nat.reduceAdd, List.getElem?_cons_succ, List.getElem?_cons_zero, true_and] at hV
  simp only [Free.putsFrom, Act.put, Nat.zero_add, Nat.reduceAdd, hV, List.setIfInBounds_toArray, List.set_cons_succ, List.set_cons_zero]
  have HK2 := hF w2 hR
  have hv2 := HV0.out w2 HK2
  clear hR hV hF
  go_wp2_with fail
  refine (off_any ts v o f _ hv2 hts.out q1 ⟨q2.1, by omega⟩).mono ?_
  rintro e w3 ⟨rfl, hB3⟩
  have K_w3 : Free.Bel W0 w3 := by
    refine Free.Bel.trans _ _ _ ?_ hB3
    repeat (first | exact HK2 | exact Free.Bel.refl _ | refine Bel.allocT ?_ _ | refine Bel.drewT ?_)
  clear hB3
  go_wp2_with fail
  go_ret2
  have hbb := HBB.out
  subst hbb
  exact ⟨rfl, HB0.out.trans (K_w3.mono (by omega))⟩
theorem offA_any (xs : List (Int × Int)) (v : Value) (o f : Int) (w : World) (hv : PL xs v w) :
    Calls Try.prog 27 #[v, .agg #[.int .i64 o, .int .i64 f]] w fun e w' => e = .returned (offAll xs o f) ∧ Below w.heap.size w w' := by
  by_cases hz : offE xs o f = 0
  · have h0 := offE_zero hz
    have hd := h0.2
    simp only [drawB, Bool.and_eq_true] at hd
    rw [offAll, if_neg (by simp [hz])]
    exact offA_d xs v o f w hv hd.1 hd.2 _ rfl (by show _ = _; simp [h0.1, firstE]) (agreedE_mem h0.1)
  · rw [offAll, if_pos hz]
    cases h1 : inB 0 36 [o]
    · have e : offE xs o f = firstE [agreedE xs, 11] := by simp [offE, drawB, h1, unlessV]
      rw [e] at hz ⊢
      exact offA_a xs v o f w hv h1 _ _ rfl rfl (by simpa using hz)
    · cases h2 : inB 0 o [f]
      · have e : offE xs o f = firstE [agreedE xs, 11] := by simp [offE, drawB, h1, h2, unlessV]
        rw [e] at hz ⊢
        exact offA_b xs v o f w hv h1 h2 _ _ rfl rfl (by simpa using hz)
      · have e : offE xs o f = firstE [agreedE xs, 0] := by simp [offE, drawB, h1, h2, unlessV]
        rw [e] at hz ⊢
        exact offA_c xs v o f w hv h1 h2 _ _ rfl rfl (by simpa using hz)
end Go.Proofs.Ytfdbegohjlijoaa

/- Short names for long ones. -/
namespace Go.Proofs.Ytfdbegohjlijoaa
theorem bt {a b c : World} (h : Free.Bel a b) (k : Free.Bel b c) : Free.Bel a c := Free.Bel.trans _ _ _ h k
theorem al1.{u} {α : Type u} {l : List α} {a : α} {i : Nat} : (a :: l)[i + 1]? = l[i]? := rfl
theorem al2.{u} {α : Type u} {l : List α} {a : α} : (a :: l)[0]? = some a := rfl
theorem al3.{u} {α : Type u} {xs : Array α} {i : Nat} {d : α} : xs.getD i d = xs[i]?.getD d := by simp
theorem al4.{u} {α : Type u} {l : List α} {i : Nat} : l.toArray[i]? = l[i]? := by simp
theorem al5.{u} {α : Type u} {a b : α} : (some a).getD b = a := rfl
theorem an1.{u} {α : Type u} (l : List α) : [] ++ l = l := rfl
theorem an2.{u} {α : Type u} {a : α} {l m : List α} : (a :: l) ++ m = a :: (l ++ m) := rfl
end Go.Proofs.Ytfdbegohjlijoaa

/- What is taken off in the middle: Fair. -/
namespace Go.Proofs.Ytfdbegohjlijoaa
set_option linter.unusedSimpArgs false
set_option linter.unusedVariables false
open Go.RowKit Go.Proofs.Ytfdbegohjlijoaa.ML Go.Proofs.Ytfdbegohjlijoaa.Samp

/-- The error of what is asked. -/
def fairE (N lo hi D o : Int) (xs : List (Int × Int)) : Int := firstE [unlessV (inB lo hi [D]) 2, agreedE xs, unlessV (inB 0 N [o]) 2]
def fairAll (N lo hi D o : Int) (xs : List (Int × Int)) : Value :=
  .tuple (if cargoB N lo hi = false then #[zeroPart, .int .i64 10] else if fairE N lo hi D o xs ≠ 0 then #[zeroPart, .int .i64 (fairE N lo hi D o xs)] else #[partV (midI N D o (fun k => offV xs o k) (o + 1).toNat).toNat (chI N o).toNat, .int .i64 0])
theorem offR_cons (o k : Int) (x : Int × Int × Int) (l : List (Int × Int × Int)) : offR o k (x :: l) = if offB o k x.2 = true then x.2.2 else offR o k l := by
  unfold offR
  rw [List.find?_cons]
  cases offB o k x.2 <;> simp
theorem offV_bound (xs : List (Int × Int)) (o f : Int) (h : ∀ t ∈ xs, 0 ≤ t.2 ∧ t.2 ≤ 1000000) : 0 ≤ offV xs o f ∧ offV xs o f ≤ 1000000 := by
  have key : ∀ l : List (Int × Int × Int), (∀ x ∈ l, 0 ≤ x.2.2 ∧ x.2.2 ≤ 1000000) → 0 ≤ offR o f l ∧ offR o f l ≤ 1000000 := by
    intro l
    induction l with
    | nil => intro _; simp [offR]
    | cons x l ih =>
      intro hl
      rw [offR_cons]
      split
      · exact hl x (by simp)
      · exact ih fun y hy => hl y (by simp [hy])
  exact key _ fun x hx => h _ (revT_mem xs _ (Nat.le_refl _) x hx)
theorem agreedFrom_pence : ∀ (xs : List (Int × Int)) (a b : Int), 0 ≤ b → agreedFrom a b xs = true → ∀ t ∈ xs, 0 ≤ t.2 ∧ t.2 ≤ 1000000
  | [], _, _, _, _, t, ht => by cases ht
  | x :: r, a, b, hb, h, t, ht => by
    simp [agreedFrom, inB] at h
    rcases List.mem_cons.1 ht with rfl | ht
    · omega
    · exact agreedFrom_pence r x.1 x.2 (by omega) h.2.2 t ht
theorem agreedE_pence {xs : List (Int × Int)} (h : agreedE xs = 0) : ∀ t ∈ xs, 0 ≤ t.2 ∧ t.2 ≤ 1000000 := by
  unfold agreedE at h
  split at h
  · cases h
  · rename_i h1
    exact agreedFrom_pence xs 0 0 (by omega) (by simpa using h1)

set_option maxRecDepth 100000 in
set_option maxHeartbeats 1000000 in
theorem fair1_any (xs : List (Int × Int)) (v : Value) (o k : Int) (b1 b2 : Nat) (w : World) (hv : PL xs v w) (h1 : w.cell? ⟨b1, 0, none⟩ = some v) (h2 : w.cell? ⟨b2, 0, none⟩ = some (.int .i64 o)) (hxs : ∀ t ∈ xs, 0 ≤ t.1 ∧ t.1 ≤ 100) (ho : 0 ≤ o ∧ o ≤ 36) (hk : 0 ≤ k ∧ k ≤ 36) :
    Calls Try.prog 70 #[.int .i64 k, .pointer (some ⟨b1, 0, none⟩), .pointer (some ⟨b2, 0, none⟩)] w fun e w' => e = .returned (.int .i64 (offV xs o k)) ∧ Below w.heap.size w w' := by
  have h0 := Lib.hid (off_any xs v o k w hv hxs ho hk)
  obtain ⟨pp, cap, rfl, hm, hcells⟩ := hv
  clear hcells
  go_enter Try.func70, Try.ntmps70
  go_wp2_with fail
  refine h0.out.mono ?_
  rintro e w1 ⟨rfl, hB⟩
  go_wp2_with fail
  go_ret
  exact ⟨rfl, hB⟩

set_option maxRecDepth 100000 in
set_option maxHeartbeats 4000000 in
theorem fair_a (N lo hi D o : Int) (ts : List (Int × Int)) (pp : Option Addr) (cap : Nat) (w : World) (hv : PL ts (.slice pp ts.length cap) w) (hc : cargoB N lo hi = false) :
    Calls Try.prog 29 #[.agg #[.int .i64 N, .int .i64 lo, .int .i64 hi], .int .i64 D, .int .i64 o, .slice pp ts.length cap] w fun e w' => e = .returned (.tuple #[.agg #[.int .i64 0, .int .i64 0], .int .i64 10]) ∧ Below w.heap.size w w' := by
  have HV := Lib.hid hv
  clear hv
  have hB0 : Below w.heap.size w ((((w.alloc (.cells #[.int .i64 N, .int .i64 lo, .int .i64 hi] 25)).alloc (.cells #[.int .i64 o] 3)).alloc (.cells #[(.slice pp ts.length cap)] 63)).alloc (.cells #[.int .i64 0, .int .i64 0] 34)) := ((((Below.refl _ w).alloc (Nat.le_refl _) _).alloc (by simp) _).alloc (by simp; omega) _).alloc (by simp; omega) _
  have c0_0 : ((((w.alloc (.cells #[.int .i64 N, .int .i64 lo, .int .i64 hi] 25)).alloc (.cells #[.int .i64 o] 3)).alloc (.cells #[(.slice pp ts.length cap)] 63)).alloc (.cells #[.int .i64 0, .int .i64 0] 34)).cell? ⟨w.heap.size, 0, none⟩ = some (.int .i64 N) := by simp [go_sem]
  have c0_1 : ((((w.alloc (.cells #[.int .i64 N, .int .i64 lo, .int .i64 hi] 25)).alloc (.cells #[.int .i64 o] 3)).alloc (.cells #[(.slice pp ts.length cap)] 63)).alloc (.cells #[.int .i64 0, .int .i64 0] 34)).cell? ⟨w.heap.size, 1, none⟩ = some (.int .i64 lo) := by simp [go_sem]
  have c0_2 : ((((w.alloc (.cells #[.int .i64 N, .int .i64 lo, .int .i64 hi] 25)).alloc (.cells #[.int .i64 o] 3)).alloc (.cells #[(.slice pp ts.length cap)] 63)).alloc (.cells #[.int .i64 0, .int .i64 0] 34)).cell? ⟨w.heap.size, 2, none⟩ = some (.int .i64 hi) := by simp [go_sem]
  have c1_0 : ((((w.alloc (.cells #[.int .i64 N, .int .i64 lo, .int .i64 hi] 25)).alloc (.cells #[.int .i64 o] 3)).alloc (.cells #[(.slice pp ts.length cap)] 63)).alloc (.cells #[.int .i64 0, .int .i64 0] 34)).cell? ⟨w.heap.size + 1, 0, none⟩ = some (.int .i64 o) := by simp [go_sem]
  have c2_0 : ((((w.alloc (.cells #[.int .i64 N, .int .i64 lo, .int .i64 hi] 25)).alloc (.cells #[.int .i64 o] 3)).alloc (.cells #[(.slice pp ts.length cap)] 63)).alloc (.cells #[.int .i64 0, .int .i64 0] 34)).cell? ⟨w.heap.size + 1 + 1, 0, none⟩ = some ((.slice pp ts.length cap)) := by simp [go_sem]
  have c3_0 : ((((w.alloc (.cells #[.int .i64 N, .int .i64 lo, .int .i64 hi] 25)).alloc (.cells #[.int .i64 o] 3)).alloc (.cells #[(.slice pp ts.length cap)] 63)).alloc (.cells #[.int .i64 0, .int .i64 0] 34)).cell? ⟨w.heap.size + 1 + 1 + 1, 0, none⟩ = some (.int .i64 0) := by simp [go_sem]
  have c3_1 : ((((w.alloc (.cells #[.int .i64 N, .int .i64 lo, .int .i64 hi] 25)).alloc (.cells #[.int .i64 o] 3)).alloc (.cells #[(.slice pp ts.length cap)] 63)).alloc (.cells #[.int .i64 0, .int .i64 0] 34)).cell? ⟨w.heap.size + 1 + 1 + 1, 1, none⟩ = some (.int .i64 0) := by simp [go_sem]
  have f3_0 : ((((w.alloc (.cells #[.int .i64 N, .int .i64 lo, .int .i64 hi] 25)).alloc (.cells #[.int .i64 o] 3)).alloc (.cells #[(.slice pp ts.length cap)] 63)).alloc (.cells #[.int .i64 0, .int .i64 0] 34)).frozen? ⟨w.heap.size + 1 + 1 + 1, 0, none⟩ = false := by simp [go_sem]
  have f3_1 : ((((w.alloc (.cells #[.int .i64 N, .int .i64 lo, .int .i64 hi] 25)).alloc (.cells #[.int .i64 o] 3)).alloc (.cells #[(.slice pp ts.length cap)] 63)).alloc (.cells #[.int .i64 0, .int .i64 0] 34)).frozen? ⟨w.heap.size + 1 + 1 + 1, 1, none⟩ = false := by simp [go_sem]
  go_enter Try.func29, Try.ntmps29
  go_wp2_with fail
  refine (begun_bad N lo hi _ hc).mono ?_
  rintro e w1 ⟨rfl, hB1⟩
  have K_w1 : Free.Bel ((((w.alloc (.cells #[.int .i64 N, .int .i64 lo, .int .i64 hi] 25)).alloc (.cells #[.int .i64 o] 3)).alloc (.cells #[(.slice pp ts.length cap)] 63)).alloc (.cells #[.int .i64 0, .int .i64 0] 34)) w1 := hB1
  clear hB1
  have hq : w.heap.size + 4 = ((((w.alloc (.cells #[.int .i64 N, .int .i64 lo, .int .i64 hi] 25)).alloc (.cells #[.int .i64 o] 3)).alloc (.cells #[(.slice pp ts.length cap)] 63)).alloc (.cells #[.int .i64 0, .int .i64 0] 34)).heap.size := by simp
  generalize ((((w.alloc (.cells #[.int .i64 N, .int .i64 lo, .int .i64 hi] 25)).alloc (.cells #[.int .i64 o] 3)).alloc (.cells #[(.slice pp ts.length cap)] 63)).alloc (.cells #[.int .i64 0, .int .i64 0] 34)) = W0 at *
  generalize hbb : w.heap.size = bb at *
  have HBB := Lib.hid hbb
  clear hbb
  have HB0 := Lib.hid hB0
  have hq0 : bb + 4 ≤ W0.heap.size := by omega
  clear hB0 hq
  have FA : ∀ W, Free.Bel W0 W → W.cell? ⟨bb, 0, none⟩ = some (.int .i64 N) ∧ W.cell? ⟨bb, 1, none⟩ = some (.int .i64 lo) ∧ W.cell? ⟨bb, 2, none⟩ = some (.int .i64 hi) ∧ W.cell? ⟨bb + 1, 0, none⟩ = some (.int .i64 o) ∧ W.cell? ⟨bb + 1 + 1, 0, none⟩ = some ((.slice pp ts.length cap)) ∧ W.cell? ⟨bb + 1 + 1 + 1, 0, none⟩ = some (.int .i64 0) ∧ W.cell? ⟨bb + 1 + 1 + 1, 1, none⟩ = some (.int .i64 0) ∧ W.frozen? ⟨bb + 1 + 1 + 1, 0, none⟩ = false ∧ W.frozen? ⟨bb + 1 + 1 + 1, 1, none⟩ = false ∧ bb + 4 ≤ W.heap.size := fun W hW => ⟨keepsB hW c0_0, keepsB hW c0_1, keepsB hW c0_2, keepsB hW c1_0, keepsB hW c2_0, keepsB hW c3_0, keepsB hW c3_1, (hW.frozen (p := ⟨bb + 1 + 1 + 1, 0, none⟩) (by simp; omega)).trans f3_0, (hW.frozen (p := ⟨bb + 1 + 1 + 1, 1, none⟩) (by simp; omega)).trans f3_1, Nat.le_trans hq0 hW.size⟩
  clear c0_0 c0_1 c0_2 c1_0 c2_0 c3_0 c3_1 f3_0 f3_1
  go_wp2_with fail
  have hz := FA w1 K_w1
  have n3 := noop2 (w := w1) (b := bb + 1 + 1 + 1) (x := .int .i64 0) (y := .int .i64 0) (by simp [hz]) (by simp [hz])
  rw [n3]
  have hbb := HBB.out
  subst hbb
  exact bodyPost_ret (v := .tuple #[.agg #[.int .i64 0, .int .i64 0], .int .i64 10]) (by simp [results, Try.results29, go_sem, hz]) rfl ⟨rfl, HB0.out.trans (K_w1.mono (by omega))⟩

set_option maxRecDepth 100000 in
set_option maxHeartbeats 4000000 in
theorem fair_b (N lo hi D o : Int) (ts : List (Int × Int)) (pp : Option Addr) (cap : Nat) (w : World) (hv : PL ts (.slice pp ts.length cap) w) (hc : cargoB N lo hi = true) (x y u : Int) (q : Bool) (hx : Hid (unlessV (inB lo hi [D]) 2 = x)) (hy : Hid (agreedE ts = y)) (hq : Hid (inB 0 N [o] = q)) (hzz : Hid (unlessV q 2 = u)) (z : Int) (hz : Hid (firstE [x, y, u] = z)) (hz0 : (z != 0) = true) :
    Calls Try.prog 29 #[.agg #[.int .i64 N, .int .i64 lo, .int .i64 hi], .int .i64 D, .int .i64 o, .slice pp ts.length cap] w fun e w' => e = .returned (.tuple #[.agg #[.int .i64 0, .int .i64 0], .int .i64 z]) ∧ Below w.heap.size w w' := by
  have HV := Lib.hid hv
  clear hv
  have hB0 : Below w.heap.size w ((((w.alloc (.cells #[.int .i64 N, .int .i64 lo, .int .i64 hi] 25)).alloc (.cells #[.int .i64 o] 3)).alloc (.cells #[(.slice pp ts.length cap)] 63)).alloc (.cells #[.int .i64 0, .int .i64 0] 34)) := ((((Below.refl _ w).alloc (Nat.le_refl _) _).alloc (by simp) _).alloc (by simp; omega) _).alloc (by simp; omega) _
  have c0_0 : ((((w.alloc (.cells #[.int .i64 N, .int .i64 lo, .int .i64 hi] 25)).alloc (.cells #[.int .i64 o] 3)).alloc (.cells #[(.slice pp ts.length cap)] 63)).alloc (.cells #[.int .i64 0, .int .i64 0] 34)).cell? ⟨w.heap.size, 0, none⟩ = some (.int .i64 N) := by simp [go_sem]
  have c0_1 : ((((w.alloc (.cells #[.int .i64 N, .int .i64 lo, .int .i64 hi] 25)).alloc (.cells #[.int .i64 o] 3)).alloc (.cells #[(.slice pp ts.length cap)] 63)).alloc (.cells #[.int .i64 0, .int .i64 0] 34)).cell? ⟨w.heap.size, 1, none⟩ = some (.int .i64 lo) := by simp [go_sem]
  have c0_2 : ((((w.alloc (.cells #[.int .i64 N, .int .i64 lo, .int .i64 hi] 25)).alloc (.cells #[.int .i64 o] 3)).alloc (.cells #[(.slice pp ts.length cap)] 63)).alloc (.cells #[.int .i64 0, .int .i64 0] 34)).cell? ⟨w.heap.size, 2, none⟩ = some (.int .i64 hi) := by simp [go_sem]
  have c1_0 : ((((w.alloc (.cells #[.int .i64 N, .int .i64 lo, .int .i64 hi] 25)).alloc (.cells #[.int .i64 o] 3)).alloc (.cells #[(.slice pp ts.length cap)] 63)).alloc (.cells #[.int .i64 0, .int .i64 0] 34)).cell? ⟨w.heap.size + 1, 0, none⟩ = some (.int .i64 o) := by simp [go_sem]
  have c2_0 : ((((w.alloc (.cells #[.int .i64 N, .int .i64 lo, .int .i64 hi] 25)).alloc (.cells #[.int .i64 o] 3)).alloc (.cells #[(.slice pp ts.length cap)] 63)).alloc (.cells #[.int .i64 0, .int .i64 0] 34)).cell? ⟨w.heap.size + 1 + 1, 0, none⟩ = some ((.slice pp ts.length cap)) := by simp [go_sem]
  have c3_0 : ((((w.alloc (.cells #[.int .i64 N, .int .i64 lo, .int .i64 hi] 25)).alloc (.cells #[.int .i64 o] 3)).alloc (.cells #[(.slice pp ts.length cap)] 63)).alloc (.cells #[.int .i64 0, .int .i64 0] 34)).cell? ⟨w.heap.size + 1 + 1 + 1, 0, none⟩ = some (.int .i64 0) := by simp [go_sem]
  have c3_1 : ((((w.alloc (.cells #[.int .i64 N, .int .i64 lo, .int .i64 hi] 25)).alloc (.cells #[.int .i64 o] 3)).alloc (.cells #[(.slice pp ts.length cap)] 63)).alloc (.cells #[.int .i64 0, .int .i64 0] 34)).cell? ⟨w.heap.size + 1 + 1 + 1, 1, none⟩ = some (.int .i64 0) := by simp [go_sem]
  have f3_0 : ((((w.alloc (.cells #[.int .i64 N, .int .i64 lo, .int .i64 hi] 25)).alloc (.cells #[.int .i64 o] 3)).alloc (.cells #[(.slice pp ts.length cap)] 63)).alloc (.cells #[.int .i64 0, .int .i64 0] 34)).frozen? ⟨w.heap.size + 1 + 1 + 1, 0, none⟩ = false := by simp [go_sem]
  have f3_1 : ((((w.alloc (.cells #[.int .i64 N, .int .i64 lo, .int .i64 hi] 25)).alloc (.cells #[.int .i64 o] 3)).alloc (.cells #[(.slice pp ts.length cap)] 63)).alloc (.cells #[.int .i64 0, .int .i64 0] 34)).frozen? ⟨w.heap.size + 1 + 1 + 1, 1, none⟩ = false := by simp [go_sem]
  go_enter Try.func29, Try.ntmps29
  go_wp2_with fail
  refine (begun_ok N lo hi _ hc).mono ?_
  rintro e w1 ⟨hb, mb, kb, cb, rfl, hH, hmb, hhb, hB1⟩
  have K_w1 : Free.Bel ((((w.alloc (.cells #[.int .i64 N, .int .i64 lo, .int .i64 hi] 25)).alloc (.cells #[.int .i64 o] 3)).alloc (.cells #[(.slice pp ts.length cap)] 63)).alloc (.cells #[.int .i64 0, .int .i64 0] 34)) w1 := hB1
  have HHB := Lib.hid hhb
  clear hB1 hhb
  have hq : w.heap.size + 4 = ((((w.alloc (.cells #[.int .i64 N, .int .i64 lo, .int .i64 hi] 25)).alloc (.cells #[.int .i64 o] 3)).alloc (.cells #[(.slice pp ts.length cap)] 63)).alloc (.cells #[.int .i64 0, .int .i64 0] 34)).heap.size := by simp
  generalize ((((w.alloc (.cells #[.int .i64 N, .int .i64 lo, .int .i64 hi] 25)).alloc (.cells #[.int .i64 o] 3)).alloc (.cells #[(.slice pp ts.length cap)] 63)).alloc (.cells #[.int .i64 0, .int .i64 0] 34)) = W0 at *
  generalize hbb : w.heap.size = bb at *
  have HBB := Lib.hid hbb
  clear hbb
  have HB0 := Lib.hid hB0
  have hq0 : bb + 4 ≤ W0.heap.size := by omega
  clear hB0 hq
  have FA : ∀ W, Free.Bel W0 W → W.cell? ⟨bb, 0, none⟩ = some (.int .i64 N) ∧ W.cell? ⟨bb, 1, none⟩ = some (.int .i64 lo) ∧ W.cell? ⟨bb, 2, none⟩ = some (.int .i64 hi) ∧ W.cell? ⟨bb + 1, 0, none⟩ = some (.int .i64 o) ∧ W.cell? ⟨bb + 1 + 1, 0, none⟩ = some ((.slice pp ts.length cap)) ∧ W.cell? ⟨bb + 1 + 1 + 1, 0, none⟩ = some (.int .i64 0) ∧ W.cell? ⟨bb + 1 + 1 + 1, 1, none⟩ = some (.int .i64 0) ∧ W.frozen? ⟨bb + 1 + 1 + 1, 0, none⟩ = false ∧ W.frozen? ⟨bb + 1 + 1 + 1, 1, none⟩ = false ∧ bb + 4 ≤ W.heap.size := fun W hW => ⟨keepsB hW c0_0, keepsB hW c0_1, keepsB hW c0_2, keepsB hW c1_0, keepsB hW c2_0, keepsB hW c3_0, keepsB hW c3_1, (hW.frozen (p := ⟨bb + 1 + 1 + 1, 0, none⟩) (by simp; omega)).trans f3_0, (hW.frozen (p := ⟨bb + 1 + 1 + 1, 1, none⟩) (by simp; omega)).trans f3_1, Nat.le_trans hq0 hW.size⟩
  clear c0_0 c0_1 c0_2 c1_0 c2_0 c3_0 c3_1 f3_0 f3_1
  obtain ⟨a0_0, a0_1, a0_2, a1_0, a2_0, a3_0, a3_1, b3_0, b3_1, aq⟩ := FA w1 K_w1
  have hm0 : W0.heap.size ≤ mb := hmb
  have HH1 := Lib.hid hH
  have HHo : ∀ W, Kept mb w1 W → Hold hb N lo hi mb kb cb W := fun W hW => HH1.out.kept hW
  have HC : ∀ W, Kept mb w1 W → W.cell? ⟨hb, 0, none⟩ = some (.int .i64 N) ∧ W.cell? ⟨hb, 1, none⟩ = some (.int .i64 lo) ∧ W.cell? ⟨hb, 2, none⟩ = some (.int .i64 hi) ∧ W.cell? ⟨hb, 3, none⟩ = some (setsV kb cb) ∧ mb < W.heap.size ∧ hb < W.heap.size := fun W hW => ⟨(HHo W hW).bags, (HHo W hW).lo, (HHo W hW).hi, (HHo W hW).sets, (by obtain ⟨l, hl, _⟩ := (HHo W hW).ctr.memo; exact hl.lt), lt_of_cell (HHo W hW).bags⟩
  have FB : ∀ W, Kept mb w1 W → W.cell? ⟨bb, 0, none⟩ = some (.int .i64 N) ∧ W.cell? ⟨bb, 1, none⟩ = some (.int .i64 lo) ∧ W.cell? ⟨bb, 2, none⟩ = some (.int .i64 hi) ∧ W.cell? ⟨bb + 1, 0, none⟩ = some (.int .i64 o) ∧ W.cell? ⟨bb + 1 + 1, 0, none⟩ = some ((.slice pp ts.length cap)) ∧ W.cell? ⟨bb + 1 + 1 + 1, 0, none⟩ = some (.int .i64 0) ∧ W.cell? ⟨bb + 1 + 1 + 1, 1, none⟩ = some (.int .i64 0) ∧ W.frozen? ⟨bb + 1 + 1 + 1, 0, none⟩ = false ∧ W.frozen? ⟨bb + 1 + 1 + 1, 1, none⟩ = false ∧ bb + 4 ≤ W.heap.size := fun W hW => ⟨hW.cell a0_0 (by show _ ≠ mb; simp; omega), hW.cell a0_1 (by show _ ≠ mb; simp; omega), hW.cell a0_2 (by show _ ≠ mb; simp; omega), hW.cell a1_0 (by show _ ≠ mb; simp; omega), hW.cell a2_0 (by show _ ≠ mb; simp; omega), hW.cell a3_0 (by show _ ≠ mb; simp; omega), hW.cell a3_1 (by show _ ≠ mb; simp; omega), (World.frozen?_of_block (w := w1) (a := ⟨bb + 1 + 1 + 1, 0, none⟩) (hW.block _ (by simp; omega) (by simp; omega))).trans b3_0, (World.frozen?_of_block (w := w1) (a := ⟨bb + 1 + 1 + 1, 1, none⟩) (hW.block _ (by simp; omega) (by simp; omega))).trans b3_1, Nat.le_trans aq hW.size⟩
  have HBE := Lib.hid (fun (W : World) (hW : Kept mb w1 W) => HB0.out.trans ((hW.below K_w1 hm0).mono (by omega)))
  have HK : Kept mb w1 w1 := Kept.refl _ _
  have HM := Lib.hid hm0
  clear a0_0 a0_1 a0_2 a1_0 a2_0 a3_0 a3_1 b3_0 b3_1 aq FA hH hmb K_w1
  go_wp2_with fail
  have HV0 := Lib.hid (fun (W : World) (hW : Kept mb w1 W) => HV.out.keeps (HBB.out.symm ▸ HBE.out W hW))
  have hF : ∀ W, Free.Bel w1.drew W → Kept mb w1 W := fun W hW => (HK.drew).trans (.of_below hW)
  refine Free.wp_free (R := Free.Bel) (by kernel_rfl) (by kernel_rfl) Free.Bel.refl Free.Bel.trans ?_
  refine Free.Chain.ex ?_ [] [10] (by kernel_rfl) (by kernel_rfl) rfl Free.Bel.refl ?_ ?_
  rotate_left 2
  simp only [an1, an2]
  refine Free.Chain.ex ?_ [] [1] (by kernel_rfl) (by kernel_rfl) rfl Free.Bel.refl ?_ ?_
  rotate_left 2
  simp only [an1, an2]
  rotate_left
  iterate 2 (rotate_left; intro ev W hb hR hO hD; have hS := hF W hR; obtain ⟨hb1, hb2, hb3⟩ := hb; simp only [Free.AllDeps, Free.AllOuts, Free.At, al1, al2, al3, al4, al5, and_true] at hO hD; go_simp; rfl)
  refine Free.Chain.pr (SlI [D]) [(1, 23)] [] (by kernel_rfl) (by kernel_rfl) rfl (SlI.stable _) ?_ ?_
  · (intro ev W hb hR hO hD; have hS := hF W hR; obtain ⟨hb1, hb2, hb3⟩ := hb; simp only [Free.AllDeps, Free.AllOuts, Free.At, al1, al2, al3, al4, al5, and_true] at hO hD; go_simp; exact ⟨belAlloc _ _, SlI.one _ _ _⟩)
  simp only [an1, an2]
  refine Free.Chain.pr (fun v _ => v = .int .i64 x) [(0, 22), (2, 24)] [] (by kernel_rfl) (by kernel_rfl) rfl (fun _ _ _ _ h => h) ?_ ?_
  · (intro ev W hb hR hO hD; have hS := hF W hR; obtain ⟨hb1, hb2, hb3⟩ := hb; simp only [Free.AllDeps, Free.AllOuts, Free.At, al1, al2, al3, al4, al5, and_true] at hO hD; go_simp; refine yields_enter ?_; (with_reducible refine (may_any hb lo hi [D] _ x _ (by simp [maxLen]) (HHo _ hS).lo (HHo _ hS).hi hD.2 hx.out).mono ?_); rintro e W2 ⟨rfl, hB2⟩; exact ⟨_, rfl, hB2, rfl⟩)
  simp only [an1, an2]
  refine Free.Chain.ex ?_ [] [7] (by kernel_rfl) (by kernel_rfl) rfl Free.Bel.refl ?_ ?_
  rotate_left 2
  simp only [an1, an2]
  rotate_left
  rotate_left
  · (intro ev W hb hR hO hD; have hS := hF W hR; obtain ⟨hb1, hb2, hb3⟩ := hb; simp only [Free.AllDeps, Free.AllOuts, Free.At, al1, al2, al3, al4, al5, and_true] at hO hD; go_simp; rfl)
  refine Free.Chain.pr (fun v _ => v = .int .i64 y) [(4, 26), (3, 25)] [] (by kernel_rfl) (by kernel_rfl) rfl (fun _ _ _ _ h => h) ?_ ?_
  · (intro ev W hb hR hO hD; have hS := hF W hR; obtain ⟨hb1, hb2, hb3⟩ := hb; simp only [Free.AllDeps, Free.AllOuts, Free.At, al1, al2, al3, al4, al5, and_true] at hO hD; go_simp; refine yields_enter ?_; (with_reducible refine (agreed_v ts (.slice pp ts.length cap) _ (HV0.out _ hS) y hy).mono ?_); rintro e W2 ⟨rfl, hB2⟩; exact ⟨_, rfl, hB2, rfl⟩)
  simp only [an1, an2]
  refine Free.Chain.ex ?_ [] [10] (by kernel_rfl) (by kernel_rfl) rfl Free.Bel.refl ?_ ?_
  rotate_left 2
  simp only [an1, an2]
  refine Free.Chain.ex ?_ [(6, 28)] [] (by kernel_rfl) (by kernel_rfl) rfl Free.Bel.refl ?_ ?_
  rotate_left 2
  simp only [an1, an2]
  refine Free.Chain.ex ?_ [(7, 29)] [] (by kernel_rfl) (by kernel_rfl) rfl Free.Bel.refl ?_ ?_
  rotate_left 2
  simp only [an1, an2]
  refine Free.Chain.ex ?_ [(8, 30)] [] (by kernel_rfl) (by kernel_rfl) rfl Free.Bel.refl ?_ ?_
  rotate_left 2
  simp only [an1, an2]
  refine Free.Chain.ex ?_ [(9, 31)] [] (by kernel_rfl) (by kernel_rfl) rfl Free.Bel.refl ?_ ?_
  rotate_left 2
  simp only [an1, an2]
  refine Free.Chain.ex ?_ [] [6] (by kernel_rfl) (by kernel_rfl) rfl Free.Bel.refl ?_ ?_
  rotate_left 2
  simp only [an1, an2]
  rotate_left
  iterate 6 (rotate_left; intro ev W hb hR hO hD; have hS := hF W hR; obtain ⟨hb1, hb2, hb3⟩ := hb; simp only [Free.AllDeps, Free.AllOuts, Free.At, al1, al2, al3, al4, al5, and_true] at hO hD; go_simp; rfl)
  refine Free.Chain.pr (SlI [o]) [(11, 33)] [] (by kernel_rfl) (by kernel_rfl) rfl (SlI.stable _) ?_ ?_
  · (intro ev W hb hR hO hD; have hS := hF W hR; obtain ⟨hb1, hb2, hb3⟩ := hb; simp only [Free.AllDeps, Free.AllOuts, Free.At, al1, al2, al3, al4, al5, and_true] at hO hD; go_simp; exact ⟨belAlloc _ _, SlI.one _ _ _⟩)
  simp only [an1, an2]
  refine Free.Chain.pr (fun v _ => v = .bool q) [(10, 32), (12, 34), (5, 27)] [] (by kernel_rfl) (by kernel_rfl) rfl (fun _ _ _ _ h => h) ?_ ?_
  · (intro ev W hb hR hO hD; have hS := hF W hR; obtain ⟨hb1, hb2, hb3⟩ := hb; simp only [Free.AllDeps, Free.AllOuts, Free.At, al1, al2, al3, al4, al5, and_true] at hO hD; go_simp; refine yields_enter ?_; (with_reducible refine (in_sl _ _ [o] q _ _ (by simp [maxLen]) hq.out hD.2.1).mono ?_); rintro e W2 ⟨rfl, hB2⟩; exact ⟨_, rfl, hB2, rfl⟩)
  simp only [an1, an2]
  refine Free.Chain.pr (fun v _ => v = .int .i64 u) [(13, 35), (13, 35)] [] (by kernel_rfl) (by kernel_rfl) rfl (fun _ _ _ _ h => h) ?_ ?_
  · (intro ev W hb hR hO hD; have hS := hF W hR; obtain ⟨hb1, hb2, hb3⟩ := hb; simp only [Free.AllDeps, Free.AllOuts, Free.At, al1, al2, al3, al4, al5, and_true] at hO hD; go_simp; refine yields_enter ?_; (with_reducible refine (unless_any q 2 u _ hzz.out).mono ?_); rintro e W2 ⟨rfl, rfl⟩; exact ⟨_, rfl, Free.Bel.refl _, rfl⟩)
  simp only [an1, an2]
  refine Free.Chain.pr (SlI [x, y, u]) [(3, 25), (5, 27), (14, 36)] [] (by kernel_rfl) (by kernel_rfl) rfl (SlI.stable _) ?_ ?_
  · (intro ev W hb hR hO hD; have hS := hF W hR; obtain ⟨hb1, hb2, hb3⟩ := hb; simp only [Free.AllDeps, Free.AllOuts, Free.At, al1, al2, al3, al4, al5, and_true] at hO hD; go_simp; exact ⟨belAlloc _ _, SlI.three _ _ _ _ _⟩)
  simp only [an1, an2]
  refine Free.Chain.pr (fun v _ => v = .int .i64 z) [(15, 37), (14, 36)] [] (by kernel_rfl) (by kernel_rfl) rfl (fun _ _ _ _ h => h) ?_ ?_
  · (intro ev W hb hR hO hD; have hS := hF W hR; obtain ⟨hb1, hb2, hb3⟩ := hb; simp only [Free.AllDeps, Free.AllOuts, Free.At, al1, al2, al3, al4, al5, and_true] at hO hD; go_simp; refine yields_enter ?_; (with_reducible refine (first_sl [x, y, u] z _ _ (by simp [maxLen]) hz.out hD.1).mono ?_); rintro e W2 ⟨rfl, rfl⟩; exact ⟨_, rfl, Free.Bel.refl _, rfl⟩)
  simp only [an1, an2]
  refine Free.Chain.ex ?_ [(16, 38), (16, 38), (0, 22), (1, 23), (2, 24), (3, 25), (4, 26), (5, 27), (6, 28), (7, 29), (8, 30), (9, 31), (10, 32), (11, 33), (12, 34), (13, 35), (14, 36), (15, 37), (16, 38)] [] (by kernel_rfl) (by kernel_rfl) rfl Free.Bel.refl ?_ ?_
  rotate_left 2
  simp only [an1, an2]
  rotate_left
  rotate_left
  · (intro ev W hb hR hO hD; have hS := hF W hR; obtain ⟨hb1, hb2, hb3⟩ := hb; simp only [Free.AllDeps, Free.AllOuts, Free.At, al1, al2, al3, al4, al5, and_true] at hO hD; go_simp; rfl)
  intro xs w2 hR hV
  simp only [Free.AllV, Free.At, List.length_cons, List.length_nil, Nat.reduceAdd, List.getElem?_cons_succ, List.getElem?_cons_zero, true_and] at hV
  simp only [Free.putsFrom, Act.put, Nat.zero_add, Nat.reduceAdd, hV, List.setIfInBounds_toArray, List.set_cons_succ, List.set_cons_zero]
  have HK2 := hF w2 hR
  clear hR hV hF HK
  go_wp2_with fail
  have hz9 := FB w2 HK2
  have n3 := noop2 (w := w2) (b := bb + 1 + 1 + 1) (x := .int .i64 0) (y := .int .i64 0) (by simp [hz9]) (by simp [hz9])
  rw [n3]
  have hbb := HBB.out
  subst hbb
  exact bodyPost_ret (v := .tuple #[.agg #[.int .i64 0, .int .i64 0], .int .i64 z]) (by simp [results, Try.results29, go_sem, hz9]) rfl ⟨rfl, HBE.out _ HK2⟩

set_option maxRecDepth 100000 in
set_option maxHeartbeats 4000000 in
theorem fair_c (N lo hi D o : Int) (ts : List (Int × Int)) (pp : Option Addr) (cap : Nat) (w : World) (hv : PL ts (.slice pp ts.length cap) w) (hc : cargoB N lo hi = true) (hx : Hid (unlessV (inB lo hi [D]) 2 = 0)) (hy : Hid (agreedE ts = 0)) (hq : Hid (inB 0 N [o] = true)) (hzz : Hid (unlessV true 2 = 0)) (hz : Hid (firstE [0, 0, 0] = 0)) (hD : lo ≤ D ∧ D ≤ hi) (ho : 0 ≤ o ∧ o ≤ N) (px py : Int) (hp : Hid (partV (midI N D o (fun k => offV ts o k) (o + 1).toNat).toNat (chI N o).toNat = .agg #[.int .i64 px, .int .i64 py])) :
    Calls Try.prog 29 #[.agg #[.int .i64 N, .int .i64 lo, .int .i64 hi], .int .i64 D, .int .i64 o, .slice pp ts.length cap] w fun e w' => e = .returned (.tuple #[.agg #[.int .i64 px, .int .i64 py], .int .i64 0]) ∧ Below w.heap.size w w' := by
  have hN := (cargoB_iff N lo hi).1 hc
  have HV := Lib.hid hv
  clear hv
  have hB0 : Below w.heap.size w ((((w.alloc (.cells #[.int .i64 N, .int .i64 lo, .int .i64 hi] 25)).alloc (.cells #[.int .i64 o] 3)).alloc (.cells #[(.slice pp ts.length cap)] 63)).alloc (.cells #[.int .i64 0, .int .i64 0] 34)) := ((((Below.refl _ w).alloc (Nat.le_refl _) _).alloc (by simp) _).alloc (by simp; omega) _).alloc (by simp; omega) _
  have c0_0 : ((((w.alloc (.cells #[.int .i64 N, .int .i64 lo, .int .i64 hi] 25)).alloc (.cells #[.int .i64 o] 3)).alloc (.cells #[(.slice pp ts.length cap)] 63)).alloc (.cells #[.int .i64 0, .int .i64 0] 34)).cell? ⟨w.heap.size, 0, none⟩ = some (.int .i64 N) := by simp [go_sem]
  have c0_1 : ((((w.alloc (.cells #[.int .i64 N, .int .i64 lo, .int .i64 hi] 25)).alloc (.cells #[.int .i64 o] 3)).alloc (.cells #[(.slice pp ts.length cap)] 63)).alloc (.cells #[.int .i64 0, .int .i64 0] 34)).cell? ⟨w.heap.size, 1, none⟩ = some (.int .i64 lo) := by simp [go_sem]
  have c0_2 : ((((w.alloc (.cells #[.int .i64 N, .int .i64 lo, .int .i64 hi] 25)).alloc (.cells #[.int .i64 o] 3)).alloc (.cells #[(.slice pp ts.length cap)] 63)).alloc (.cells #[.int .i64 0, .int .i64 0] 34)).cell? ⟨w.heap.size, 2, none⟩ = some (.int .i64 hi) := by simp [go_sem]
  have c1_0 : ((((w.alloc (.cells #[.int .i64 N, .int .i64 lo, .int .i64 hi] 25)).alloc (.cells #[.int .i64 o] 3)).alloc (.cells #[(.slice pp ts.length cap)] 63)).alloc (.cells #[.int .i64 0, .int .i64 0] 34)).cell? ⟨w.heap.size + 1, 0, none⟩ = some (.int .i64 o) := by simp [go_sem]
  have c2_0 : ((((w.alloc (.cells #[.int .i64 N, .int .i64 lo, .int .i64 hi] 25)).alloc (.cells #[.int .i64 o] 3)).alloc (.cells #[(.slice pp ts.length cap)] 63)).alloc (.cells #[.int .i64 0, .int .i64 0] 34)).cell? ⟨w.heap.size + 1 + 1, 0, none⟩ = some ((.slice pp ts.length cap)) := by simp [go_sem]
  have c3_0 : ((((w.alloc (.cells #[.int .i64 N, .int .i64 lo, .int .i64 hi] 25)).alloc (.cells #[.int .i64 o] 3)).alloc (.cells #[(.slice pp ts.length cap)] 63)).alloc (.cells #[.int .i64 0, .int .i64 0] 34)).cell? ⟨w.heap.size + 1 + 1 + 1, 0, none⟩ = some (.int .i64 0) := by simp [go_sem]
  have c3_1 : ((((w.alloc (.cells #[.int .i64 N, .int .i64 lo, .int .i64 hi] 25)).alloc (.cells #[.int .i64 o] 3)).alloc (.cells #[(.slice pp ts.length cap)] 63)).alloc (.cells #[.int .i64 0, .int .i64 0] 34)).cell? ⟨w.heap.size + 1 + 1 + 1, 1, none⟩ = some (.int .i64 0) := by simp [go_sem]
  have f3_0 : ((((w.alloc (.cells #[.int .i64 N, .int .i64 lo, .int .i64 hi] 25)).alloc (.cells #[.int .i64 o] 3)).alloc (.cells #[(.slice pp ts.length cap)] 63)).alloc (.cells #[.int .i64 0, .int .i64 0] 34)).frozen? ⟨w.heap.size + 1 + 1 + 1, 0, none⟩ = false := by simp [go_sem]
  have f3_1 : ((((w.alloc (.cells #[.int .i64 N, .int .i64 lo, .int .i64 hi] 25)).alloc (.cells #[.int .i64 o] 3)).alloc (.cells #[(.slice pp ts.length cap)] 63)).alloc (.cells #[.int .i64 0, .int .i64 0] 34)).frozen? ⟨w.heap.size + 1 + 1 + 1, 1, none⟩ = false := by simp [go_sem]
  go_enter Try.func29, Try.ntmps29
  go_wp2_with fail
  refine (begun_ok N lo hi _ hc).mono ?_
  rintro e w1 ⟨hb, mb, kb, cb, rfl, hH, hmb, hhb, hB1⟩
  have K_w1 : Free.Bel ((((w.alloc (.cells #[.int .i64 N, .int .i64 lo, .int .i64 hi] 25)).alloc (.cells #[.int .i64 o] 3)).alloc (.cells #[(.slice pp ts.length cap)] 63)).alloc (.cells #[.int .i64 0, .int .i64 0] 34)) w1 := hB1
  have HHB := Lib.hid hhb
  clear hB1 hhb
  have hq : w.heap.size + 4 = ((((w.alloc (.cells #[.int .i64 N, .int .i64 lo, .int .i64 hi] 25)).alloc (.cells #[.int .i64 o] 3)).alloc (.cells #[(.slice pp ts.length cap)] 63)).alloc (.cells #[.int .i64 0, .int .i64 0] 34)).heap.size := by simp
  generalize ((((w.alloc (.cells #[.int .i64 N, .int .i64 lo, .int .i64 hi] 25)).alloc (.cells #[.int .i64 o] 3)).alloc (.cells #[(.slice pp ts.length cap)] 63)).alloc (.cells #[.int .i64 0, .int .i64 0] 34)) = W0 at *
  generalize hbb : w.heap.size = bb at *
  have HBB := Lib.hid hbb
  clear hbb
  have HB0 := Lib.hid hB0
  have hq0 : bb + 4 ≤ W0.heap.size := by omega
  clear hB0 hq
  have FA : ∀ W, Free.Bel W0 W → W.cell? ⟨bb, 0, none⟩ = some (.int .i64 N) ∧ W.cell? ⟨bb, 1, none⟩ = some (.int .i64 lo) ∧ W.cell? ⟨bb, 2, none⟩ = some (.int .i64 hi) ∧ W.cell? ⟨bb + 1, 0, none⟩ = some (.int .i64 o) ∧ W.cell? ⟨bb + 1 + 1, 0, none⟩ = some ((.slice pp ts.length cap)) ∧ W.cell? ⟨bb + 1 + 1 + 1, 0, none⟩ = some (.int .i64 0) ∧ W.cell? ⟨bb + 1 + 1 + 1, 1, none⟩ = some (.int .i64 0) ∧ W.frozen? ⟨bb + 1 + 1 + 1, 0, none⟩ = false ∧ W.frozen? ⟨bb + 1 + 1 + 1, 1, none⟩ = false ∧ bb + 4 ≤ W.heap.size := fun W hW => ⟨keepsB hW c0_0, keepsB hW c0_1, keepsB hW c0_2, keepsB hW c1_0, keepsB hW c2_0, keepsB hW c3_0, keepsB hW c3_1, (hW.frozen (p := ⟨bb + 1 + 1 + 1, 0, none⟩) (by simp; omega)).trans f3_0, (hW.frozen (p := ⟨bb + 1 + 1 + 1, 1, none⟩) (by simp; omega)).trans f3_1, Nat.le_trans hq0 hW.size⟩
  clear c0_0 c0_1 c0_2 c1_0 c2_0 c3_0 c3_1 f3_0 f3_1
  obtain ⟨a0_0, a0_1, a0_2, a1_0, a2_0, a3_0, a3_1, b3_0, b3_1, aq⟩ := FA w1 K_w1
  have hm0 : W0.heap.size ≤ mb := hmb
  have HH1 := Lib.hid hH
  have HHo : ∀ W, Kept mb w1 W → Hold hb N lo hi mb kb cb W := fun W hW => HH1.out.kept hW
  have HC : ∀ W, Kept mb w1 W → W.cell? ⟨hb, 0, none⟩ = some (.int .i64 N) ∧ W.cell? ⟨hb, 1, none⟩ = some (.int .i64 lo) ∧ W.cell? ⟨hb, 2, none⟩ = some (.int .i64 hi) ∧ W.cell? ⟨hb, 3, none⟩ = some (setsV kb cb) ∧ mb < W.heap.size ∧ hb < W.heap.size := fun W hW => ⟨(HHo W hW).bags, (HHo W hW).lo, (HHo W hW).hi, (HHo W hW).sets, (by obtain ⟨l, hl, _⟩ := (HHo W hW).ctr.memo; exact hl.lt), lt_of_cell (HHo W hW).bags⟩
  have FB : ∀ W, Kept mb w1 W → W.cell? ⟨bb, 0, none⟩ = some (.int .i64 N) ∧ W.cell? ⟨bb, 1, none⟩ = some (.int .i64 lo) ∧ W.cell? ⟨bb, 2, none⟩ = some (.int .i64 hi) ∧ W.cell? ⟨bb + 1, 0, none⟩ = some (.int .i64 o) ∧ W.cell? ⟨bb + 1 + 1, 0, none⟩ = some ((.slice pp ts.length cap)) ∧ W.cell? ⟨bb + 1 + 1 + 1, 0, none⟩ = some (.int .i64 0) ∧ W.cell? ⟨bb + 1 + 1 + 1, 1, none⟩ = some (.int .i64 0) ∧ W.frozen? ⟨bb + 1 + 1 + 1, 0, none⟩ = false ∧ W.frozen? ⟨bb + 1 + 1 + 1, 1, none⟩ = false ∧ bb + 4 ≤ W.heap.size := fun W hW => ⟨hW.cell a0_0 (by show _ ≠ mb; simp; omega), hW.cell a0_1 (by show _ ≠ mb; simp; omega), hW.cell a0_2 (by show _ ≠ mb; simp; omega), hW.cell a1_0 (by show _ ≠ mb; simp; omega), hW.cell a2_0 (by show _ ≠ mb; simp; omega), hW.cell a3_0 (by show _ ≠ mb; simp; omega), hW.cell a3_1 (by show _ ≠ mb; simp; omega), (World.frozen?_of_block (w := w1) (a := ⟨bb + 1 + 1 + 1, 0, none⟩) (hW.block _ (by simp; omega) (by simp; omega))).trans b3_0, (World.frozen?_of_block (w := w1) (a := ⟨bb + 1 + 1 + 1, 1, none⟩) (hW.block _ (by simp; omega) (by simp; omega))).trans b3_1, Nat.le_trans aq hW.size⟩
  have HBE := Lib.hid (fun (W : World) (hW : Kept mb w1 W) => HB0.out.trans ((hW.below K_w1 hm0).mono (by omega)))
  have HK : Kept mb w1 w1 := Kept.refl _ _
  have HM := Lib.hid hm0
  clear a0_0 a0_1 a0_2 a1_0 a2_0 a3_0 a3_1 b3_0 b3_1 aq FA hH hmb K_w1
  go_wp2_with fail
  have HV0 := Lib.hid (fun (W : World) (hW : Kept mb w1 W) => HV.out.keeps (HBB.out.symm ▸ HBE.out W hW))
  have hF : ∀ W, Free.Bel w1.drew W → Kept mb w1 W := fun W hW => (HK.drew).trans (.of_below hW)
  refine Free.wp_free (R := Free.Bel) (by kernel_rfl) (by kernel_rfl) Free.Bel.refl Free.Bel.trans ?_
  refine Free.Chain.ex ?_ [] [10] (by kernel_rfl) (by kernel_rfl) rfl Free.Bel.refl ?_ ?_
  rotate_left 2
  simp only [an1, an2]
  refine Free.Chain.ex ?_ [] [1] (by kernel_rfl) (by kernel_rfl) rfl Free.Bel.refl ?_ ?_
  rotate_left 2
  simp only [an1, an2]
  rotate_left
  iterate 2 (rotate_left; intro ev W hb hR hO hD; have hS := hF W hR; obtain ⟨hb1, hb2, hb3⟩ := hb; simp only [Free.AllDeps, Free.AllOuts, Free.At, al1, al2, al3, al4, al5, and_true] at hO hD; go_simp; rfl)
  refine Free.Chain.pr (SlI [D]) [(1, 23)] [] (by kernel_rfl) (by kernel_rfl) rfl (SlI.stable _) ?_ ?_
  · (intro ev W hb hR hO hD; have hS := hF W hR; obtain ⟨hb1, hb2, hb3⟩ := hb; simp only [Free.AllDeps, Free.AllOuts, Free.At, al1, al2, al3, al4, al5, and_true] at hO hD; go_simp; exact ⟨belAlloc _ _, SlI.one _ _ _⟩)
  simp only [an1, an2]
  refine Free.Chain.pr (fun v _ => v = .int .i64 0) [(0, 22), (2, 24)] [] (by kernel_rfl) (by kernel_rfl) rfl (fun _ _ _ _ h => h) ?_ ?_
  · (intro ev W hb hR hO hD; have hS := hF W hR; obtain ⟨hb1, hb2, hb3⟩ := hb; simp only [Free.AllDeps, Free.AllOuts, Free.At, al1, al2, al3, al4, al5, and_true] at hO hD; go_simp; refine yields_enter ?_; (with_reducible refine (may_any hb lo hi [D] _ 0 _ (by simp [maxLen]) (HHo _ hS).lo (HHo _ hS).hi hD.2 hx.out).mono ?_); rintro e W2 ⟨rfl, hB2⟩; exact ⟨_, rfl, hB2, rfl⟩)
  simp only [an1, an2]
  refine Free.Chain.ex ?_ [] [7] (by kernel_rfl) (by kernel_rfl) rfl Free.Bel.refl ?_ ?_
  rotate_left 2
  simp only [an1, an2]
  rotate_left
  rotate_left
  · (intro ev W hb hR hO hD; have hS := hF W hR; obtain ⟨hb1, hb2, hb3⟩ := hb; simp only [Free.AllDeps, Free.AllOuts, Free.At, al1, al2, al3, al4, al5, and_true] at hO hD; go_simp; rfl)
  refine Free.Chain.pr (fun v _ => v = .int .i64 0) [(4, 26), (3, 25)] [] (by kernel_rfl) (by kernel_rfl) rfl (fun _ _ _ _ h => h) ?_ ?_
  · (intro ev W hb hR hO hD; have hS := hF W hR; obtain ⟨hb1, hb2, hb3⟩ := hb; simp only [Free.AllDeps, Free.AllOuts, Free.At, al1, al2, al3, al4, al5, and_true] at hO hD; go_simp; refine yields_enter ?_; (with_reducible refine (agreed_v ts (.slice pp ts.length cap) _ (HV0.out _ hS) 0 hy).mono ?_); rintro e W2 ⟨rfl, hB2⟩; exact ⟨_, rfl, hB2, rfl⟩)
  simp only [an1, an2]
  refine Free.Chain.ex ?_ [] [10] (by kernel_rfl) (by kernel_rfl) rfl Free.Bel.refl ?_ ?_
  rotate_left 2
  simp only [an1, an2]
  refine Free.Chain.ex ?_ [(6, 28)] [] (by kernel_rfl) (by kernel_rfl) rfl Free.Bel.refl ?_ ?_
  rotate_left 2
  simp only [an1, an2]
  refine Free.Chain.ex ?_ [(7, 29)] [] (by kernel_rfl) (by kernel_rfl) rfl Free.Bel.refl ?_ ?_
  rotate_left 2
  simp only [an1, an2]
  refine Free.Chain.ex ?_ [(8, 30)] [] (by kernel_rfl) (by kernel_rfl) rfl Free.Bel.refl ?_ ?_
  rotate_left 2
  simp only [an1, an2]
  refine Free.Chain.ex ?_ [(9, 31)] [] (by kernel_rfl) (by kernel_rfl) rfl Free.Bel.refl ?_ ?_
  rotate_left 2
  simp only [an1, an2]
  refine Free.Chain.ex ?_ [] [6] (by kernel_rfl) (by kernel_rfl) rfl Free.Bel.refl ?_ ?_
  rotate_left 2
  simp only [an1, an2]
  rotate_left
  iterate 6 (rotate_left; intro ev W hb hR hO hD; have hS := hF W hR; obtain ⟨hb1, hb2, hb3⟩ := hb; simp only [Free.AllDeps, Free.AllOuts, Free.At, al1, al2, al3, al4, al5, and_true] at hO hD; go_simp; rfl)
  refine Free.Chain.pr (SlI [o]) [(11, 33)] [] (by kernel_rfl) (by kernel_rfl) rfl (SlI.stable _) ?_ ?_
  · (intro ev W hb hR hO hD; have hS := hF W hR; obtain ⟨hb1, hb2, hb3⟩ := hb; simp only [Free.AllDeps, Free.AllOuts, Free.At, al1, al2, al3, al4, al5, and_true] at hO hD; go_simp; exact ⟨belAlloc _ _, SlI.one _ _ _⟩)
  simp only [an1, an2]
  refine Free.Chain.pr (fun v _ => v = .bool true) [(10, 32), (12, 34), (5, 27)] [] (by kernel_rfl) (by kernel_rfl) rfl (fun _ _ _ _ h => h) ?_ ?_
  · (intro ev W hb hR hO hD; have hS := hF W hR; obtain ⟨hb1, hb2, hb3⟩ := hb; simp only [Free.AllDeps, Free.AllOuts, Free.At, al1, al2, al3, al4, al5, and_true] at hO hD; go_simp; refine yields_enter ?_; (with_reducible refine (in_sl _ _ [o] true _ _ (by simp [maxLen]) hq.out hD.2.1).mono ?_); rintro e W2 ⟨rfl, hB2⟩; exact ⟨_, rfl, hB2, rfl⟩)
  simp only [an1, an2]
  refine Free.Chain.pr (fun v _ => v = .int .i64 0) [(13, 35), (13, 35)] [] (by kernel_rfl) (by kernel_rfl) rfl (fun _ _ _ _ h => h) ?_ ?_
  · (intro ev W hb hR hO hD; have hS := hF W hR; obtain ⟨hb1, hb2, hb3⟩ := hb; simp only [Free.AllDeps, Free.AllOuts, Free.At, al1, al2, al3, al4, al5, and_true] at hO hD; go_simp; refine yields_enter ?_; (with_reducible refine (unless_any true 2 0 _ hzz.out).mono ?_); rintro e W2 ⟨rfl, rfl⟩; exact ⟨_, rfl, Free.Bel.refl _, rfl⟩)
  simp only [an1, an2]
  refine Free.Chain.pr (SlI [0, 0, 0]) [(3, 25), (5, 27), (14, 36)] [] (by kernel_rfl) (by kernel_rfl) rfl (SlI.stable _) ?_ ?_
  · (intro ev W hb hR hO hD; have hS := hF W hR; obtain ⟨hb1, hb2, hb3⟩ := hb; simp only [Free.AllDeps, Free.AllOuts, Free.At, al1, al2, al3, al4, al5, and_true] at hO hD; go_simp; exact ⟨belAlloc _ _, SlI.three _ _ _ _ _⟩)
  simp only [an1, an2]
  refine Free.Chain.pr (fun v _ => v = .int .i64 0) [(15, 37), (14, 36)] [] (by kernel_rfl) (by kernel_rfl) rfl (fun _ _ _ _ h => h) ?_ ?_
  · (intro ev W hb hR hO hD; have hS := hF W hR; obtain ⟨hb1, hb2, hb3⟩ := hb; simp only [Free.AllDeps, Free.AllOuts, Free.At, al1, al2, al3, al4, al5, and_true] at hO hD; go_simp; refine yields_enter ?_; (with_reducible refine (first_sl [0, 0, 0] 0 _ _ (by simp [maxLen]) hz.out hD.1).mono ?_); rintro e W2 ⟨rfl, rfl⟩; exact ⟨_, rfl, Free.Bel.refl _, rfl⟩)
  simp only [an1, an2]
  refine Free.Chain.ex ?_ [(16, 38), (16, 38), (0, 22), (1, 23), (2, 24), (3, 25), (4, 26), (5, 27), (6, 28), (7, 29), (8, 30), (9, 31), (10, 32), (11, 33), (12, 34), (13, 35), (14, 36), (15, 37), (16, 38)] [] (by kernel_rfl) (by kernel_rfl) rfl Free.Bel.refl ?_ ?_
  rotate_left 2
  simp only [an1, an2]
  rotate_left
  rotate_left
  · (intro ev W hb hR hO hD; have hS := hF W hR; obtain ⟨hb1, hb2, hb3⟩ := hb; simp only [Free.AllDeps, Free.AllOuts, Free.At, al1, al2, al3, al4, al5, and_true] at hO hD; go_simp; rfl)
  intro xs w2 hR hV
  simp only [Free.AllV, Free.At, List.length_cons, List.length_nil, Nat.reduceAdd, List.getElem?_cons_succ, List.getElem?_cons_zero, true_and] at hV
  simp only [Free.putsFrom, Act.put, Nat.zero_add, Nat.reduceAdd, hV, List.setIfInBounds_toArray, List.set_cons_succ, List.set_cons_zero]
  have HK2 := hF w2 hR
  clear hR hV hF HK
  go_wp2_with fail
  have hbx := FB w2 HK2
  have hm2 : ∀ W, Kept mb w2 W → Kept mb w1 W := fun W hW => HK2.trans hW
  have h90 := Lib.hid (agreedE_mem hy.out)
  have h91 := Lib.hid (agreedE_pence hy.out)
  have MID := Lib.hid (middle_any hb N lo hi D o mb kb cb 70 #[.pointer (some ⟨bb + 1 + 1, 0, none⟩), .pointer (some ⟨bb + 1, 0, none⟩)] (fun k => offV ts o k) w2 (HHo _ HK2) (by omega) (by omega) (by omega) ho (fun k _ _ => offV_bound ts o k h91.out)
    ⟨enters_of Try.func70 (by kernel_rfl) rfl, fun W k hW h0 h1 => (fair1_any ts _ o k (bb + 1 + 1) (bb + 1) W (HV0.out W (hm2 W hW)) (by simp [FB W (hm2 W hW)]) (by simp [FB W (hm2 W hW)]) h90.out (by omega) (by omega)).mono fun e W' h => ⟨h.1, .of_below h.2⟩⟩)
  rw [hp.out] at MID
  clear hbx hm2
  refine MID.out.mono ?_
  rintro e w3 ⟨rfl, hK3⟩
  have HK3 : Kept mb w1 w3 := HK2.trans hK3
  have hz9 := FB w3 HK3
  obtain ⟨s0, s1⟩ := two_stores (w := w3) (b := bb + 1 + 1 + 1) (x := .int .i64 0) (y := .int .i64 0) (.int .i64 px) (.int .i64 py) (by simp [hz9]) (by simp [hz9])
  have hB9 := Lib.hid (((HBE.out _ HK3).setCell (p := ⟨bb + 1 + 1 + 1, 0, none⟩) (by show bb ≤ bb + 1 + 1 + 1; omega) (.int .i64 px)).setCell (p := ⟨bb + 1 + 1 + 1, 1, none⟩) (by show bb ≤ bb + 1 + 1 + 1; omega) (.int .i64 py))
  clear hK3 MID HK2
  go_wp2_with fail
  have hbb := HBB.out
  subst hbb
  exact bodyPost_ret (v := .tuple #[.agg #[.int .i64 px, .int .i64 py], .int .i64 0]) (by simp [results, Try.results29, go_sem, s0, s1]) rfl ⟨rfl, hB9.out⟩

theorem fair_any (N lo hi D o : Int) (xs : List (Int × Int)) (v : Value) (w : World) (hv : PL xs v w) :
    Calls Try.prog 29 #[.agg #[.int .i64 N, .int .i64 lo, .int .i64 hi], .int .i64 D, .int .i64 o, v] w fun e w' => e = .returned (fairAll N lo hi D o xs) ∧ Below w.heap.size w w' := by
  have hv' := hv
  obtain ⟨pp, cap, rfl, _, _⟩ := hv'
  cases hc : cargoB N lo hi
  · have := fair_a N lo hi D o xs pp cap w hv hc
    rw [fairAll, hc, if_pos rfl]
    exact this
  · rw [fairAll, hc, if_neg (by simp)]
    by_cases hz : fairE N lo hi D o xs = 0
    · have hm : inB lo hi [D] = true := by
        cases h : inB lo hi [D]
        · simp [fairE, h, unlessV, firstE] at hz
        · rfl
      have ha : agreedE xs = 0 := by
        by_cases h : agreedE xs = 0
        · exact h
        · simp [fairE, hm, unlessV, firstE, h] at hz
      have hq : inB 0 N [o] = true := by
        cases h : inB 0 N [o]
        · simp [fairE, hm, h, ha, unlessV, firstE] at hz
        · rfl
      rw [if_neg (by simp [hz])]
      obtain ⟨px, py, hp⟩ : ∃ px py : Int, partV (midI N D o (fun k => offV xs o k) (o + 1).toNat).toNat (chI N o).toNat = .agg #[.int .i64 px, .int .i64 py] := ⟨_, _, rfl⟩
      rw [hp]
      exact fair_c N lo hi D o xs pp cap w hv hc (by show _ = _; simp [hm, unlessV]) ha hq (by show _ = _; simp [unlessV]) (by show _ = _; simp [firstE]) (by simpa [inB] using hm) (by simpa [inB] using hq) px py hp
    · rw [if_pos hz]
      exact fair_b N lo hi D o xs pp cap w hv hc _ _ _ _ rfl rfl rfl rfl _ rfl (by simpa using hz)
end Go.Proofs.Ytfdbegohjlijoaa

