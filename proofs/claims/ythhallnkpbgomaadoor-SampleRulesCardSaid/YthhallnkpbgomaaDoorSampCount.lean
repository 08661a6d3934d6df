/- sample.counter and its closure: how many sets there are, told out of what is known already. -/
import Derived.Test.YthhallnkpbgomaaDoorSampWorld
import Derived.Deep.RegionHeld3
import Derived.Deep.DeepFit
import Derived.Laws.EntriesVeiled
namespace Go.Proofs.YthhallnkpbgomaaDoor
set_option linter.unusedSimpArgs false
set_option linter.unusedVariables false
open Go.RowKit Go.Proofs.YthhallnkpbgomaaDoor.ML Go.Proofs.YthhallnkpbgomaaDoor.Samp

theorem T.uPair : Tryd.prog.underlying 166 = some (.array 2 3) := by kernel_rfl
theorem T.uInt : Tryd.prog.underlying 3 = some (.int .i64) := by kernel_rfl
theorem T.cInt : Tryd.prog.cellsOf 3 = 1 := by kernel_rfl
theorem T.uMap : Tryd.prog.underlying 165 = some (.map 166 3) := by kernel_rfl
theorem T.zInt (w : World) : (zeroValue 3).run Tryd.prog w = .ok (.int .i64 0) w := by kernel_rfl
theorem T.pairs : KeyL Tryd.prog 166 pairV := pair_keys T.uPair T.uInt T.cInt

@[local go_sem] theorem T.eqPair (a b c d : Int) (w : World) :
    (Op.equalIn 10000 166 (.agg #[.int .i64 a, .int .i64 b]) (.agg #[.int .i64 c, .int .i64 d])).run Tryd.prog w = .ok (decide (a = c ∧ b = d)) w := by
  have := eqIn_pair T.uPair T.uInt T.cInt 9998 (a, b) (c, d) w
  simp only [pairV, Prod.mk.injEq] at this
  exact this

/-- A pair is looked up. -/
theorem Memo.look {mb : Nat} {w : World} (h : Memo mb w) (n k : Int) :
    (Instr.lookup 165 (.map (some mb)) (pairV (n, k)) true).run Tryd.prog w = .ok (.tuple #[.int .i64 0, .bool false]) w ∨
    ((Instr.lookup 165 (.map (some mb)) (pairV (n, k)) true).run Tryd.prog w = .ok (.tuple #[.int .i64 (chI n k), .bool true]) w ∧
     (Instr.lookup 165 (.map (some mb)) (pairV (n, k)) false).run Tryd.prog w = .ok (.int .i64 (chI n k)) w) := by
  obtain ⟨l, hl, hv⟩ := h
  have h1 := hl.lookup_ok T.pairs T.uMap (T.zInt w) (n, k)
  have h2 := hl.lookup T.pairs T.uMap (T.zInt w) (n, k)
  cases ha : assoc (n, k) l with
  | none => left; simpa [ha] using h1
  | some v =>
    right
    have := hv _ (assoc_mem ha)
    simp only at this
    subst this
    rw [ha] at h1 h2
    exact ⟨by simpa using h1, by simpa using h2⟩
/-- A pair is stored. -/
theorem Memo.store {mb : Nat} {w : World} (h : Memo mb w) (n k : Int) :
    ∃ w', (Instr.mapUpdate 165 (.map (some mb)) (pairV (n, k)) (.int .i64 (chI n k))).run Tryd.prog w = .ok () w' ∧ Kept mb w w' ∧
      (Instr.lookup 165 (.map (some mb)) (pairV (n, k)) false).run Tryd.prog w' = .ok (.int .i64 (chI n k)) w' := by
  obtain ⟨l, hl, hv⟩ := h
  obtain ⟨w', h1, h2, h3, h4⟩ := hl.update T.pairs T.uMap (n, k) (.int .i64 (chI n k))
  refine ⟨w', h1, ⟨h2.os, h2.tape, h2.output, h2.size, fun i hi hne => h2.block i hi (by simpa using hne), fun _ => ⟨_, h3, ?_⟩⟩, ?_⟩
  · intro y hy
    rcases mem_assocSet hy with rfl | hy
    · rfl
    · exact hv y hy
  · have := h3.lookup T.pairs T.uMap (T.zInt w') (n, k)
    rw [assoc_set_same] at this
    exact this

set_option maxRecDepth 100000 in
set_option maxHeartbeats 1000000 in
theorem count_zero (n : Int) (mb kb cb : Nat) (w : World) :
    Calls Tryd.prog 107 #[.int .i64 n, .int .i64 0, .pointer (some ⟨kb, 0, none⟩), .pointer (some ⟨cb, 0, none⟩)] w
      fun e w' => e = .returned (.int .i64 1) ∧ Kept mb w w' := by
  go_enter Tryd.func107, Tryd.ntmps107
  go_wp2_with fail
  go_ret
  exact ⟨rfl, (Kept.refl mb w).alloc _⟩

set_option maxRecDepth 100000 in
set_option maxHeartbeats 1000000 in
theorem count_out (n k : Int) (h0 : k ≠ 0) (h : k < 0 ∨ n < k) (mb kb cb : Nat) (w : World) :
    Calls Tryd.prog 107 #[.int .i64 n, .int .i64 k, .pointer (some ⟨kb, 0, none⟩), .pointer (some ⟨cb, 0, none⟩)] w
      fun e w' => e = .returned (.int .i64 0) ∧ Kept mb w w' := by
  rcases h with h | h
  · go_enter Tryd.func107, Tryd.ntmps107
    go_wp2_with fail
    go_ret
    exact ⟨rfl, (Kept.refl mb w).alloc _⟩
  · by_cases hk : k < 0
    · go_enter Tryd.func107, Tryd.ntmps107
      go_wp2_with fail
      go_ret
      exact ⟨rfl, (Kept.refl mb w).alloc _⟩
    · go_enter Tryd.func107, Tryd.ntmps107
      go_wp2_with fail
      go_ret
      exact ⟨rfl, (Kept.refl mb w).alloc _⟩

set_option maxRecDepth 100000 in
set_option maxHeartbeats 1000000 in
theorem count_hit (n k : Int) (h0 : k ≠ 0) (h1 : 0 ≤ k) (h2 : k ≤ n) (mb kb cb : Nat) (w : World)
    (hk : ∀ o, (w.alloc o).cell? ⟨kb, 0, none⟩ = some (.map (some mb)))
    (hl : ∀ o, (Instr.lookup 165 (.map (some mb)) (.agg #[.int .i64 n, .int .i64 k]) true).run Tryd.prog (w.alloc o) = .ok (.tuple #[.int .i64 (chI n k), .bool true]) (w.alloc o))
    (hl2 : ∀ o, (Instr.lookup 165 (.map (some mb)) (.agg #[.int .i64 n, .int .i64 k]) false).run Tryd.prog (w.alloc o) = .ok (.int .i64 (chI n k)) (w.alloc o)) :
    Calls Tryd.prog 107 #[.int .i64 n, .int .i64 k, .pointer (some ⟨kb, 0, none⟩), .pointer (some ⟨cb, 0, none⟩)] w
      fun e w' => e = .returned (.int .i64 (chI n k)) ∧ Kept mb w w' := by
  generalize chI n k = v at *
  have h0' : decide (k = 0) = false := by simpa using h0
  go_enter Tryd.func107, Tryd.ntmps107
  go_wp2_with fail
  go_ret
  exact ⟨rfl, (Kept.refl mb w).alloc _⟩

set_option maxRecDepth 100000 in
set_option maxHeartbeats 2000000 in
theorem count_miss (n k : Int) (hn : n ≤ 36) (h0 : k ≠ 0) (h1 : 0 ≤ k) (h2 : k ≤ n) (mb kb cb : Nat) (w : World)
    (ih1 : ∀ W, Ctr mb kb cb W → Calls Tryd.prog 107 #[.int .i64 (n - 1), .int .i64 (k - 1), .pointer (some ⟨kb, 0, none⟩), .pointer (some ⟨cb, 0, none⟩)] W
      fun e W' => e = .returned (.int .i64 (chI (n - 1) (k - 1))) ∧ Kept mb W W')
    (ih2 : ∀ W, Ctr mb kb cb W → Calls Tryd.prog 107 #[.int .i64 (n - 1), .int .i64 k, .pointer (some ⟨kb, 0, none⟩), .pointer (some ⟨cb, 0, none⟩)] W
      fun e W' => e = .returned (.int .i64 (chI (n - 1) k)) ∧ Kept mb W W')
    (hctr : Hid (Ctr mb kb cb w))
    (hk : ∀ o, (w.alloc o).cell? ⟨kb, 0, none⟩ = some (.map (some mb)))
    (hl : ∀ o, (Instr.lookup 165 (.map (some mb)) (.agg #[.int .i64 n, .int .i64 k]) true).run Tryd.prog (w.alloc o) = .ok (.tuple #[.int .i64 0, .bool false]) (w.alloc o)) :
    Calls Tryd.prog 107 #[.int .i64 n, .int .i64 k, .pointer (some ⟨kb, 0, none⟩), .pointer (some ⟨cb, 0, none⟩)] w
      fun e w' => e = .returned (.int .i64 (chI n k)) ∧ Kept mb w w' := by
  have hv := chI_step n k h0 h1 h2
  have b1 := chI_bound (n - 1) (k - 1) (by omega)
  have b2 := chI_bound (n - 1) k (by omega)
  have hst := fun (w : World) (h : Memo mb w) => Memo.store h n k
  rw [hv] at hst
  simp only [pairV] at hst
  generalize chI n k = v at *
  generalize chI (n - 1) (k - 1) = v1 at *
  generalize chI (n - 1) k = v2 at *
  have HV := Lib.hid hv
  have HS := Lib.hid hst
  have HI1 := Lib.hid ih1
  have HI2 := Lib.hid ih2
  clear hv hst ih1 ih2
  have h0' : decide (k = 0) = false := by simpa using h0
  go_enter Tryd.func107, Tryd.ntmps107
  go_wp2_with fail
  have K0 : Kept mb w (w.alloc (.cells #[.int .i64 n, .int .i64 k] 166)) := (Kept.refl mb w).alloc _
  have hs : w.heap.size < (w.alloc (.cells #[.int .i64 n, .int .i64 k] 166)).heap.size := by simp
  have a0 : (w.alloc (.cells #[.int .i64 n, .int .i64 k] 166)).cell? ⟨w.heap.size, 0, none⟩ = some (.int .i64 n) := by simp [go_sem]
  have a1 : (w.alloc (.cells #[.int .i64 n, .int .i64 k] 166)).cell? ⟨w.heap.size, 1, none⟩ = some (.int .i64 k) := by simp [go_sem]
  have C0 := hctr.out.kept K0
  have HK := Lib.hid K0
  have HC := Lib.hid C0
  clear hk hl K0 C0 hctr
  generalize w.alloc (.cells #[.int .i64 n, .int .i64 k] 166) = W at *
  have c1 := HC.out.known
  have c2 := HC.out.count
  unfold setsV at c2
  generalize w.heap.size = atb at *
  have ne0 := HC.out.memo.ne c1
  have ne1 := HC.out.memo.ne c2
  have ne2 := HC.out.memo.ne a0
  have keep : Hid (∀ W', Kept mb W W' → Ctr mb kb cb W' ∧ W'.cell? ⟨kb, 0, none⟩ = some (.map (some mb)) ∧ W'.cell? ⟨cb, 0, none⟩ = some (.func (.func 107) #[] #[.pointer (some ⟨kb, 0, none⟩), .pointer (some ⟨cb, 0, none⟩)]) ∧ W'.cell? ⟨atb, 0, none⟩ = some (.int .i64 n) ∧ W'.cell? ⟨atb, 1, none⟩ = some (.int .i64 k)) :=
    fun W' K => ⟨HC.out.kept K, K.cell c1 ne0, K.cell c2 ne1, K.cell a0 ne2, K.cell a1 ne2⟩
  have HN := Lib.hid (And.intro ne0 (And.intro ne1 ne2))
  clear ne0 ne1 ne2
  have q1 : IntKind.i64.wrap (n - 1) = n - 1 := IntWalk.i64_in _ (by omega)
  have q2 : IntKind.i64.wrap (k - 1) = k - 1 := IntWalk.i64_in _ (by omega)
  have q3 : IntKind.i64.wrap (v1 + v2) = v1 + v2 := IntWalk.i64_in _ (by omega)
  go_region_held3 (fun w' => w'.cell? ⟨kb, 0, none⟩ = some (.map (some mb)) ∧ w'.cell? ⟨cb, 0, none⟩ = some (.func (.func 107) #[] #[.pointer (some ⟨kb, 0, none⟩), .pointer (some ⟨cb, 0, none⟩)]) ∧ w'.cell? ⟨atb, 0, none⟩ = some (.int .i64 n) ∧ w'.cell? ⟨atb, 1, none⟩ = some (.int .i64 k)) (go_keep)
    (first
      | (go_at_call 107; ((with_reducible refine (HI1.out _ ?_).mono ?_); (exact (keep.out _ (Kept.refl mb W).drew).1); (rintro e W1 ⟨rfl, K1⟩); (have HK1 := Lib.hid ((Kept.refl mb W).drew.trans K1)); (obtain ⟨_, d1, d2, d3, d4⟩ := keep.out _ HK1.out); clear K1))
      | (go_at_call 107; ((with_reducible refine (HI2.out _ ?_).mono ?_); (exact (keep.out _ HK1.out).1); (rintro e W2 ⟨rfl, K2⟩); (have HK2 := Lib.hid (HK1.out.trans K2)); (obtain ⟨_, e1, e2, e3, e4⟩ := keep.out _ HK2.out); (obtain ⟨W3, f1, f2, f3⟩ := HS.out _ (keep.out _ HK2.out).1.memo); (have HK3 := Lib.hid (HK2.out.trans f2)); (obtain ⟨_, g1, g2, g3, g4⟩ := keep.out _ HK3.out); clear K2 f2))
      | fail)
  go_wp2_with fail
  go_ret
  exact ⟨by rw [HV.out]; rfl, HK.out.trans HK3.out⟩

theorem count_any (m : Nat) : ∀ (n k : Int) (mb kb cb : Nat) (w : World), n ≤ m → n ≤ 36 → Ctr mb kb cb w →
    Calls Tryd.prog 107 #[.int .i64 n, .int .i64 k, .pointer (some ⟨kb, 0, none⟩), .pointer (some ⟨cb, 0, none⟩)] w
      fun e w' => e = .returned (.int .i64 (chI n k)) ∧ Kept mb w w' := by
  induction m with
  | zero =>
    intro n k mb kb cb w hm hn hc
    by_cases h0 : k = 0
    · subst h0; rw [chI_zero]; exact count_zero n mb kb cb w
    · have h : k < 0 ∨ n < k := by omega
      rw [chI_out n k h0 h]; exact count_out n k h0 h mb kb cb w
  | succ m ih =>
    intro n k mb kb cb w hm hn hc
    by_cases h0 : k = 0
    · subst h0; rw [chI_zero]; exact count_zero n mb kb cb w
    by_cases h : k < 0 ∨ n < k
    · rw [chI_out n k h0 h]; exact count_out n k h0 h mb kb cb w
    have hk : ∀ o, (w.alloc o).cell? ⟨kb, 0, none⟩ = some (.map (some mb)) := fun o => ((Kept.refl mb w).alloc o).cell hc.known (hc.memo.ne hc.known)
    obtain ⟨l, hl, hv⟩ := hc.memo
    have key : ∀ o, MapIs pairV mb l (w.alloc o) := fun o => hl.of_block (Below.heap_alloc w o mb hl.lt)
    have h1 := fun o => (key o).lookup_ok T.pairs T.uMap (T.zInt (w.alloc o)) (n, k)
    have h2 := fun o => (key o).lookup T.pairs T.uMap (T.zInt (w.alloc o)) (n, k)
    simp only [pairV] at h1 h2
    cases ha : assoc (n, k) l with
    | none =>
      refine count_miss n k hn h0 (by omega) (by omega) mb kb cb w (fun W hW => ih _ _ mb kb cb W (by omega) (by omega) hW) (fun W hW => ih _ _ mb kb cb W (by omega) (by omega) hW) hc hk ?_
      intro o; have := h1 o; rw [ha] at this; simpa using this
    | some v =>
      have := hv _ (assoc_mem ha)
      simp only at this
      subst this
      refine count_hit n k h0 (by omega) (by omega) mb kb cb w hk ?_ ?_
      · intro o; have := h1 o; rw [ha] at this; simpa using this
      · intro o; have := h2 o; rw [ha] at this; simpa using this

/-- The counter's call through the value that it is. -/
theorem count_call (n k : Int) (mb kb cb : Nat) (w : World) (hn : n ≤ 36) (hc : Ctr mb kb cb w) :
    Calls Tryd.prog 107 #[.int .i64 n, .int .i64 k, .pointer (some ⟨kb, 0, none⟩), .pointer (some ⟨cb, 0, none⟩)] w
      fun e w' => e = .returned (.int .i64 (chI n k)) ∧ Kept mb w w' := count_any n.toNat n k mb kb cb w (by omega) hn hc

/-- A new counter. -/
def NewCtr (w : World) (e : Ending) (w' : World) : Prop := ∃ mb kb cb, e = .returned (setsV kb cb) ∧ Ctr mb kb cb w' ∧ w.heap.size ≤ mb ∧ Below w.heap.size w w'
theorem counter_any (w : World) : Calls Tryd.prog 92 #[] w (NewCtr w) := by
  have hmm := @run_makeMap Tryd.prog
  go_enter Tryd.func92, Tryd.ntmps92
  go_wp2_with fail
  go_ret
  refine ⟨w.heap.size, w.heap.size + 1, w.heap.size + 1 + 1, rfl, ⟨⟨[], ?_, by simp⟩, ?_, ?_⟩, Nat.le_refl _, ?_⟩
  · refine (MapIs.made pairV w).of_block ?_
    rw [Below.heap_alloc _ _ _ (by simp; omega), Below.heap_alloc _ _ _ (by simp)]
  · simp [go_sem]
  · simp [go_sem, setsV]
  · exact (((Below.refl _ w).alloc (Nat.le_refl _) _).alloc (by simp) _).alloc (by simp; omega) _
end Go.Proofs.YthhallnkpbgomaaDoor
