/- A watch at work, before it is known which states are good: begun. -/
import Derived.Test.YtknpglgpkkhhiaaDoorE3
import Derived.OrdersIn
import Derived.OwnWalkIn
namespace Go.Proofs.YtknpglgpkkhhiaaDoor
set_option linter.unusedSimpArgs false
set_option linter.unusedVariables false
open Go.RowKit Go.Proofs.YtknpglgpkkhhiaaDoor.Free2 Go.Proofs.YtknpglgpkkhhiaaDoor.ML RR
attribute [local go_sem] Oper.semAt_some

theorem states_any (yb : Nat) (w : World) : Calls Tryd.prog 108 #[.pointer (some ⟨yb, 0, none⟩)] w fun e w' => e = .returned (.func (.func 115) #[] #[.pointer (some ⟨w.heap.size, 0, none⟩)]) ∧ w.alloc (.cells #[.pointer (some ⟨yb, 0, none⟩)] 108) = w' := by
  go_enter Tryd.func108, Tryd.ntmps108
  go_wp2_with fail
  go_ret
  exact ⟨rfl, rfl⟩
/-- All states as keys, those in front. -/
def keysY (L : List (List Rk)) : List Q4 := L.foldl (fun K ys => addK (q4 (waits ys)) K) []
theorem keysY_snoc (L : List (List Rk)) (ys : List Rk) : keysY (L ++ [ys]) = addK (q4 (waits ys)) (keysY L) := by simp [keysY]
theorem keysY_ok : ∀ L : List (List Rk), (keysY L).Nodup ∧ ∀ q, q ∈ keysY L ↔ ∃ ys ∈ L, q = q4 (waits ys) := by
  have key : ∀ (L : List (List Rk)) (K : List Q4), K.Nodup → (L.foldl (fun K ys => addK (q4 (waits ys)) K) K).Nodup ∧ ∀ q, q ∈ L.foldl (fun K ys => addK (q4 (waits ys)) K) K ↔ q ∈ K ∨ ∃ ys ∈ L, q = q4 (waits ys) := by
    intro L
    induction L with
    | nil => exact fun K h => ⟨h, fun q => by simp⟩
    | cons a r ih =>
      intro K h
      obtain ⟨h1, h2⟩ := ih (addK (q4 (waits a)) K) (nodup_addK h)
      refine ⟨h1, fun q => ?_⟩
      rw [List.foldl_cons, h2, mem_addK]
      simp only [List.mem_cons, exists_eq_or_imp]
      constructor
      · rintro ((h3 | h3) | h3)
        · exact .inr (.inl h3)
        · exact .inl h3
        · exact .inr (.inr h3)
      · rintro (h3 | h3 | h3)
        · exact .inl (.inr h3)
        · exact .inl (.inl h3)
        · exact .inr h3
  intro L
  obtain ⟨h1, h2⟩ := key L [] List.nodup_nil
  exact ⟨h1, fun q => (h2 q).trans (by simp)⟩
theorem keysY_good {h : Int} {xs : List Rk} (hx : ∀ x ∈ xs, 1 ≤ x.2.1) : GoodIs h xs 0 (keysY (allY xs)) :=
  GoodIs.zero (keysY_ok _).1 fun q => by
    rw [(keysY_ok _).2]
    exact ⟨fun ⟨ys, hy, e⟩ => ⟨ys, (mem_allY hx).1 hy, e⟩, fun ⟨ys, hy, e⟩ => ⟨ys, (mem_allY hx).2 hy, e⟩⟩
/-- All turnings in order. -/
def allD (h : Int) (m : Nat) : List (Nat → Bool) := (daysI h.toNat m).map (addT fun _ => false)
def somD (k m : Nat) : List (Nat → Bool) := ((List.range k).flatMap fun n => comb m 0 n).map (addT fun _ => false)
theorem somD_succ (k m : Nat) : somD (k + 1) m = somD k m ++ (comb m 0 k).map (addT fun _ => false) := by simp [somD, List.range_succ]
theorem somD_len (k m : Nat) (hm : m ≤ 4) : k ≤ 4 → (somD k m).length ≤ k * 24 := by
  induction k with
  | zero => simp [somD]
  | succ k ih =>
    intro hk
    have h1 := comb_len k m 0 (Nat.zero_le _) hm (by omega)
    have h2 := ih (by omega)
    rw [somD_succ, List.length_append, List.length_map]
    omega
theorem comb_lt {m : Nat} : ∀ (k a : Nat) (l : List Nat), l ∈ comb m a k → ∀ i ∈ l, i < m
  | 0, a, l, h => by
    simp only [comb, List.mem_singleton] at h
    subst h
    simp
  | k + 1, a, l, h => by
    simp only [comb, List.mem_flatMap, List.mem_map, List.mem_range'_1] at h
    obtain ⟨i, ⟨h1, h2⟩, r, hr, rfl⟩ := h
    intro j hj
    rcases List.mem_cons.1 hj with rfl | hj
    · omega
    · exact comb_lt k (i + 1) r hr j hj
theorem tset_idsOf {xs : List Rk} (hw : risesB 0 xs = true) {l : List Nat} (hl : ∀ i ∈ l, i < xs.length) : tset xs (idsOf xs l) = addT (fun _ => false) l := by
  funext i
  unfold tset addT
  by_cases hi : i < xs.length
  · rw [List.getElem?_eq_getElem hi]
    simp only [Bool.false_or]
    rw [Bool.eq_iff_iff, List.contains_iff_mem, decide_eq_true_eq]
    have hx : xs[i].1 = idAt xs i := by simp [idAt, hi]
    rw [hx, idsOf, List.mem_map]
    constructor
    · rintro ⟨j, hj, e⟩
      have := ((idAt_mono hw j i (hl j hj) hi).1).1 e
      exact this ▸ hj
    · exact fun hj => ⟨i, hj, rfl⟩
  · rw [List.getElem?_eq_none (by omega)]
    have : i ∉ l := fun h => hi (hl i h)
    simp [this]
theorem allD_eq {h : Int} {xs : List Rk} (hw : watchB h xs = true) : allD h xs.length = D7 h xs := by
  obtain ⟨_, _, h3⟩ := watchB_iff.1 hw
  unfold allD D7 daysL
  rw [List.map_map]
  refine List.map_congr_left fun l hl => ?_
  simp only [daysI, List.mem_flatMap, List.mem_range] at hl
  obtain ⟨n, _, hl⟩ := hl
  exact (tset_idsOf h3 (comb_lt n 0 l hl)).symm
/-- What begun leaves. -/
def BegunPost (h : Int) (xs : List Rk) (w : World) (e : Ending) (w' : World) : Prop :=
  ∃ yb gb dv u, e = .returned (.pointer (some ⟨yb, 0, none⟩)) ∧ YW yb gb h xs u dv w' ∧ MapIs quadV gb (setK (keysY (allY xs))) w' ∧ w.heap.size ≤ yb ∧ w.heap.size ≤ gb ∧ gb ≠ yb ∧ Below w.heap.size w w'
theorem grown_row {a b c : World} {g : Nat} {row : Option Nat} (h : a.grownBy b (some g)) (k : b.grownBy c row) (hn : ∀ r, row = some r → a.heap.size ≤ r) : a.grownBy c (some g) :=
  ⟨k.os.trans h.os, k.tape.trans h.tape, k.output.trans h.output, Nat.le_trans h.size k.size, fun i hi hne => (k.block i (Nat.lt_of_lt_of_le hi h.size) (fun e => by have := hn i e.symm; omega)).trans (h.block i hi hne)⟩
theorem grown_ri {a b c : World} {g n0 : Nat} (h : a.grownBy b (some g)) (k : RI n0 b c) (hn : a.heap.size ≤ n0) : a.grownBy c (some g) :=
  ⟨k.below.os.trans h.os, k.below.tape.trans h.tape, k.below.output.trans h.output, Nat.le_trans h.size k.below.size, fun i hi hne => (k.below.block i (by omega)).trans (h.block i hi hne)⟩
theorem choose_zero (base yB wB cB yb : Nat) (h : Int) (p : Option Addr) (m cp gb k : Nat) (hm4 : m ≤ 4) (hk : k ≤ 3) (hb : yB < base ∧ wB < base ∧ cB < base ∧ yb < base ∧ yB ≠ yb ∧ wB ≠ yb ∧ cB ≠ yb) (v : Value) (w : World) (H : CY base yB wB cB yb h p m cp gb v (somD k m) w) (hbs : base ≤ w.heap.size) :
    Calls Tryd.prog 107 #[.agg #[.bool false, .bool false, .bool false, .bool false], .int .i64 0, .int .i64 k, .pointer (some ⟨yB, 0, none⟩), .pointer (some ⟨wB, 0, none⟩), .pointer (some ⟨cB, 0, none⟩)] w fun e w' => (∃ x, e = .returned x) ∧ ∃ v', CY base yB wB cB yb h p m cp gb v' (somD (k + 1) m) w' ∧ RowX yb v w v' w' := by
  have h1 := somD_len k m hm4 (by omega)
  have h2 : 5 ^ k ≤ 125 := Nat.le_trans (Nat.pow_le_pow_right (by omega) hk) (by decide)
  have := choose_any base yB wB cB yb h p m cp gb hm4 hb k hk v (somD k m) (fun _ => false) 0 w H hbs (by omega) (Nat.zero_le _)
  rw [← somD_succ] at this
  exact this
theorem RI_kc {a b : World} (h : RI a.heap.size a b) : KC a b := ⟨h.below.os, h.below.tape, h.below.output, h.below.size, fun k o h1 _ => (h.below.block k (lt_of_heap h1)).trans h1⟩

set_option maxRecDepth 100000 in
set_option maxHeartbeats 16000000 in
theorem begun_any (h : Int) (xs : List Rk) (u : Value) (w : World) (hu : RL xs u w) (hw : watchB h xs = true) :
    Calls Tryd.prog 89 #[.agg #[.int .i64 h, u]] w (BegunPost h xs w) := by
  have hmm := @run_makeMap Tryd.prog
  have hmx : Tryd.prog.follows .mixedOrders = true := by kernel_rfl
  have HU := Lib.hid hu
  obtain ⟨p, cp, rfl, _, _⟩ := hu
  have hwi := watchB_iff.1 hw
  have hh := hwi.1
  obtain ⟨hn, rfl⟩ : ∃ n : Nat, h = (n : Int) := ⟨h.toNat, by omega⟩
  have hwr : IntKind.i64.wrap ((hn : Int) + 1) = (hn : Int) + 1 := IntWalk.i64_in _ (by omega)
  have HW := Lib.hid hw
  have HOK := Lib.hid (watchB_ok hw)
  have H4 := Lib.hid hwi.2.1
  have KB : Free.Bel w (((((w.alloc (.cells #[.int .i64 hn, .slice p xs.length cp] 24)).alloc (.map #[] 0)).alloc (.cells #[.int .i64 hn, .slice p xs.length cp, .map (some (w.heap.size + 1)), .slice none 0 0] 144)).alloc (.cells #[.pointer (some ⟨w.heap.size + 1 + 1, 0, none⟩)] 108)).alloc (.cells #[.func (.func 107) #[] #[.pointer (some ⟨w.heap.size + 1 + 1 + 1, 0, none⟩), .pointer (some ⟨w.heap.size, 0, none⟩), .pointer (some ⟨w.heap.size + 1 + 1 + 1 + 1, 0, none⟩)]] 164)) := Bel.allocT (Bel.allocT (Bel.allocT (Bel.allocT (Bel.allocT (Free.Bel.refl _) _) _) _) _) _
  have m0 : (((((w.alloc (.cells #[.int .i64 hn, .slice p xs.length cp] 24)).alloc (.map #[] 0)).alloc (.cells #[.int .i64 hn, .slice p xs.length cp, .map (some (w.heap.size + 1)), .slice none 0 0] 144)).alloc (.cells #[.pointer (some ⟨w.heap.size + 1 + 1, 0, none⟩)] 108)).alloc (.cells #[.func (.func 107) #[] #[.pointer (some ⟨w.heap.size + 1 + 1 + 1, 0, none⟩), .pointer (some ⟨w.heap.size, 0, none⟩), .pointer (some ⟨w.heap.size + 1 + 1 + 1 + 1, 0, none⟩)]] 164)).heap[w.heap.size]? = some (.cells #[.int .i64 hn, .slice p xs.length cp] 24 (0, 0)) := heap_old (heap_old (heap_old (heap_old (World.alloc_heap_new w _))))
  have mm : MapIs quadV (w.heap.size + 1) (setK []) (((((w.alloc (.cells #[.int .i64 hn, .slice p xs.length cp] 24)).alloc (.map #[] 0)).alloc (.cells #[.int .i64 hn, .slice p xs.length cp, .map (some (w.heap.size + 1)), .slice none 0 0] 144)).alloc (.cells #[.pointer (some ⟨w.heap.size + 1 + 1, 0, none⟩)] 108)).alloc (.cells #[.func (.func 107) #[] #[.pointer (some ⟨w.heap.size + 1 + 1 + 1, 0, none⟩), .pointer (some ⟨w.heap.size, 0, none⟩), .pointer (some ⟨w.heap.size + 1 + 1 + 1 + 1, 0, none⟩)]] 164)) := by
    have h9 := MapIs.made quadV (w.alloc (.cells #[.int .i64 hn, .slice p xs.length cp] 24))
    simp only [World.size_alloc] at h9
    exact ((h9.bel (belAlloc _ _)).bel (belAlloc _ _)).bel (belAlloc _ _)
  have m2 : (((((w.alloc (.cells #[.int .i64 hn, .slice p xs.length cp] 24)).alloc (.map #[] 0)).alloc (.cells #[.int .i64 hn, .slice p xs.length cp, .map (some (w.heap.size + 1)), .slice none 0 0] 144)).alloc (.cells #[.pointer (some ⟨w.heap.size + 1 + 1, 0, none⟩)] 108)).alloc (.cells #[.func (.func 107) #[] #[.pointer (some ⟨w.heap.size + 1 + 1 + 1, 0, none⟩), .pointer (some ⟨w.heap.size, 0, none⟩), .pointer (some ⟨w.heap.size + 1 + 1 + 1 + 1, 0, none⟩)]] 164)).heap[w.heap.size + 1 + 1]? = some (.cells #[.int .i64 hn, .slice p xs.length cp, .map (some (w.heap.size + 1)), .slice none 0 0] 144 (0, 0)) := heap_old (heap_old (by
    have := World.alloc_heap_new ((w.alloc (.cells #[.int .i64 hn, .slice p xs.length cp] 24)).alloc (.map #[] 0)) (.cells #[.int .i64 hn, .slice p xs.length cp, .map (some (w.heap.size + 1)), .slice none 0 0] 144)
    simpa using this))
  have m3 : (((((w.alloc (.cells #[.int .i64 hn, .slice p xs.length cp] 24)).alloc (.map #[] 0)).alloc (.cells #[.int .i64 hn, .slice p xs.length cp, .map (some (w.heap.size + 1)), .slice none 0 0] 144)).alloc (.cells #[.pointer (some ⟨w.heap.size + 1 + 1, 0, none⟩)] 108)).alloc (.cells #[.func (.func 107) #[] #[.pointer (some ⟨w.heap.size + 1 + 1 + 1, 0, none⟩), .pointer (some ⟨w.heap.size, 0, none⟩), .pointer (some ⟨w.heap.size + 1 + 1 + 1 + 1, 0, none⟩)]] 164)).heap[w.heap.size + 1 + 1 + 1]? = some (.cells #[.pointer (some ⟨w.heap.size + 1 + 1, 0, none⟩)] 108 (0, 0)) := heap_old (by
    have := World.alloc_heap_new (((w.alloc (.cells #[.int .i64 hn, .slice p xs.length cp] 24)).alloc (.map #[] 0)).alloc (.cells #[.int .i64 hn, .slice p xs.length cp, .map (some (w.heap.size + 1)), .slice none 0 0] 144)) (.cells #[.pointer (some ⟨w.heap.size + 1 + 1, 0, none⟩)] 108)
    simpa using this)
  have m4 : (((((w.alloc (.cells #[.int .i64 hn, .slice p xs.length cp] 24)).alloc (.map #[] 0)).alloc (.cells #[.int .i64 hn, .slice p xs.length cp, .map (some (w.heap.size + 1)), .slice none 0 0] 144)).alloc (.cells #[.pointer (some ⟨w.heap.size + 1 + 1, 0, none⟩)] 108)).alloc (.cells #[.func (.func 107) #[] #[.pointer (some ⟨w.heap.size + 1 + 1 + 1, 0, none⟩), .pointer (some ⟨w.heap.size, 0, none⟩), .pointer (some ⟨w.heap.size + 1 + 1 + 1 + 1, 0, none⟩)]] 164)).heap[w.heap.size + 1 + 1 + 1 + 1]? = some (.cells #[.func (.func 107) #[] #[.pointer (some ⟨w.heap.size + 1 + 1 + 1, 0, none⟩), .pointer (some ⟨w.heap.size, 0, none⟩), .pointer (some ⟨w.heap.size + 1 + 1 + 1 + 1, 0, none⟩)]] 164 (0, 0)) := by
    have := World.alloc_heap_new ((((w.alloc (.cells #[.int .i64 hn, .slice p xs.length cp] 24)).alloc (.map #[] 0)).alloc (.cells #[.int .i64 hn, .slice p xs.length cp, .map (some (w.heap.size + 1)), .slice none 0 0] 144)).alloc (.cells #[.pointer (some ⟨w.heap.size + 1 + 1, 0, none⟩)] 108)) (.cells #[.func (.func 107) #[] #[.pointer (some ⟨w.heap.size + 1 + 1 + 1, 0, none⟩), .pointer (some ⟨w.heap.size, 0, none⟩), .pointer (some ⟨w.heap.size + 1 + 1 + 1 + 1, 0, none⟩)]] 164)
    simpa using this
  have hCY : CY (w.heap.size + 5) (w.heap.size + 1 + 1 + 1) w.heap.size (w.heap.size + 1 + 1 + 1 + 1) (w.heap.size + 1 + 1) hn p xs.length cp (w.heap.size + 1) (.slice none 0 0) (somD 0 xs.length) (((((w.alloc (.cells #[.int .i64 hn, .slice p xs.length cp] 24)).alloc (.map #[] 0)).alloc (.cells #[.int .i64 hn, .slice p xs.length cp, .map (some (w.heap.size + 1)), .slice none 0 0] 144)).alloc (.cells #[.pointer (some ⟨w.heap.size + 1 + 1, 0, none⟩)] 108)).alloc (.cells #[.func (.func 107) #[] #[.pointer (some ⟨w.heap.size + 1 + 1 + 1, 0, none⟩), .pointer (some ⟨w.heap.size, 0, none⟩), .pointer (some ⟨w.heap.size + 1 + 1 + 1 + 1, 0, none⟩)]] 164)) := ⟨m3, m0, m4, m2, World.ownsRow_nil _ _ _ _⟩
  have HB5 := Lib.hid (And.intro KB (And.intro hCY (And.intro mm (show (((((w.alloc (.cells #[.int .i64 hn, .slice p xs.length cp] 24)).alloc (.map #[] 0)).alloc (.cells #[.int .i64 hn, .slice p xs.length cp, .map (some (w.heap.size + 1)), .slice none 0 0] 144)).alloc (.cells #[.pointer (some ⟨w.heap.size + 1 + 1, 0, none⟩)] 108)).alloc (.cells #[.func (.func 107) #[] #[.pointer (some ⟨w.heap.size + 1 + 1 + 1, 0, none⟩), .pointer (some ⟨w.heap.size, 0, none⟩), .pointer (some ⟨w.heap.size + 1 + 1 + 1 + 1, 0, none⟩)]] 164)).heap.size = w.heap.size + 5 by simp))))
  have c0 : (((((w.alloc (.cells #[.int .i64 hn, .slice p xs.length cp] 24)).alloc (.map #[] 0)).alloc (.cells #[.int .i64 hn, .slice p xs.length cp, .map (some (w.heap.size + 1)), .slice none 0 0] 144)).alloc (.cells #[.pointer (some ⟨w.heap.size + 1 + 1, 0, none⟩)] 108)).alloc (.cells #[.func (.func 107) #[] #[.pointer (some ⟨w.heap.size + 1 + 1 + 1, 0, none⟩), .pointer (some ⟨w.heap.size, 0, none⟩), .pointer (some ⟨w.heap.size + 1 + 1 + 1 + 1, 0, none⟩)]] 164)).cell? ⟨w.heap.size, 0, none⟩ = some (.int .i64 hn) := cell_of_heap m0 rfl
  clear hwi hw KB m0 mm m2 m3 m4 hCY
  refine (callsIn_wide (n := 5)).1 ?_
  refine callsIn_of_wp_marks Tryd.func89 rfl trivial ?_ rfl
  simp only [Tryd.ntmps89, List.size_toArray, List.length_cons, List.length_nil, Nat.reduceAdd, Nat.reduceSub, Array.replicate_succ, Array.replicate_zero, List.push_toArray, List.append_toArray, an1, an2]
  refine wpIn_wide.2 ?_
  go_wp2_with fail
  clear c0
  go_loopw [15] (fun i wr => ∃ (k : Nat) (v : Value), k ≤ hn + 1 ∧ i = .int .i64 k ∧ CY (w.heap.size + 5) (w.heap.size + 1 + 1 + 1) w.heap.size (w.heap.size + 1 + 1 + 1 + 1) (w.heap.size + 1 + 1) hn p xs.length cp (w.heap.size + 1) v (somD k xs.length) wr ∧ RowX (w.heap.size + 1 + 1) (.slice none 0 0) (((((w.alloc (.cells #[.int .i64 hn, .slice p xs.length cp] 24)).alloc (.map #[] 0)).alloc (.cells #[.int .i64 hn, .slice p xs.length cp, .map (some (w.heap.size + 1)), .slice none 0 0] 144)).alloc (.cells #[.pointer (some ⟨w.heap.size + 1 + 1, 0, none⟩)] 108)).alloc (.cells #[.func (.func 107) #[] #[.pointer (some ⟨w.heap.size + 1 + 1 + 1, 0, none⟩), .pointer (some ⟨w.heap.size, 0, none⟩), .pointer (some ⟨w.heap.size + 1 + 1 + 1 + 1, 0, none⟩)]] 164)) v wr) (fun i _ => hn + 1 - (intOf i).toNat)
  case atStart => exact ⟨0, _, Nat.zero_le _, rfl, HB5.out.2.1, RowX.refl _ _ _⟩
  case round =>
    obtain ⟨k, v, hk, rfl, hC, hX⟩ := hrel
    have HC := Lib.hid (And.intro hC hX)
    have c1 := cell_of_heap (o := 0) hC.c rfl
    by_cases hlt : k < hn + 1
    · have hki : (k : Int) < (hn : Int) + 1 := by omega
      have hkw : IntKind.i64.wrap ((k : Int) + 1) = (k : Int) + 1 := IntWalk.i64_in _ (by omega)
      have HCON := Lib.hid (choose_zero _ _ _ _ _ _ _ _ _ _ k H4.out (by omega) ⟨by omega, by omega, by omega, by omega, by omega, by omega, by omega⟩ v wr hC (by have := hX.size; have := HB5.out.2.2.2; omega))
      clear hC hX
      go_wp2_with fail
      refine HCON.out.mono ?_
      rintro e w5 ⟨⟨x, rfl⟩, v', hC5, hX5⟩
      have HC5 := Lib.hid (And.intro hC5 hX5)
      clear hC5 hX5 c1
      go_wp2_with fail
      go_roundw
      case rel => exact ⟨k + 1, v', by omega, by go_num, HC5.out.1, HC.out.2.trans HC5.out.2⟩
      case measure => simp [intOf]; omega
    · obtain rfl : k = hn + 1 := by omega
      have y0 := cell_of_heap (o := 0) hC.y rfl
      have hki : ¬ ((hn + 1 : Nat) : Int) < (hn : Int) + 1 := by omega
      clear hC hX c1
      go_wp2_with fail
      refine (states_any (w.heap.size + 1 + 1) wr).mono ?_
      rintro e w3 ⟨rfl, hw3⟩
      have KS : Free.Bel wr w3 := by rw [← hw3]; exact belAlloc _ _
      have mS : w3.heap[wr.heap.size]? = some (.cells #[.pointer (some ⟨w.heap.size + 1 + 1, 0, none⟩)] 108 (0, 0)) := by rw [← hw3]; exact World.alloc_heap_new wr _
      have hs3 : w3.heap.size = wr.heap.size + 1 := by rw [← hw3]; simp
      clear hw3 y0
      go_wp2_with fail
      obtain ⟨hC, hX⟩ := HC.out
      have hrow := bel_row hC.row KS
      have htl := TL.of_row (D := somD (hn + 1) xs.length) rfl (by have h9 := somD_len (hn + 1) xs.length H4.out (by omega); unfold maxLen; omega) hrow
      have hyc := (KS.block _ (lt_of_heap hC.yard)).trans hC.yard
      have hy3 := (KS.block _ (lt_of_heap hC.y)).trans hC.y
      have hB3 : Below w.heap.size w w3 := Below.trans (show Below w.heap.size w _ from HB5.out.1) (Below.trans (hX.below (base := w.heap.size + 5) (e := 149) (size := 4) (n := 0) (xs := []) (World.ownsRow_nil _ _ _ _) (s := w.heap.size) (by omega) (by have := HB5.out.2.2.2; omega) (by omega)) (Below.mono KS (by have := hX.size; have := HB5.out.2.2.2; omega)))
      have hm3 : MapIs quadV (w.heap.size + 1) (setK []) w3 := (HB5.out.2.2.1.of_block (hX.keep (w.heap.size + 1) (by have := HB5.out.2.2.2; omega) (by omega) (by simp [Off, Value.ownBlock])).2).bel KS
      have hsz3 : w.heap.size + 5 ≤ wr.heap.size := by have := hX.size; have := HB5.out.2.2.2; omega
      have hrl3 : RL xs (.slice p xs.length cp) w3 := HU.out.keeps hB3
      have hx16 : ∀ x ∈ xs, 1 ≤ x.2.1 ∧ x.2.1 ≤ 6 := fun x hx => ⟨(HOK.out x hx).2.2.1, (HOK.out x hx).2.2.2.1⟩
      have hseq : SeqL Fence.wide (5 - 1) Tryd.prog 115 #[.pointer (some ⟨wr.heap.size, 0, none⟩)] encY (RI w3.heap.size) KC (allY xs) w3 := fun l J Jx W hW hJ hJx hY h0 =>
        states1_in (5 - 1) l w3.heap.size wr.heap.size (w.heap.size + 1 + 1) xs (.slice p xs.length cp) (by omega) w3 W hx16 H4.out hrl3 (cell_of_heap mS rfl) (cell_of_heap hyc rfl) (Nat.le_refl _) hW.below.size (RI_kc hW) J Jx hJ hY h0
      have HSEQ := Lib.hid hseq
      have HFI := Lib.hid (And.intro hyc (And.intro hy3 (And.intro hB3 (And.intro hm3 (And.intro hrl3 (And.intro htl (And.intro hsz3 (fun x hx => (hx16 x hx).1))))))))
      have HS3 := Lib.hid hs3
      clear hseq hrow htl hyc hy3 hB3 hm3 hsz3 hrl3 hx16 mS KS hs3 hC hX
      obtain ⟨n3, hn3⟩ : ∃ y, y = w3.heap.size := ⟨_, rfl⟩
      have HN3 := Lib.hid hn3
      clear hn3
      refine (wpIn_wide (n := 5)).1 ?_
      refine wpIn_rangeFunc_RS (F := Fence.wide) (n := 5) rfl (by omega) (gf := 115) (lb := #[.pointer (some ⟨wr.heap.size, 0, none⟩)]) rfl trivial (enters_of Tryd.func115 (by kernel_rfl) rfl)
        HSEQ.out (fun A b hA h => h.trans (.of_bel (belAlloc A b) hA)) (RI.refl _ _) (fun A B k b h _ hc hA => h.other k b hA hc)
        KC.trans (fun W l b b' hl h hc _ => KC.put h hc) (fun _ => rfl)
        (fun pre W => MapIs quadV (w.heap.size + 1) (setK (keysY pre)) W ∧ w3.grownBy W (some (w.heap.size + 1)))
        (fun _ _ _ => False)
        ?own (fun _ _ _ _ _ hs _ _ => hs) ?abide (fun _ _ _ _ hs _ => hs)
        ⟨HFI.out.2.2.2.1, World.grownBy.refl _ _⟩
        (fun x a' W => ∃ B, w3.heap.size ≤ B ∧ W.heap[B]? = some (.cells (arrV (waits x)) 109 (0, 0)) ∧ a' = { tmps := #[.agg #[.int .i64 hn, .slice p xs.length cp], .pointer (some ⟨w.heap.size, 0, none⟩), .pointer none, .pointer (some ⟨w.heap.size + 1 + 1 + 1, 0, none⟩), .pointer (some ⟨w.heap.size + 1 + 1 + 1 + 1, 0, none⟩), u5, .pointer (some ⟨B, 0, none⟩), .agg #[.int .i64 hn, .slice p xs.length cp], .map (some (w.heap.size + 1)), .agg #[.int .i64 hn, .slice p xs.length cp, .map (some (w.heap.size + 1)), .slice none 0 0], .pointer (some ⟨w.heap.size + 1 + 1, 0, none⟩), .func (.func 107) #[] #[.pointer (some ⟨w.heap.size + 1 + 1 + 1, 0, none⟩), .pointer (some ⟨w.heap.size, 0, none⟩), .pointer (some ⟨w.heap.size + 1 + 1 + 1 + 1, 0, none⟩)], .pointer (some ⟨w.heap.size, 0, none⟩), .int .i64 hn, .int .i64 (hn + 1), .int .i64 (hn + 1), .bool false, u17, u18, u19, u20, u21, u22, .pointer (some ⟨w.heap.size + 1 + 1, 0, none⟩), .func (.func 115) #[] #[.pointer (some ⟨wr.heap.size, 0, none⟩)], stV (waits x), undef, undef, undef, undef, undef, undef], defers := [] })
        ?hAx ?assign ?body ?done ?stop
      case own =>
        rintro pre A B row ⟨hm, hg⟩ hgr hrow
        have hlt : w.heap.size + 1 < w3.heap.size := HFI.out.2.2.2.1.lt
        exact ⟨hm.kept hgr (fun e => by have := (hrow _ e.symm).1; omega), grown_row hg hgr fun r e => (hrow r e).1⟩
      case abide =>
        rintro pre A B ⟨hm, hg⟩ hR
        have hlt : w.heap.size + 1 < w3.heap.size := HFI.out.2.2.2.1.lt
        exact ⟨hm.of_block (hR.below.block _ hlt), grown_ri hg hR (Nat.le_refl _)⟩
      case hAx =>
        rintro x a' _ A B row ⟨b, hb, hh, rfl⟩ hgr hrow
        refine ⟨b, hb, heap_grown hh hgr (fun e => ?_), rfl⟩
        obtain ⟨_, o, ho, hc⟩ := hrow b e.symm
        rw [hh] at ho
        cases ho
        cases hc
      case assign =>
        intro l pre x W K hI hpre hK
        have c9 : (W.alloc (.cells (arrV (waits x)) 109)).heap[W.heap.size]? = _ := World.alloc_heap_new W _
        gi_wp2
        exact hK _ _ ((KeepsOthers.alloc W _).from _) (.of_bel (belAlloc W _)) ⟨hI.1.bel (belAlloc _ _), grown_bel hI.2 (belAlloc _ _)⟩ ⟨W.heap.size, hI.2.size, c9, rfl⟩
      case body =>
        rintro l pre x a' W ⟨hm, hg⟩ ⟨b, hb, hh, rfl⟩ hpre
        have hKC : KC w3 W := (fun ⟨o, h1, h2⟩ => KC.of_grown hg h1 h2) HFI.out.2.2.2.1.obj
        have z0 : W.drew.cell? ⟨w.heap.size + 1 + 1 + 1, 0, none⟩ = some (.pointer (some ⟨w.heap.size + 1 + 1, 0, none⟩)) := hKC.cell (cell_of_heap HFI.out.2.1 rfl)
        have z1 : W.drew.cell? ⟨w.heap.size + 1 + 1, 2, none⟩ = some (.map (some (w.heap.size + 1))) := hKC.cell (cell_of_heap HFI.out.1 rfl)
        obtain ⟨y0, y1, y2, y3, _⟩ := cells4 (show W.drew.heap[b]? = _ from hh)
        obtain ⟨w6, hup, hg6, hm6, hs6⟩ := good_update (show MapIs quadV (w.heap.size + 1) (setK (keysY pre)) W.drew from hm) (waits x)
        have hg6' : W.grownBy w6 (some (w.heap.size + 1)) := grown_drew hg6
        have hlt : w.heap.size + 1 < w3.heap.size := HFI.out.2.2.2.1.lt
        have HP := Lib.hid (And.intro hm6 (And.intro hg6' (And.intro hg (And.intro hm hlt))))
        clear hm6 hg6' hg6 hg hm hKC hs6 hlt hh hb
        gi_wp2
        gi_region_with_o (fail)
        all_goals
          obtain ⟨hm6, hg6', hg, hm, hlt⟩ := HP.out
          obtain ⟨o, h1, h2⟩ := hm.obj
          exact ⟨KeepsFrom.of_grownBy hg6' (by simp; omega), KC.of_grown hg6' h1 h2, by rw [keysY_snoc]; exact hm6, hg.trans hg6'⟩
      case done =>
        rintro D W hD ⟨hm, hg⟩ hKD
        have hKC : KC w3 W := (fun ⟨o, h1, h2⟩ => KC.of_grown hg h1 h2) HFI.out.2.2.2.1.obj
        have z0 : W.cell? ⟨w.heap.size + 1 + 1 + 1, 0, none⟩ = some (.pointer (some ⟨w.heap.size + 1 + 1, 0, none⟩)) := hKC.cell (cell_of_heap HFI.out.2.1 rfl)
        have HKC := Lib.hid hKC
        have HMG := Lib.hid (And.intro hm hg)
        clear hKC hm hg
        go_wp2_with fail
        refine ⟨by simp, .inl ⟨_, _, rfl, run_takeDeferred hKD, ?_⟩⟩
        have hlt : w.heap.size + 1 < w3.heap.size := HFI.out.2.2.2.1.lt
        have hKP : KC W (W.putObj D (.deferred none)) := KC.put hKD rfl
        have hKA := HKC.out.trans hKP
        have hyw : YW (w.heap.size + 1 + 1) (w.heap.size + 1) hn xs (.slice p xs.length cp) v w3 := ⟨cell_of_heap HFI.out.1 rfl, cell_of_heap HFI.out.1 rfl, cell_of_heap HFI.out.1 rfl, HFI.out.2.2.2.2.1, by rw [← allD_eq HW.out]; exact HFI.out.2.2.2.2.2.1⟩
        refine ⟨_, results_tmp rfl _ _ _, w.heap.size + 1 + 1, w.heap.size + 1, v, .slice p xs.length cp, rfl, hyw.kc hKA, HMG.out.1.of_block (World.putObj_heap_other (by omega)), by omega, by omega, by omega, ?_⟩
        refine HFI.out.2.2.1.trans (Below.trans (b := W) ⟨HMG.out.2.os, HMG.out.2.tape, HMG.out.2.output, HMG.out.2.size, fun k hk => HMG.out.2.block k (by omega) (by simp; omega)⟩ (Below.putNew _ (by omega)))
      case stop =>
        rintro D c pre W _ _ h _
        exact h.elim
end Go.Proofs.YtknpglgpkkhhiaaDoor

/- Whether a watch can go on for ever: can, Can, going. -/
namespace Go.Proofs.YtknpglgpkkhhiaaDoor
set_option linter.unusedSimpArgs false
set_option linter.unusedVariables false
open Go.RowKit Go.Proofs.YtknpglgpkkhhiaaDoor.Free2 Go.Proofs.YtknpglgpkkhhiaaDoor.ML RR

theorem st_self {h : Int} {xs : List Rk} (hw : watchB h xs = true) : StOf xs xs := ⟨rfl, fun x hx => (watchB_ok hw x hx).2.2.2.2⟩
theorem below_grown {s g : Nat} {w a b : World} (h : Below s w a) (k : a.grownBy b (some g)) (hg : s ≤ g) (hs : s ≤ w.heap.size) : Below s w b :=
  h.trans (Below.of_grown k (Nat.le_trans hs h.size) (fun r e => by cases e; exact hg))
/-- A watch at work, with the states that are good for ever. -/
structure YE (yb gb : Nat) (h : Int) (xs : List Rk) (u dv : Value) (L : List Q4) (w : World) : Prop where
  yw : YW yb gb h xs u dv w
  mp : MapIs quadV gb (setK L) w
  ev : EverIs h xs L
theorem YE.bel {yb gb : Nat} {h : Int} {xs : List Rk} {u dv : Value} {L : List Q4} {w w' : World} (H : YE yb gb h xs u dv L w) (hB : Free.Bel w w') : YE yb gb h xs u dv L w' := ⟨H.yw.kc (.of_bel hB), H.mp.bel hB, H.ev⟩
theorem YE.has {yb gb : Nat} {h : Int} {xs ys : List Rk} {u dv : Value} {L : List Q4} {w : World} (H : YE yb gb h xs u dv L w) (h4 : xs.length ≤ 4) (hy : StOf xs ys) :
    (Instr.lookup 139 (.map (some gb)) (.agg #[.int .i64 (waits ys 0), .int .i64 (waits ys 1), .int .i64 (waits ys 2), .int .i64 (waits ys 3)]) false).run Tryd.prog w = .ok (.bool (everB h ys)) w := by
  have h1 := good_lookup H.mp (waits ys)
  rw [H.ev.has h4 hy] at h1
  exact h1
set_option maxRecDepth 100000 in
set_option maxHeartbeats 8000000 in
theorem can_any (h : Int) (xs : List Rk) (u : Value) (w : World) (hu : RL xs u w) (hw : watchB h xs = true) (r : Bool) (hr : Hid (everB h xs = r)) :
    Calls Tryd.prog 74 #[.agg #[.int .i64 h, u]] w fun e w' => e = .returned (.bool r) ∧ Below w.heap.size w w' := by
  have HU := Lib.hid hu
  obtain ⟨p, cp, rfl, _, _⟩ := hu
  have KB : Free.Bel w (w.alloc (.cells #[.int .i64 h, .slice p xs.length cp] 24)) := belAlloc _ _
  have m0 : (w.alloc (.cells #[.int .i64 h, .slice p xs.length cp] 24)).heap[w.heap.size]? = some (.cells #[.int .i64 h, .slice p xs.length cp] 24 (0, 0)) := World.alloc_heap_new w _
  have H4 := Lib.hid (watchB_iff.1 hw).2.1
  have HX := Lib.hid (watchB_ok hw)
  have HST := Lib.hid (st_self hw)
  have FA : ∀ W, Free.Bel (w.alloc (.cells #[.int .i64 h, .slice p xs.length cp] 24)) W → W.cell? ⟨w.heap.size, 0, none⟩ = some (.int .i64 h) ∧ W.cell? ⟨w.heap.size, 1, none⟩ = some (.slice p xs.length cp) := fun W hW => ⟨keepsB hW (cell_of_heap m0 rfl), keepsB hW (cell_of_heap m0 rfl)⟩
  have KE : Free.Bel (w.alloc (.cells #[.int .i64 h, .slice p xs.length cp] 24)) (w.alloc (.cells #[.int .i64 h, .slice p xs.length cp] 24)) := Free.Bel.refl _
  have HW := Lib.hid hw
  have HR := hr
  clear hw hr m0
  go_enter Tryd.func74, Tryd.ntmps74
  go_wp2_with fail
  refine (begun_any h xs _ (w.alloc (.cells #[.int .i64 h, .slice p xs.length cp] 24)) (HU.out.keeps KB) HW.out).mono ?_
  rintro e w1 ⟨yb, gb, dv, v, rfl, hyw, hm, hy1, hy2, hy3, hB1⟩
  have hB1 : Free.Bel (w.alloc (.cells #[.int .i64 h, .slice p xs.length cp] 24)) w1 := hB1
  have HSET := Lib.hid (settle_nil yb gb h xs v dv _ w1 hyw hm H4.out (fun x hx => (HX.out x hx).2.2.2.1) (keysY_good fun x hx => (HX.out x hx).2.2.1))
  have HALL := Lib.hid (And.intro hyw (And.intro hm (And.intro hy1 (And.intro hy2 hB1))))
  clear hyw hm hy1 hy2 hy3 hB1 FA KE
  go_wp2_with fail
  refine HSET.out.mono ?_
  rintro e w2 ⟨⟨x, rfl⟩, L, hE, hM, hG⟩
  obtain ⟨hyw, hm, hy1, hy2, hB1⟩ := HALL.out
  have HYE := Lib.hid (show YE yb gb h xs v dv L w2 from ⟨hyw.kc ((fun ⟨o, h1, h2⟩ => KC.of_grown hG h1 h2) hm.obj), hM, hE⟩)
  have HB2 := Lib.hid (below_grown (show Below w.heap.size w w1 from Below.trans (show Below w.heap.size w (w.alloc (.cells #[.int .i64 h, .slice p xs.length cp] 24)) from KB) (Below.mono hB1 KB.size)) hG (Nat.le_trans KB.size hy2) (Nat.le_refl _))
  have HBG := Lib.hid (And.intro (Nat.le_trans KB.size hy1) (Nat.le_trans KB.size hy2))
  clear hE hM hG hyw hm hy1 hy2 hB1
  go_wp2_with fail
  have hFB : ∀ W, Free.Bel w2.drew W → Free.Bel w2 W := fun W hW => bt (Bel.drewT (Free.Bel.refl _)) hW
  have hF : ∀ W, Free.Bel w2.drew W → (W.cell? ⟨yb, 2, none⟩ = some (.map (some gb)) ∧ (Instr.lookup 139 (.map (some gb)) (.agg #[.int .i64 (waits xs 0), .int .i64 (waits xs 1), .int .i64 (waits xs 2), .int .i64 (waits xs 3)]) false).run Tryd.prog W = .ok (.bool r) W) := fun W hW => by
    have h1 := HYE.out.bel (hFB W hW)
    have h2 := h1.has H4.out HST.out
    rw [HR.out] at h2
    exact ⟨h1.yw.c2, h2⟩
  refine Free.wp_free (R := Free.Bel) (by kernel_rfl) (by kernel_rfl) Free.Bel.refl Free.Bel.trans ?_
  refine Free.Chain.ex ?_ [] [3] (by kernel_rfl) (by kernel_rfl) rfl Free.Bel.refl ?_ ?_
  rotate_left
  · (intro ev W hb hR hO hD; have hS := hF W hR; obtain ⟨hb1, hb2, hb3⟩ := hb; simp only [Free.AllDeps, Free.AllOuts, Free.At, al1, al2, al3, al4, al5, and_true] at hO hD; go_simp; rfl)
  simp only [an1, an2]
  refine Free.Chain.ex ?_ [(0, 8)] [] (by kernel_rfl) (by kernel_rfl) rfl Free.Bel.refl ?_ ?_
  rotate_left
  · (intro ev W hb hR hO hD; have hS := hF W hR; obtain ⟨hb1, hb2, hb3⟩ := hb; simp only [Free.AllDeps, Free.AllOuts, Free.At, al1, al2, al3, al4, al5, and_true] at hO hD; go_simp; rfl)
  simp only [an1, an2]
  refine Free.Chain.ex ?_ [(1, 9)] [] (by kernel_rfl) (by kernel_rfl) rfl Free.Bel.refl ?_ ?_
  rotate_left
  · (intro ev W hb hR hO hD; have hS := hF W hR; obtain ⟨hb1, hb2, hb3⟩ := hb; simp only [Free.AllDeps, Free.AllOuts, Free.At, al1, al2, al3, al4, al5, and_true] at hO hD; go_simp; rfl)
  simp only [an1, an2]
  refine Free.Chain.ex ?_ [(2, 10)] [] (by kernel_rfl) (by kernel_rfl) rfl Free.Bel.refl ?_ ?_
  rotate_left
  · (intro ev W hb hR hO hD; have hS := hF W hR; obtain ⟨hb1, hb2, hb3⟩ := hb; simp only [Free.AllDeps, Free.AllOuts, Free.At, al1, al2, al3, al4, al5, and_true] at hO hD; go_simp; rfl)
  simp only [an1, an2]
  refine Free.Chain.ex ?_ [] [3] (by kernel_rfl) (by kernel_rfl) rfl Free.Bel.refl ?_ ?_
  rotate_left
  · (intro ev W hb hR hO hD; have hS := hF W hR; obtain ⟨hb1, hb2, hb3⟩ := hb; simp only [Free.AllDeps, Free.AllOuts, Free.At, al1, al2, al3, al4, al5, and_true] at hO hD; go_simp; rfl)
  simp only [an1, an2]
  refine Free.Chain.pr (fun v _ => v = stV (waits xs)) [(4, 12)] [] (by kernel_rfl) (by kernel_rfl) rfl (fun _ _ _ _ h => h) ?_ ?_
  · (intro ev W hb hR hO hD; have hS := hF W hR; obtain ⟨hb1, hb2, hb3⟩ := hb; simp only [Free.AllDeps, Free.AllOuts, Free.At, al1, al2, al3, al4, al5, and_true] at hO hD; have h1 := HYE.out.bel (hFB W hR); go_simp; refine yields_enter ?_; (with_reducible refine (now_any yb xs v W h1.yw.c1 h1.yw.rl H4.out).mono ?_); rintro e W2 ⟨rfl, hB2⟩; exact ⟨_, rfl, hB2, rfl⟩)
  simp only [an1, an2]
  refine Free.Chain.ex ?_ [(3, 11), (5, 13)] [] (by kernel_rfl) (by kernel_rfl) rfl Free.Bel.refl ?_ ?_
  rotate_left
  · (intro ev W hb hR hO hD; have hS := hF W hR; obtain ⟨hb1, hb2, hb3⟩ := hb; simp only [Free.AllDeps, Free.AllOuts, Free.At, al1, al2, al3, al4, al5, and_true] at hO hD; go_simp; rfl)
  simp only [an1, an2]
  refine Free.Chain.ex ?_ [(6, 14), (5, 13), (0, 8), (1, 9), (2, 10), (3, 11), (4, 12), (5, 13), (6, 14)] [] (by kernel_rfl) (by kernel_rfl) rfl Free.Bel.refl ?_ ?_
  rotate_left
  · (intro ev W hb hR hO hD; have hS := hF W hR; obtain ⟨hb1, hb2, hb3⟩ := hb; simp only [Free.AllDeps, Free.AllOuts, Free.At, al1, al2, al3, al4, al5, and_true] at hO hD; go_simp; rfl)
  simp only [an1, an2]
  intro ys w3 hR hV
  simp only [Free.AllV, Free.At, List.length_cons, List.length_nil, Nat.reduceAdd, List.getElem?_cons_succ, List.getElem?_cons_zero, true_and, and_true] at hV
  simp only [Free.putsFrom, Act.put, Nat.zero_add, Nat.reduceAdd, hV, List.setIfInBounds_toArray, List.set_cons_succ, List.set_cons_zero]
  have K3 : Free.Bel w2 w3 := hFB w3 hR
  have HB3 := Lib.hid (HB2.out.trans (Below.mono K3 HB2.out.size))
  have HY3 := Lib.hid (HYE.out.bel K3)
  clear hR hV hF hFB K3
  go_wp2_with fail
  go_ret
  exact ⟨rfl, HB3.out⟩
set_option maxRecDepth 100000 in
set_option maxHeartbeats 8000000 in
theorem canP_v (h : Int) (xs : List Rk) (u : Value) (w : World) (hT : TabR w) (hu : RL xs u w) (c : Int) (r : Bool) (hcr : Hid ((if watchB h xs = true then 0 else 70) = c ∧ (watchB h xs && everB h xs) = r)) :
    Calls Tryd.prog 32 #[.agg #[.int .i64 h, u]] w fun e w' => e = .returned (.tuple #[.bool r, .int .i64 c]) ∧ Below w.heap.size w w' := by
  have HU := Lib.hid hu
  obtain ⟨p, cp, rfl, _, _⟩ := hu
  have KB : Free.Bel w (w.alloc (.cells #[.int .i64 h, .slice p xs.length cp] 24)) := belAlloc _ _
  have m0 : (w.alloc (.cells #[.int .i64 h, .slice p xs.length cp] 24)).heap[w.heap.size]? = some (.cells #[.int .i64 h, .slice p xs.length cp] 24 (0, 0)) := World.alloc_heap_new w _
  have FA : ∀ W, Free.Bel (w.alloc (.cells #[.int .i64 h, .slice p xs.length cp] 24)) W → W.cell? ⟨w.heap.size, 0, none⟩ = some (.int .i64 h) ∧ W.cell? ⟨w.heap.size, 1, none⟩ = some (.slice p xs.length cp) := fun W hW => ⟨keepsB hW (cell_of_heap m0 rfl), keepsB hW (cell_of_heap m0 rfl)⟩
  have KE : Free.Bel (w.alloc (.cells #[.int .i64 h, .slice p xs.length cp] 24)) (w.alloc (.cells #[.int .i64 h, .slice p xs.length cp] 24)) := Free.Bel.refl _
  have HCK := Lib.hid (checkP_v h xs _ (w.alloc (.cells #[.int .i64 h, .slice p xs.length cp] 24)) (hT.bel KB) (HU.out.keeps KB) c (Lib.hid hcr.out.1))
  have HKB := Lib.hid KB
  cases hw : watchB h xs with
  | false =>
    obtain ⟨rfl, rfl⟩ : c = 70 ∧ r = false := by
      have := hcr.out
      rw [hw] at this
      exact ⟨this.1.symm.trans (by simp), this.2.symm.trans (by simp)⟩
    clear hcr hT m0 hw
    go_enter Tryd.func32, Tryd.ntmps32
    go_wp2_with fail
    refine HCK.out.mono ?_
    rintro e w1 ⟨rfl, hB1⟩
    have HB := Lib.hid (bt HKB.out hB1)
    clear hB1
    go_wp2_with fail
    go_ret2
    exact ⟨rfl, HB.out⟩
  | true =>
    obtain rfl : c = 0 := by
      have := hcr.out
      rw [hw] at this
      exact this.1.symm.trans (by simp)
    have HR : Hid (everB h xs = r) := by
      have := hcr.out
      rw [hw] at this
      exact (show _ = _ by simpa using this.2)
    have HW := Lib.hid hw
    clear hcr hT m0 hw
    go_enter Tryd.func32, Tryd.ntmps32
    go_wp2_with fail
    refine HCK.out.mono ?_
    rintro e w1 ⟨rfl, hB1⟩
    have K1 : Free.Bel (w.alloc (.cells #[.int .i64 h, .slice p xs.length cp] 24)) w1 := hB1
    clear hB1
    go_wp2_with fail
    refine (can_any h xs _ w1 (HU.out.keeps (bt HKB.out K1)) HW.out r HR).mono ?_
    rintro e w2 ⟨rfl, hB2⟩
    have HB := Lib.hid (bt HKB.out (bt K1 hB2))
    clear hB2
    go_wp2_with fail
    go_ret2
    exact ⟨rfl, HB.out⟩
/-- A watch at work that can go on for ever, or the error. -/
noncomputable def goE (h : Int) (xs : List Rk) : Int := open Classical in if watchB h xs = true then (if everB h xs = true then 0 else 8) else 70
def GoPost (h : Int) (xs : List Rk) (c : Int) (w : World) (e : Ending) (w' : World) : Prop :=
  (c ≠ 0 ∧ e = .returned (.tuple #[.pointer none, .int .i64 c])) ∨ (c = 0 ∧ ∃ yb gb u dv L, e = .returned (.tuple #[.pointer (some ⟨yb, 0, none⟩), .int .i64 0]) ∧ YE yb gb h xs u dv L w' ∧ w.heap.size ≤ yb ∧ w.heap.size ≤ gb)
set_option maxRecDepth 100000 in
set_option maxHeartbeats 8000000 in
theorem going_v (h : Int) (xs : List Rk) (u : Value) (w : World) (hT : TabR w) (hu : RL xs u w) (c : Int) (hc : Hid (goE h xs = c)) :
    Calls Tryd.prog 80 #[.agg #[.int .i64 h, u]] w fun e w' => GoPost h xs c w e w' ∧ Below w.heap.size w w' := by
  have HCK := fun k hk => Lib.hid (checkP_v h xs u (w.alloc (.cells #[.int .i64 h, u] 24)) (hT.bel (belAlloc _ _)) (hu.keeps (belAlloc _ _)) k hk)
  cases hw : watchB h xs with
  | false =>
    have HCK := HCK 70 (by show _ = _; simp [hw])
    obtain ⟨p, cp, rfl, _, _⟩ := hu
    have KB : Free.Bel w (w.alloc (.cells #[.int .i64 h, .slice p xs.length cp] 24)) := belAlloc _ _
    have m0 : (w.alloc (.cells #[.int .i64 h, .slice p xs.length cp] 24)).heap[w.heap.size]? = some (.cells #[.int .i64 h, .slice p xs.length cp] 24 (0, 0)) := World.alloc_heap_new w _
    have FA : ∀ W, Free.Bel (w.alloc (.cells #[.int .i64 h, .slice p xs.length cp] 24)) W → W.cell? ⟨w.heap.size, 0, none⟩ = some (.int .i64 h) ∧ W.cell? ⟨w.heap.size, 1, none⟩ = some (.slice p xs.length cp) := fun W hW => ⟨keepsB hW (cell_of_heap m0 rfl), keepsB hW (cell_of_heap m0 rfl)⟩
    have KE : Free.Bel (w.alloc (.cells #[.int .i64 h, .slice p xs.length cp] 24)) (w.alloc (.cells #[.int .i64 h, .slice p xs.length cp] 24)) := Free.Bel.refl _
    have HKB := Lib.hid KB
    obtain rfl : c = 70 := by
      have := hc.out
      unfold goE at this
      rw [hw] at this
      exact this.symm.trans (by simp)
    clear hc hT m0 hw
    go_enter Tryd.func80, Tryd.ntmps80
    go_wp2_with fail
    refine HCK.out.mono ?_
    rintro e w1 ⟨rfl, hB1⟩
    have HB := Lib.hid (bt HKB.out hB1)
    clear hB1
    go_wp2_with fail
    go_ret2
    exact ⟨.inl ⟨by decide, rfl⟩, HB.out⟩
  | true =>
  have HCK := HCK 0 (by show _ = _; simp [hw])
  have HU := Lib.hid hu
  obtain ⟨p, cp, rfl, _, _⟩ := hu
  have KB : Free.Bel w (w.alloc (.cells #[.int .i64 h, .slice p xs.length cp] 24)) := belAlloc _ _
  have m0 : (w.alloc (.cells #[.int .i64 h, .slice p xs.length cp] 24)).heap[w.heap.size]? = some (.cells #[.int .i64 h, .slice p xs.length cp] 24 (0, 0)) := World.alloc_heap_new w _
  have H4 := Lib.hid (watchB_iff.1 hw).2.1
  have HX := Lib.hid (watchB_ok hw)
  have HST := Lib.hid (st_self hw)
  have FA : ∀ W, Free.Bel (w.alloc (.cells #[.int .i64 h, .slice p xs.length cp] 24)) W → W.cell? ⟨w.heap.size, 0, none⟩ = some (.int .i64 h) ∧ W.cell? ⟨w.heap.size, 1, none⟩ = some (.slice p xs.length cp) := fun W hW => ⟨keepsB hW (cell_of_heap m0 rfl), keepsB hW (cell_of_heap m0 rfl)⟩
  have KE : Free.Bel (w.alloc (.cells #[.int .i64 h, .slice p xs.length cp] 24)) (w.alloc (.cells #[.int .i64 h, .slice p xs.length cp] 24)) := Free.Bel.refl _
  have HW := Lib.hid hw
  obtain ⟨r, hr⟩ : ∃ r, everB h xs = r := ⟨_, rfl⟩
  have HR := Lib.hid hr
  have hcc : c = if r = true then 0 else 8 := by
    have := hc.out
    unfold goE at this
    rw [hw, hr] at this
    exact this.symm.trans (by simp)
  have HCC := Lib.hid hcc
  clear hw hr m0 hc hT hcc
  go_enter Tryd.func80, Tryd.ntmps80
  go_wp2_with fail
  refine HCK.out.mono ?_
  rintro e w0 ⟨rfl, hB0⟩
  have K0 : Free.Bel (w.alloc (.cells #[.int .i64 h, .slice p xs.length cp] 24)) w0 := hB0
  clear hB0
  go_wp2_with fail
  have KW0 : Free.Bel w w0 := bt KB K0
  refine (begun_any h xs _ w0 (HU.out.keeps KW0) HW.out).mono ?_
  rintro e w1 ⟨yb, gb, dv, v, rfl, hyw, hm, hy1, hy2, hy3, hB1⟩
  have hB1 : Free.Bel w0 w1 := hB1
  have HSET := Lib.hid (settle_nil yb gb h xs v dv _ w1 hyw hm H4.out (fun x hx => (HX.out x hx).2.2.2.1) (keysY_good fun x hx => (HX.out x hx).2.2.1))
  have HALL := Lib.hid (And.intro hyw (And.intro hm (And.intro hy1 (And.intro hy2 hB1))))
  clear hyw hm hy1 hy2 hy3 hB1 FA KE KB K0 HCK
  go_wp2_with fail
  refine HSET.out.mono ?_
  rintro e w2 ⟨⟨x, rfl⟩, L, hE, hM, hG⟩
  obtain ⟨hyw, hm, hy1, hy2, hB1⟩ := HALL.out
  have HYE := Lib.hid (show YE yb gb h xs v dv L w2 from ⟨hyw.kc ((fun ⟨o, h1, h2⟩ => KC.of_grown hG h1 h2) hm.obj), hM, hE⟩)
  have HB2 := Lib.hid (below_grown (show Below w.heap.size w w1 from Below.trans (show Below w.heap.size w w0 from KW0) (Below.mono hB1 KW0.size)) hG (Nat.le_trans KW0.size hy2) (Nat.le_refl _))
  have HBG := Lib.hid (And.intro (Nat.le_trans KW0.size hy1) (Nat.le_trans KW0.size hy2))
  clear hE hM hG hyw hm hy1 hy2 hB1
  go_wp2_with fail
  have hFB : ∀ W, Free.Bel w2.drew W → Free.Bel w2 W := fun W hW => bt (Bel.drewT (Free.Bel.refl _)) hW
  have hF : ∀ W, Free.Bel w2.drew W → (W.cell? ⟨yb, 2, none⟩ = some (.map (some gb)) ∧ (Instr.lookup 139 (.map (some gb)) (.agg #[.int .i64 (waits xs 0), .int .i64 (waits xs 1), .int .i64 (waits xs 2), .int .i64 (waits xs 3)]) false).run Tryd.prog W = .ok (.bool r) W) := fun W hW => by
    have h1 := HYE.out.bel (hFB W hW)
    have h2 := h1.has H4.out HST.out
    rw [HR.out] at h2
    exact ⟨h1.yw.c2, h2⟩
  refine Free.wp_free (R := Free.Bel) (by kernel_rfl) (by kernel_rfl) Free.Bel.refl Free.Bel.trans ?_
  refine Free.Chain.ex ?_ [] [5] (by kernel_rfl) (by kernel_rfl) rfl Free.Bel.refl ?_ ?_
  rotate_left
  · (intro ev W hb hR hO hD; have hS := hF W hR; obtain ⟨hb1, hb2, hb3⟩ := hb; simp only [Free.AllDeps, Free.AllOuts, Free.At, al1, al2, al3, al4, al5, and_true] at hO hD; go_simp; rfl)
  simp only [an1, an2]
  refine Free.Chain.ex ?_ [(0, 15)] [] (by kernel_rfl) (by kernel_rfl) rfl Free.Bel.refl ?_ ?_
  rotate_left
  · (intro ev W hb hR hO hD; have hS := hF W hR; obtain ⟨hb1, hb2, hb3⟩ := hb; simp only [Free.AllDeps, Free.AllOuts, Free.At, al1, al2, al3, al4, al5, and_true] at hO hD; go_simp; rfl)
  simp only [an1, an2]
  refine Free.Chain.ex ?_ [(1, 16)] [] (by kernel_rfl) (by kernel_rfl) rfl Free.Bel.refl ?_ ?_
  rotate_left
  · (intro ev W hb hR hO hD; have hS := hF W hR; obtain ⟨hb1, hb2, hb3⟩ := hb; simp only [Free.AllDeps, Free.AllOuts, Free.At, al1, al2, al3, al4, al5, and_true] at hO hD; go_simp; rfl)
  simp only [an1, an2]
  refine Free.Chain.ex ?_ [(2, 17)] [] (by kernel_rfl) (by kernel_rfl) rfl Free.Bel.refl ?_ ?_
  rotate_left
  · (intro ev W hb hR hO hD; have hS := hF W hR; obtain ⟨hb1, hb2, hb3⟩ := hb; simp only [Free.AllDeps, Free.AllOuts, Free.At, al1, al2, al3, al4, al5, and_true] at hO hD; go_simp; rfl)
  simp only [an1, an2]
  refine Free.Chain.ex ?_ [] [5] (by kernel_rfl) (by kernel_rfl) rfl Free.Bel.refl ?_ ?_
  rotate_left
  · (intro ev W hb hR hO hD; have hS := hF W hR; obtain ⟨hb1, hb2, hb3⟩ := hb; simp only [Free.AllDeps, Free.AllOuts, Free.At, al1, al2, al3, al4, al5, and_true] at hO hD; go_simp; rfl)
  simp only [an1, an2]
  refine Free.Chain.pr (fun v _ => v = stV (waits xs)) [(4, 19)] [] (by kernel_rfl) (by kernel_rfl) rfl (fun _ _ _ _ h => h) ?_ ?_
  · (intro ev W hb hR hO hD; have hS := hF W hR; obtain ⟨hb1, hb2, hb3⟩ := hb; simp only [Free.AllDeps, Free.AllOuts, Free.At, al1, al2, al3, al4, al5, and_true] at hO hD; have h1 := HYE.out.bel (hFB W hR); go_simp; refine yields_enter ?_; (with_reducible refine (now_any yb xs v W h1.yw.c1 h1.yw.rl H4.out).mono ?_); rintro e W2 ⟨rfl, hB2⟩; exact ⟨_, rfl, hB2, rfl⟩)
  simp only [an1, an2]
  refine Free.Chain.ex ?_ [(3, 18), (5, 20)] [] (by kernel_rfl) (by kernel_rfl) rfl Free.Bel.refl ?_ ?_
  rotate_left
  · (intro ev W hb hR hO hD; have hS := hF W hR; obtain ⟨hb1, hb2, hb3⟩ := hb; simp only [Free.AllDeps, Free.AllOuts, Free.At, al1, al2, al3, al4, al5, and_true] at hO hD; go_simp; rfl)
  simp only [an1, an2]
  refine Free.Chain.ex ?_ [(6, 21)] [] (by kernel_rfl) (by kernel_rfl) rfl Free.Bel.refl ?_ ?_
  rotate_left
  · (intro ev W hb hR hO hD; have hS := hF W hR; obtain ⟨hb1, hb2, hb3⟩ := hb; simp only [Free.AllDeps, Free.AllOuts, Free.At, al1, al2, al3, al4, al5, and_true] at hO hD; go_simp; rfl)
  simp only [an1, an2]
  intro ys w3 hR hV
  simp only [Free.AllV, Free.At, List.length_cons, List.length_nil, Nat.reduceAdd, List.getElem?_cons_succ, List.getElem?_cons_zero, true_and, and_true] at hV
  simp only [Free.putsFrom, Act.put, Nat.zero_add, Nat.reduceAdd, hV, List.setIfInBounds_toArray, List.set_cons_succ, List.set_cons_zero]
  have K3 : Free.Bel w2 w3 := hFB w3 hR
  have HB3 := Lib.hid (HB2.out.trans (Below.mono K3 HB2.out.size))
  have HY3 := Lib.hid (HYE.out.bel K3)
  clear hR hV hF hFB K3
  cases r with
  | true =>
    have h9 := HCC.out
    simp only [if_true] at h9
    subst h9
    clear HCC
    go_wp2_with fail
    go_ret2
    exact ⟨.inr ⟨rfl, yb, gb, v, dv, L, rfl, HY3.out, HBG.out.1, HBG.out.2⟩, HB3.out⟩
  | false =>
    have h9 := HCC.out
    simp only [Bool.false_eq_true, if_false] at h9
    subst h9
    clear HCC
    go_wp2_with fail
    go_ret2
    exact ⟨.inl ⟨by decide, rfl⟩, HB3.out⟩
end Go.Proofs.YtknpglgpkkhhiaaDoor

/- The plan, the round, the last days, the spare days, the fewest hands, in plain numbers. -/
namespace Go.Proofs.YtknpglgpkkhhiaaDoor
set_option linter.unusedSimpArgs false
set_option linter.unusedVariables false

/-! ### Lists without doubles -/
theorem nodup_sub_length {α : Type} [DecidableEq α] : ∀ {A L : List α}, A.Nodup → (∀ a ∈ A, a ∈ L) → A.length ≤ L.length
  | [], _, _, _ => by simp
  | a :: r, L, hn, hs => by
    simp only [List.nodup_cons] at hn
    have ha := hs a (by simp)
    have ih := nodup_sub_length (A := r) (L := L.erase a) hn.2 fun b hb => by
      have hne : b ≠ a := fun e => hn.1 (e ▸ hb)
      exact (List.mem_erase_of_ne hne).2 (hs b (by simp [hb]))
    rw [List.length_erase_of_mem ha] at ih
    have : 0 < L.length := List.length_pos_of_mem ha
    simp only [List.length_cons]
    omega

/-! ### The plan -/
open Classical in
noncomputable def stepE (h : Int) (ys : List Rk) : List Int := (firstD h (everB h) ys).getD []
noncomputable def planS (h : Int) (ys : List Rk) : Nat → List Rk
  | 0 => ys
  | n + 1 => dayR (stepE h (planS h ys n)) (planS h ys n)
noncomputable def planL (h : Int) (ys : List Rk) (n : Nat) : List (List Int) := (List.range n).map fun k => stepE h (planS h ys k)
theorem ever_step {h : Int} {ys : List Rk} (he : everB h ys = true) : firstD h (everB h) ys = some (stepE h ys) ∧ stepE h ys ∈ daysL h ys ∧ coolB (dayR (stepE h ys) ys) = true ∧ everB h (dayR (stepE h ys) ys) = true := by
  obtain ⟨d, hd, hc, hv⟩ := ever_first he
  have hs : (firstD h (everB h) ys).isSome = true := by
    unfold firstD
    rw [List.find?_isSome]
    exact ⟨d, hd, by rw [hc, hv]; rfl⟩
  obtain ⟨d', hd'⟩ := Option.isSome_iff_exists.1 hs
  have e : stepE h ys = d' := by rw [stepE, hd']; rfl
  rw [e]
  exact ⟨hd', firstD_some hd'⟩
theorem planS_ever {h : Int} {xs ys : List Rk} (hy : StOf xs ys) (he : everB h ys = true) : ∀ n, StOf xs (planS h ys n) ∧ everB h (planS h ys n) = true
  | 0 => ⟨hy, he⟩
  | n + 1 => by
    obtain ⟨h1, h2⟩ := planS_ever hy he n
    obtain ⟨_, _, h3, h4⟩ := ever_step h2
    exact ⟨h1.day _ h3, h4⟩
theorem planS_shift (h : Int) (ys : List Rk) (m : Nat) : ∀ n, planS h (planS h ys m) n = planS h ys (m + n)
  | 0 => rfl
  | n + 1 => by
    show dayR (stepE h (planS h (planS h ys m) n)) (planS h (planS h ys m) n) = _
    rw [planS_shift h ys m n]
    rfl
theorem planL_length (h : Int) (ys : List Rk) (n : Nat) : (planL h ys n).length = n := by simp [planL]
theorem planL_succ (h : Int) (ys : List Rk) (n : Nat) : planL h ys (n + 1) = planL h ys n ++ [stepE h (planS h ys n)] := by simp [planL, List.range_succ]
theorem planL_add (h : Int) (ys : List Rk) (m : Nat) : ∀ n, planL h ys (m + n) = planL h ys m ++ planL h (planS h ys m) n
  | 0 => by simp [planL]
  | n + 1 => by
    rw [← Nat.add_assoc, planL_succ, planL_add h ys m n, planL_succ, planS_shift, List.append_assoc]
/-! ### The round -/
def RoundIs (h : Int) (ys : List Rk) (i j : Nat) : Prop := i < j ∧ planS h ys j = planS h ys i ∧ ∀ a b, a < b → b < j → planS h ys a ≠ planS h ys b
theorem RoundIs.unique {h : Int} {ys : List Rk} {i j i' j' : Nat} (H : RoundIs h ys i j) (H' : RoundIs h ys i' j') : i = i' ∧ j = j' := by
  obtain ⟨h1, h2, h3⟩ := H
  obtain ⟨k1, k2, k3⟩ := H'
  have hj : j = j' := by
    rcases Nat.lt_trichotomy j j' with hl | hl | hl
    · exact absurd h2.symm (k3 i j h1 hl)
    · exact hl
    · exact absurd k2.symm (h3 i' j' k1 hl)
  subst hj
  refine ⟨?_, rfl⟩
  have e : planS h ys i = planS h ys i' := h2.symm.trans k2
  rcases Nat.lt_trichotomy i i' with hl | hl | hl
  · exact absurd e (h3 i i' hl k1)
  · exact hl
  · exact absurd e.symm (h3 i' i hl h1)

/-! ### The last days -/
def lastL (h : Int) : Nat → List Rk → List (List Int)
  | 0, _ => []
  | n + 1, ys => (firstD h (goodN h n) ys).getD [] :: lastL h n (dayR ((firstD h (goodN h n) ys).getD []) ys)
theorem good_step {h : Int} {ys : List Rk} {n : Nat} (hg : goodN h (n + 1) ys = true) : ∃ d, firstD h (goodN h n) ys = some d ∧ d ∈ daysL h ys ∧ coolB (dayR d ys) = true ∧ goodN h n (dayR d ys) = true := by
  rw [goodN, List.any_eq_true] at hg
  obtain ⟨d, hd, h1⟩ := hg
  have hs : (firstD h (goodN h n) ys).isSome = true := by
    unfold firstD
    rw [List.find?_isSome]
    exact ⟨d, hd, h1⟩
  obtain ⟨d', hd'⟩ := Option.isSome_iff_exists.1 hs
  exact ⟨d', hd', firstD_some hd'⟩
/-! ### The spare days, the fewest hands, the moistest cake -/
def idleOk (h : Int) (ys : List Rk) (n : Nat) : Prop := coolB (endR ys (List.replicate n [])) = true ∧ everB h (endR ys (List.replicate n [])) = true
def SpareIs (h : Int) (ys : List Rk) (n : Nat) : Prop := (∀ k, 0 < k → k ≤ n → idleOk h ys k) ∧ ¬ idleOk h ys (n + 1)
theorem SpareIs.unique {h : Int} {ys : List Rk} {n m : Nat} (H : SpareIs h ys n) (H' : SpareIs h ys m) : n = m := by
  rcases Nat.lt_trichotomy n m with hl | hl | hl
  · exact absurd (H'.1 (n + 1) (by omega) (by omega)) H.2
  · exact hl
  · exact absurd (H.1 (m + 1) (by omega) (by omega)) H'.2
theorem endR_idle (ys : List Rk) (n : Nat) : endR ys (List.replicate n []) = ys.map fun x => (x.1, x.2.1, x.2.2 + (n : Int)) := by
  rw [endR_map]
  have key : ∀ (n : Nat) (x : Rk), runW x (List.replicate n []) = (x.1, x.2.1, x.2.2 + (n : Int)) := by
    intro n
    induction n with
    | zero => intro x; simp [runW]
    | succ n ih =>
      intro x
      rw [List.replicate_succ, runW, ih]
      simp only [turnW, List.contains_nil]
      ext <;> simp
      omega
  exact List.map_congr_left fun x _ => key n x
def FewIs (xs : List Rk) (n e : Int) : Prop := (e = 8 ∧ n = 0 ∧ ∀ k : Int, 0 ≤ k → k ≤ 3 → everB k xs = false) ∨ (e = 0 ∧ 0 ≤ n ∧ n ≤ 3 ∧ everB n xs = true ∧ ∀ k : Int, 0 ≤ k → k < n → everB k xs = false)
theorem FewIs.unique {xs : List Rk} {n e n' e' : Int} (H : FewIs xs n e) (H' : FewIs xs n' e') : n = n' ∧ e = e' := by
  rcases H with ⟨h1, h2, h3⟩ | ⟨h1, h2, h3, h4, h5⟩ <;> rcases H' with ⟨k1, k2, k3⟩ | ⟨k1, k2, k3, k4, k5⟩
  · omega
  · rw [h3 n' k2 k3] at k4; cases k4
  · rw [k3 n h2 h3] at h4; cases h4
  · refine ⟨?_, by omega⟩
    rcases Int.lt_trichotomy n n' with hl | hl | hl
    · rw [k5 n h2 hl] at h4; cases h4
    · exact hl
    · rw [h5 n' k2 hl] at k4; cases k4
/-- Ricks of which one has another Every. -/
def moistR (xs : List Rk) (i : Nat) (n : Int) : List Rk := xs.set i ((xs.getD i (0, 0, 0)).1, n, (xs.getD i (0, 0, 0)).2.2)
def MoistIs (h : Int) (xs : List Rk) (i : Nat) (n e : Int) : Prop := (e = 8 ∧ n = 0 ∧ ∀ k : Int, (xs.getD i (0, 0, 0)).2.2 + 1 ≤ k → k ≤ 6 → everB h (moistR xs i k) = false) ∨ (e = 0 ∧ (xs.getD i (0, 0, 0)).2.2 + 1 ≤ n ∧ n ≤ 6 ∧ everB h (moistR xs i n) = true ∧ ∀ k : Int, (xs.getD i (0, 0, 0)).2.2 + 1 ≤ k → k < n → everB h (moistR xs i k) = false)
theorem MoistIs.unique {h : Int} {xs : List Rk} {i : Nat} {n e n' e' : Int} (H : MoistIs h xs i n e) (H' : MoistIs h xs i n' e') : n = n' ∧ e = e' := by
  rcases H with ⟨h1, h2, h3⟩ | ⟨h1, h2, h3, h4, h5⟩ <;> rcases H' with ⟨k1, k2, k3⟩ | ⟨k1, k2, k3, k4, k5⟩
  · omega
  · rw [h3 n' k2 k3] at k4; cases k4
  · rw [k3 n h2 h3] at h4; cases h4
  · refine ⟨?_, by omega⟩
    rcases Int.lt_trichotomy n n' with hl | hl | hl
    · rw [k5 n h2 hl] at h4; cases h4
    · exact hl
    · rw [h5 n' k2 hl] at k4; cases k4
end Go.Proofs.YtknpglgpkkhhiaaDoor

/- The reference's played. -/
namespace Go.Proofs.YtknpglgpkkhhiaaDoor
set_option linter.unusedSimpArgs false
set_option linter.unusedVariables false
open Go.RowKit Go.Proofs.YtknpglgpkkhhiaaDoor.Free2

/-- What a slice points to is not in the row. -/
def OffS (v u : Value) : Prop := ∀ a n c, u = .slice (some a) n c → Off v a.block
theorem RL.set {xs : List (Int × Int × Int)} {u x : Value} {a : World} {b o : Nat} (h : RL xs u a) (ho : xs ≠ [] → ∀ ad n c, u = .slice (some ad) n c → ad.block ≠ b) : RL xs u (a.setCell ⟨b, o, none⟩ x) := by
  obtain ⟨p, cap, rfl, h2, h3⟩ := h
  refine ⟨p, cap, rfl, h2, fun hx => ?_⟩
  obtain ⟨g, off, rfl, h5⟩ := h3 hx
  have ho2 := ho hx _ _ _ rfl
  have hk : ∀ j v, a.cell? ⟨g, j, none⟩ = some v → (a.setCell ⟨b, o, none⟩ x).cell? ⟨g, j, none⟩ = some v := fun j v hv => (World.cell?_of_block (heap_setCell_other (by simpa using ho2))).trans hv
  exact ⟨g, off, rfl, fun k hk2 => ⟨hk _ _ (h5 k hk2).1, hk _ _ (h5 k hk2).2.1, hk _ _ (h5 k hk2).2.2⟩⟩
theorem OffS.new {base base' e e' size size' n n' : Nat} {v u : Value} {xs ys : List Value} {a b : World} (h : a.ownsRow base e size v n xs) (hu : b.ownsRow base' e' size' u n' ys) (hb : a.heap.size ≤ base') : OffS v u := by
  intro ad m c he
  rcases hu.2 with ⟨rfl, _⟩ | ⟨g, cap, cur, rfl, hg, _⟩
  · cases he
  · cases he; exact off_new h (by simp; omega)
end Go.Proofs.YtknpglgpkkhhiaaDoor

/- The reference's asked, Hot, After, Repeats. -/
namespace Go.Proofs.YtknpglgpkkhhiaaDoor
set_option linter.unusedSimpArgs false
set_option linter.unusedVariables false
open Go.RowKit

/-- The error of a watch and of days. -/
def askE (h : Int) (xs : List Rk) (ds : List (List Int)) : Int := if watchB h xs = false then 70 else if validB h xs ds = false then 72 else 0
def hotOut (h : Int) (xs : List Rk) (ds : List (List Int)) : List (Int × Int) := if askE h xs ds = 0 then heatR 0 xs ds else []
def aftE (h : Int) (xs : List Rk) (ds : List (List Int)) : Int := if askE h xs ds = 0 then (if (heatR 0 xs ds).isEmpty = true then 0 else 73) else askE h xs ds
def aftH (h : Int) (xs : List Rk) (ds : List (List Int)) : Int := if aftE h xs ds = 0 then h else 0
def aftL (h : Int) (xs : List Rk) (ds : List (List Int)) : List Rk := if aftE h xs ds = 0 then endR xs ds else []
def repE (h : Int) (xs : List Rk) (ds : List (List Int)) : Int := if askE h xs ds = 0 then (if ds.isEmpty = true then 72 else 0) else askE h xs ds
def repB (h : Int) (xs : List Rk) (ds : List (List Int)) : Bool := decide (repE h xs ds = 0) && repN 7 xs ds
theorem askE_zero {h : Int} {xs : List Rk} {ds : List (List Int)} : askE h xs ds = 0 ↔ watchB h xs = true ∧ validB h xs ds = true := by
  unfold askE
  cases watchB h xs <;> cases validB h xs ds <;> simp
end Go.Proofs.YtknpglgpkkhhiaaDoor

/- What the outright statements about rounds need, in plain numbers: turnings as lists, what never makes it worse, shares, days that repeat, the order of turnings. -/
namespace Go.Proofs.YtknpglgpkkhhiaaDoor
set_option linter.unusedSimpArgs false
set_option linter.unusedVariables false

/-! ### Turnings -/
def upN (m : Nat) : Nat → List Nat → Prop
  | _, [] => True
  | a, i :: r => (a ≤ i ∧ i < m) ∧ upN m (i + 1) r
theorem mem_comb {m : Nat} : ∀ (k a : Nat) (l : List Nat), l ∈ comb m a k ↔ l.length = k ∧ upN m a l
  | 0, a, l => by
    cases l <;> simp [comb, upN]
  | k + 1, a, l => by
    simp only [comb, List.mem_flatMap, List.mem_map, List.mem_range'_1]
    constructor
    · rintro ⟨i, ⟨h1, h2⟩, r, hr, rfl⟩
      obtain ⟨h3, h4⟩ := (mem_comb k (i + 1) r).1 hr
      exact ⟨by simp [h3], ⟨h1, by omega⟩, h4⟩
    · rintro ⟨h1, h2⟩
      cases l with
      | nil => simp at h1
      | cons i r =>
        obtain ⟨⟨h3, h4⟩, h5⟩ := h2
        exact ⟨i, ⟨h3, by omega⟩, r, (mem_comb k (i + 1) r).2 ⟨by simpa using h1, h5⟩, rfl⟩
theorem mem_daysI {h m : Nat} {l : List Nat} : l ∈ daysI h m ↔ l.length ≤ h ∧ upN m 0 l := by
  simp only [daysI, List.mem_flatMap, List.mem_range, mem_comb]
  constructor
  · rintro ⟨n, hn, h1, h2⟩
    exact ⟨by omega, h2⟩
  · rintro ⟨h1, h2⟩
    exact ⟨l.length, by omega, rfl, h2⟩
theorem idAt_pos {xs : List Rk} (hw : risesB 0 xs = true) {i : Nat} (hi : i < xs.length) : 0 < idAt xs i := by
  have := (risesB_ok hw (Int.le_refl 0) _ (List.getElem_mem hi)).2
  simpa [idAt, hi] using this
theorem hasR_idAt {xs : List Rk} {a : Int} : hasR xs a = true ↔ ∃ i, i < xs.length ∧ idAt xs i = a := by
  unfold hasR
  rw [List.any_eq_true]
  constructor
  · rintro ⟨x, hx, he⟩
    obtain ⟨i, hi, rfl⟩ := List.mem_iff_getElem.1 hx
    exact ⟨i, hi, by simpa [idAt, hi] using he⟩
  · rintro ⟨i, hi, he⟩
    exact ⟨xs[i], List.getElem_mem hi, by simpa [idAt, hi] using he⟩
theorem turnF_ids_of {xs : List Rk} (hw : risesB 0 xs = true) : ∀ (l : List Nat) (a : Nat) (p : Int), upN xs.length a l → (∀ i, a ≤ i → i < xs.length → p < idAt xs i) → turnF xs p (idsOf xs l) = true
  | [], _, _, _, _ => rfl
  | i :: r, a, p, h, hp => by
    obtain ⟨⟨h1, h2⟩, h3⟩ := h
    show (hasR xs (idAt xs i) && (decide (p < idAt xs i) && turnF xs (idAt xs i) (idsOf xs r))) = true
    rw [hasR_idAt.2 ⟨i, h2, rfl⟩, decide_eq_true (hp i h1 h2), turnF_ids_of hw r (i + 1) (idAt xs i) h3 fun j hj hjl => ((idAt_mono hw i j h2 hjl).2).2 (by omega)]
    rfl
theorem turnF_of_ids {xs : List Rk} (hw : risesB 0 xs = true) : ∀ (d : List Int) (a : Nat) (p : Int), turnF xs p d = true → (∀ i, i < xs.length → p < idAt xs i → a ≤ i) → ∃ l, upN xs.length a l ∧ idsOf xs l = d
  | [], _, _, _, _ => ⟨[], trivial, rfl⟩
  | x :: r, a, p, h, hp => by
    simp only [turnF, Bool.and_eq_true, decide_eq_true_eq] at h
    obtain ⟨h1, h2, h3⟩ := h
    obtain ⟨i, hi, rfl⟩ := hasR_idAt.1 h1
    obtain ⟨l, hl1, hl2⟩ := turnF_of_ids hw r (i + 1) (idAt xs i) h3 fun j hj hlt => by
      have := ((idAt_mono hw i j hi hj).2).1 hlt
      omega
    exact ⟨i :: l, ⟨⟨hp i hi h2, hi⟩, hl1⟩, by simp [idsOf] at hl2 ⊢; exact hl2⟩
theorem mem_daysL {h : Int} {xs : List Rk} (hw : watchB h xs = true) {d : List Int} : d ∈ daysL h xs ↔ turnB h xs d = true := by
  obtain ⟨h1, h2, h3⟩ := watchB_iff.1 hw
  simp only [daysL, List.mem_map, mem_daysI, turnB, Bool.and_eq_true, decide_eq_true_eq]
  constructor
  · rintro ⟨l, ⟨hl, hu⟩, rfl⟩
    exact ⟨by simp [idsOf]; omega, turnF_ids_of h3 l 0 0 hu fun i _ hi => idAt_pos h3 hi⟩
  · rintro ⟨hl, hf⟩
    obtain ⟨l, hu, rfl⟩ := turnF_of_ids h3 d 0 0 hf fun i _ _ => Nat.zero_le _
    exact ⟨l, ⟨by simp [idsOf] at hl; omega, hu⟩, rfl⟩
theorem turnF_mem {xs : List Rk} : ∀ {d : List Int} {p : Int}, turnF xs p d = true → d.Pairwise (· < ·) ∧ ∀ a ∈ d, p < a ∧ hasR xs a = true
  | [], _, _ => ⟨.nil, by simp⟩
  | x :: r, p, h => by
    simp only [turnF, Bool.and_eq_true, decide_eq_true_eq] at h
    obtain ⟨h1, h2, h3⟩ := h
    obtain ⟨i1, i2⟩ := turnF_mem h3
    refine ⟨List.pairwise_cons.2 ⟨fun a ha => (i2 a ha).1, i1⟩, fun a ha => ?_⟩
    rcases List.mem_cons.1 ha with rfl | ha
    · exact ⟨h2, h1⟩
    · have := i2 a ha
      exact ⟨by omega, this.2⟩
/-! ### A day -/
/-! ### What never makes it worse -/
def Dom (xs ys : List Rk) : Prop := ∀ y ∈ ys, ∃ x ∈ xs, x.1 = y.1 ∧ y.2.2 ≤ x.2.2 ∧ x.2.1 ≤ y.2.1
theorem Dom.refl (xs : List Rk) : Dom xs xs := fun y hy => ⟨y, hy, rfl, Int.le_refl _, Int.le_refl _⟩
/-! ### The share -/
def sumI : List Int → Int
  | [] => 0
  | a :: r => a + sumI r
/-! ### Days that are played -/
/-! ### The order of turnings -/
end Go.Proofs.YtknpglgpkkhhiaaDoor

/- The examples of chapter 07's laws, in numbers. -/
namespace Go.Proofs.YtknpglgpkkhhiaaDoor
set_option linter.unusedSimpArgs false
set_option linter.unusedVariables false

def wx : List Rk := [(1, 2, 0), (2, 4, 1), (3, 4, 0)]
def wl : List Rk := [(1, 2, 0), (2, 4, 2), (3, 4, 3)]
theorem wx_watch : watchB 1 wx = true := by decide +kernel
theorem wl_watch : watchB 1 wl = true := by decide +kernel
theorem wx_stable : ∀ ys ∈ allY wx, goodN 1 3 ys = true → goodN 1 4 ys = true := by decide +kernel
theorem wx_ever {ys : List Rk} (h : StOf wx ys) : everB 1 ys = goodN 1 3 ys :=
  (good_ever (xs := wx) (fun zs hz hg => wx_stable zs ((mem_allY (by decide)).2 hz) hg) ys h).symm
theorem wx_st : StOf wx wx := st_self wx_watch
theorem wx_yes : everB 1 wx = true := by rw [wx_ever wx_st]; decide +kernel
theorem ever_no {h : Int} {ys : List Rk} (n : Nat) (hn : goodN h n ys = false) : everB h ys = false := by
  cases he : everB h ys with
  | false => rfl
  | true => rw [everB_iff.1 he n] at hn; cases hn
def stepF (ys : List Rk) : List Int := (firstD 1 (goodN 1 3) ys).getD []
def planF : Nat → List Rk
  | 0 => wx
  | n + 1 => dayR (stepF (planF n)) (planF n)
theorem step_f {ys : List Rk} (h : StOf wx ys) : stepE 1 ys = stepF ys := by
  rw [stepE, stepF, firstD_congr (p := everB 1) (q := goodN 1 3) h fun zs hz => wx_ever hz]
theorem plan_f : ∀ n, planS 1 wx n = planF n
  | 0 => rfl
  | n + 1 => by
    show dayR (stepE 1 (planS 1 wx n)) (planS 1 wx n) = _
    rw [step_f (planS_ever wx_st wx_yes n).1, plan_f n]
    rfl
theorem planL_f (n : Nat) : planL 1 wx n = (List.range n).map fun k => stepF (planF k) := by
  unfold planL
  refine List.map_congr_left fun k _ => ?_
  rw [step_f (planS_ever wx_st wx_yes k).1, plan_f k]
theorem wx_today : stepE 1 wx = [1] := by rw [step_f wx_st]; decide +kernel
theorem wx_days : planL 1 wx 3 = [[1], [2], [1]] := by rw [planL_f]; decide +kernel
theorem wx_round : RoundIs 1 wx 2 6 := by
  refine ⟨by decide, ?_, fun a b h1 h2 => ?_⟩
  · rw [plan_f, plan_f]; decide +kernel
  · rw [plan_f, plan_f]
    have key : ∀ b < 6, ∀ a < b, planF a ≠ planF b := by decide +kernel
    exact key b h2 a h1
theorem wx_lead : planL 1 wx 2 = [[1], [2]] := by rw [planL_f]; decide +kernel
theorem wx_again : (planL 1 wx 6).drop 2 = [[1], [3], [1], [2]] := by rw [planL_f]; decide +kernel
theorem wx_few : FewIs wx 1 0 := .inr ⟨rfl, by decide, by decide, wx_yes, fun k h0 h1 => by
  obtain rfl : k = 0 := by omega
  exact ever_no 2 (by decide +kernel)⟩
theorem wx_moist : MoistIs 1 wx 2 4 0 := .inr ⟨rfl, by decide, by decide, (show everB 1 wx = true from wx_yes), fun k h0 h1 => by
  have h0' : (1 : Int) ≤ k := h0
  rcases (show k = 1 ∨ k = 2 ∨ k = 3 by omega) with rfl | rfl | rfl
  · exact ever_no 6 (by decide +kernel)
  · exact ever_no 6 (by decide +kernel)
  · exact ever_no 6 (by decide +kernel)⟩
theorem wx_spare : SpareIs 1 wx 0 := ⟨fun k h0 h1 => by omega, fun h => by
  have := ever_no 3 (h := 1) (ys := endR wx (List.replicate (0 + 1) [])) (by decide +kernel)
  rw [h.2] at this
  cases this⟩
theorem wl_no : everB 1 wl = false := ever_no 2 (by decide +kernel)
theorem wl_last {n : Nat} (h1 : goodN 1 n wl = true) (h2 : goodN 1 (n + 1) wl = false) : lastL 1 n wl = [[3]] := by
  have hn : n = 1 := by
    rcases Nat.lt_trichotomy n 1 with h | h | h
    · obtain rfl : n = 0 := by omega
      exact absurd h2 (by decide +kernel)
    · exact h
    · have := goodN_le (show 2 ≤ n from h) wl h1
      exact absurd this (by decide +kernel)
  subst hn
  decide +kernel
end Go.Proofs.YtknpglgpkkhhiaaDoor

/- A day's turnings by the ricks' numbers: ids. -/
namespace Go.Proofs.YtknpglgpkkhhiaaDoor
set_option linter.unusedSimpArgs false
set_option linter.unusedVariables false
open Go.RowKit Go.Proofs.YtknpglgpkkhhiaaDoor.Free2

def idsL (xs : List Rk) (T : Nat → Bool) : Nat → List Int
  | 0 => []
  | k + 1 => idsL xs T k ++ (if T k = true then [idAt xs k] else [])
theorem idsL_length (xs : List Rk) (T : Nat → Bool) : ∀ k, (idsL xs T k).length ≤ k
  | 0 => Nat.le_refl _
  | k + 1 => by
    have := idsL_length xs T k
    rw [idsL, List.length_append]
    split <;> simp <;> omega
theorem idsL_filter (xs : List Rk) (d : List Int) : ∀ k, k ≤ xs.length → idsL xs (tset xs d) k = ((xs.take k).filter fun x => d.contains x.1).map (·.1)
  | 0, _ => rfl
  | k + 1, h => by
    have ih := idsL_filter xs d k (by omega)
    have hk : k < xs.length := by omega
    rw [idsL, ih, List.take_succ_eq_append_getElem hk, List.filter_append, List.map_append]
    congr 1
    have ht : tset xs d k = d.contains xs[k].1 := by simp [tset, hk]
    have hi : idAt xs k = xs[k].1 := by simp [idAt, hk]
    rw [ht, hi]
    by_cases hc : xs[k].1 ∈ d <;> simp [List.filter_cons, hc]
theorem sorted_ext : ∀ {a b : List Int}, a.Pairwise (· < ·) → b.Pairwise (· < ·) → (∀ x, x ∈ a ↔ x ∈ b) → a = b
  | [], [], _, _, _ => rfl
  | [], y :: _, _, _, h => by have := (h y).2 (by simp); cases this
  | x :: _, [], _, _, h => by have := (h x).1 (by simp); cases this
  | x :: r, y :: s, h1, h2, h => by
    rw [List.pairwise_cons] at h1 h2
    have hxy : x = y := by
      rcases List.mem_cons.1 ((h x).1 (by simp)) with e | e
      · exact e
      · rcases List.mem_cons.1 ((h y).2 (by simp)) with e2 | e2
        · exact e2.symm
        · have := h1.1 y e2; have := h2.1 x e; omega
    subst hxy
    congr 1
    refine sorted_ext h1.2 h2.2 fun z => ?_
    constructor
    · intro hz
      rcases List.mem_cons.1 ((h z).1 (by simp [hz])) with e | e
      · have := h1.1 z hz; omega
      · exact e
    · intro hz
      rcases List.mem_cons.1 ((h z).2 (by simp [hz])) with e | e
      · have := h2.1 z hz; omega
      · exact e
/-- Turnings that are valid are what they were. -/
theorem ids_tset {h : Int} {xs : List Rk} (hw : watchB h xs = true) {d : List Int} (hd : turnB h xs d = true) : idsL xs (tset xs d) xs.length = d := by
  rw [idsL_filter xs d xs.length (Nat.le_refl _), List.take_length]
  simp only [turnB, Bool.and_eq_true] at hd
  obtain ⟨h1, h2⟩ := turnF_mem hd.2
  refine sorted_ext ((rises_pairG (watchB_iff.1 hw).2.2).sublist (List.Sublist.map _ List.filter_sublist)) h1 fun z => ?_
  constructor
  · intro hz
    obtain ⟨x, hx, rfl⟩ := List.mem_map.1 hz
    exact List.contains_iff_mem.1 (List.mem_filter.1 hx).2
  · intro hz
    obtain ⟨x, hx, he⟩ := List.any_eq_true.1 (h2 z hz).2
    obtain rfl : x.1 = z := by simpa using he
    exact List.mem_map.2 ⟨x, List.mem_filter.2 ⟨hx, List.contains_iff_mem.2 hz⟩, rfl⟩
set_option maxRecDepth 100000 in
set_option maxHeartbeats 4000000 in
theorem ids_any (yb : Nat) (xs : List Rk) (Tn : Nat → Bool) (u : Value) (w : World) (hy : w.cell? ⟨yb, 1, none⟩ = some u) (hu : RL xs u w) (h4 : xs.length ≤ 4) :
    Calls Tryd.prog 95 #[.pointer (some ⟨yb, 0, none⟩), stB Tn] w fun e w' => (∃ v, e = .returned v ∧ w'.ownsRow w.heap.size 3 1 v (idsL xs Tn xs.length).length ((idsL xs Tn xs.length).map (Value.int .i64))) ∧ Below w.heap.size w w' := by
  obtain ⟨p, cp, rfl, hm, hp⟩ := hu
  unfold maxLen at hm
  have HP := Lib.hid hp
  clear hp
  obtain ⟨i0, hi0, hz0, hz1, hz2⟩ := info_parts T.infoInt
  have HZ := Lib.hid (And.intro hi0 (And.intro hz0 (And.intro hz1 hz2)))
  clear hi0 hz0 hz1 hz2
  have hb0 : Free.Bel w (w.alloc (.cells (arrB Tn) 149)) := belAlloc _ _
  have n0 := keepsB hb0 hy
  have m0 : (w.alloc (.cells (arrB Tn) 149)).heap[w.heap.size]? = some (.cells (arrB Tn) 149 (0, 0)) := World.alloc_heap_new w _
  have HI := Lib.hid (And.intro hb0 (And.intro m0 (World.ownsRow_nil (w.alloc (.cells (arrB Tn) 149)) (w.heap.size + 1) 3 1)))
  clear hy hb0 m0
  go_enter Tryd.func95, Tryd.ntmps95
  go_wp2_with fail
  clear n0
  go_loopw [14, 5] (fun i v wr => ∃ k : Nat, k ≤ xs.length ∧ i = .int .i64 k ∧ Below w.heap.size w wr ∧ wr.heap[w.heap.size]? = some (.cells (arrB Tn) 149 (0, 0)) ∧ wr.ownsRow (w.heap.size + 1) 3 1 v (idsL xs Tn k).length ((idsL xs Tn k).map (Value.int .i64))) (fun i _ _ => xs.length - (intOf i).toNat)
  case atStart => exact ⟨0, Nat.zero_le _, rfl, HI.out⟩
  case round =>
    obtain ⟨k, hk, rfl, hB, hT, how⟩ := hrel
    by_cases hlt : k < xs.length
    · have hx : xs ≠ [] := by intro e; simp [e] at hlt
      obtain ⟨b, off, rfl, hcp⟩ := HP.out hx
      obtain ⟨d1, d2, d3⟩ := hcp k hlt
      have e1 := keepsB hB d1
      have e2 := keepsB hB d2
      have e3 := keepsB hB d3
      have hklt : (k : Int) < xs.length := by omega
      have hk4 : (k : Int) < 4 := by omega
      have hk5 : k < 4 := by omega
      have hkw : IntKind.i64.wrap ((k : Int) + 1) = (k : Int) + 1 := IntWalk.i64_in _ (by omega)
      have HID : Hid (idAt xs k = xs[k].1) := by show _ = _; simp [idAt, hlt]
      have q0 := cell_of_heap (o := k) hT (arrB_get _ k (by omega))
      have hszw : w.heap.size + 1 ≤ wr.heap.size := lt_of_heap hT
      have hlb : (idsL xs Tn k).length ≤ 4 := Nat.le_trans (idsL_length _ _ k) (by omega)
      clear hcp hx d1 d2 d3
      generalize xs[k] = x at *
      obtain ⟨x1, x2, x3⟩ := x
      have KA : Free.Bel wr (wr.alloc (.cells #[.int .i64 x1, .int .i64 x2, .int .i64 x3] 47)) := belAlloc _ _
      have q2 := keepsB KA q0
      have hx1 : (wr.alloc (.cells #[.int .i64 x1, .int .i64 x2, .int .i64 x3] 47)).cell? ⟨wr.heap.size, 0, none⟩ = some (.int .i64 x1) := by simp [go_sem]
      have HB := Lib.hid (And.intro hB hT)
      have hs2 : (idsL xs Tn (k + 1)) = idsL xs Tn k ++ (if Tn k = true then [x1] else []) := by rw [idsL, HID.out]
      have HS2 := Lib.hid hs2
      generalize hal : idsL xs Tn k = al at *
      clear hB hT hal hs2
      cases hTk : Tn k
      · rw [hTk] at q2
        have HTK := Lib.hid hTk
        have HOW := Lib.hid how
        clear hTk how
        go_wp2_with fail
        go_roundw
        case rel => exact ⟨k + 1, by omega, by go_num, HB.out.1.trans (Below.mono KA HB.out.1.size), heap_old HB.out.2, by rw [HS2.out, HTK.out]; simpa using bel_row HOW.out KA⟩
        case measure => simp [intOf]; omega
      · rw [hTk] at q2
        have HTK := Lib.hid hTk
        clear hTk
        go_wp2_with (first | (at_builtin; go_loud (refine wpList_append_own _ rfl _ _ 58 rfl (w.heap.size + 1) 3 i0 (.int .i64 0) 1 8 Tryd.underlying58 HZ.out.1 HZ.out.2.1 HZ.out.2.2.1 HZ.out.2.2.2 rfl (by decide) _ _ _ rfl ((bel_row how KA).alloc _) ⟨wr.heap.size + 1, 0, none⟩ 1 1 [.int .i64 x1] rfl rfl (by have := cell_one_new (wr.alloc (.cells #[.int .i64 x1, .int .i64 x2, .int .i64 x3] 47)) (.int .i64 x1) 3; simpa using this) (fun x hx => by simp at hx; subst hx; rfl) (by unfold maxLen; omega) (by omega) (by simp; omega) ?_); intro v9 w9 hown9 hgrow9 hnil9) | fail)
        have HG := Lib.hid (show Below (w.heap.size + 1) wr w9 from ((Below.mono KA hszw).alloc (by simp; omega) _).trans (grown_belR ((bel_row how KA).alloc _) hgrow9 (by simp; omega)))
        have HO9 := Lib.hid hown9
        clear hown9 hgrow9 hnil9 how
        go_roundw
        case rel => exact ⟨k + 1, by omega, by go_num, HB.out.1.trans (HG.out.mono (by omega)), (HG.out.block _ (by omega)).trans HB.out.2, by rw [HS2.out, HTK.out]; simpa using HO9.out⟩
        case measure => simp [intOf]; omega
    · obtain rfl : k = xs.length := by omega
      have HF := Lib.hid (And.intro hB how)
      clear hB hT how
      go_wp2_with fail
      go_ret
      exact ⟨⟨_, rfl, row_mono HF.out.2 (Nat.le_succ _)⟩, HF.out.1⟩
end Go.Proofs.YtknpglgpkkhhiaaDoor

/- A range over a function whose iterator never ends by itself: some round ends it. No function of the program here. -/
namespace Go.Proofs.YtknpglgpkkhhiaaDoor.RR
set_option linter.unusedSimpArgs false
set_option linter.unusedVariables false
open Go Go.RowKit

variable {F : Fence} {n : Nat} {P : Program}

/-- An iterator that yields the list L and more, where a round says no at the latest behind L. -/
def SeqN {α : Type} (F : Fence) (n : Nat) (P : Program) (g : Nat) (lb : Array Value) (E : α → Array Value → World → Prop) (R Kp : World → World → Prop) (L : List α) (w : World) : Prop :=
  ∀ (l : Nat) (J Jx : List α → World → Prop) (W : World), R w W → Abide R J → Abide R Jx →
    (∀ pre x vs W1, pre ++ [x] <+: L → E x vs W1 → J pre W1 → YieldAt F (n - 1) P l vs W1 fun e W' =>
      (e = .returned (.bool true) ∧ J (pre ++ [x]) W' ∧ Kp W1 W') ∨ (e = .returned (.bool false) ∧ Jx (pre ++ [x]) W')) →
    (∀ W, ¬ J L W) → J [] W →
    CallsIn F n P g (#[.func (.yield l) #[] #[]] ++ lb) W fun e W' => (∃ v, e = .returned v) ∧ (∃ pre, pre <+: L ∧ Jx pre W')

/-- The range: some round ends it. -/
theorem wpIn_rangeFunc_RN {α : Type} {g : Operand} {ps : Array Tmp} {assign body : Code} {Q : Exit → Act → World → Prop} {a : Act} {w : World}
    (hro : F.round = none) (h1 : 1 ≤ n) {gf : Nat} {lb : Array Value} (hg : a.eval g = .func (.func gf) #[] lb) (hFg : F.fn gf) (eg : ∀ args w, (callFunc gf args).run P w = .ok (.enter gf args) w)
    {E : α → Array Value → World → Prop} {R Kp : World → World → Prop} {L : List α} (hseq : SeqN F (n - 1) P gf lb E R Kp L w)
    (hRa : ∀ A o, w.heap.size ≤ A.heap.size → R w A → R w (A.alloc o)) (hRr : R w w) (hRb : ∀ A B k o, R A B → w.heap.size ≤ k → o.isCells = false → A.heap[k]? = some o → B.heap[k]? = some o)
    (hKt : ∀ {A B C : World}, Kp A B → Kp B C → Kp A C) (hKb : ∀ (W : World) (l : Nat) (o o' : Obj), w.heap.size ≤ l → W.heap[l]? = some o → o.isCells = false → o.isWalk = false → Kp W (W.putObj l o')) (hps : ∀ x vs W, E x vs W → vs.size = ps.size)
    (I : List α → World → Prop) (Ix : Code → List α → World → Prop) (hI : OwnFrom w.heap.size I) (hIx : ∀ c, OwnFrom w.heap.size (Ix c)) (hIR : Abide R I) (hIxR : ∀ c, Abide R (Ix c)) (h0 : I [] w) (Ax : α → Act → World → Prop) (hAx : ∀ x a', OwnFrom w.heap.size (fun (_ : Unit) W => Ax x a' W))
    (hassign : ∀ (l : Nat) (pre : List α) (x : α) (vs : Array Value) (W : World) (K : Act → World → Prop), I pre W → pre ++ [x] <+: L → E x vs W → (∀ a' W', KeepsFrom w.heap.size W W' → Kp W W' → I pre W' → Ax x a' W' → K a' W') →
      assign.wpIn (F.inRound l) (n - 1 - 1) P (Exit.then K (fun _ _ _ => False)) { tmps := (ps.zip vs).foldl (fun t (p, v) => t.setIfInBounds p v) a.tmps, defers := [] } W)
    (hbody : ∀ (l : Nat) (pre : List α) (x : α) (a' : Act) (W : World), I pre W → Ax x a' W → pre ++ [x] <+: L → body.wpIn (F.inRound l) (n - 1 - 1) P (ownPostG w.heap.size Kp I Ix (pre ++ [x]) W) a' W)
    (hno : ∀ W, ¬ I L W)
    (hstop : ∀ (D : Nat) (c : Code) (pre : List α) (W : World), w.heap.size ≤ D → pre <+: L → Ix c pre W → W.heap[D]? = some (.deferred (some [])) → c.wpIn F n P Q { a with defers := { target := .collected D, args := #[] } :: a.defers } W) :
    (Code.rangeFunc g ps assign body).wpIn F n P Q a w := by
  refine wpIn_rangeFunc ?_
  intro fn hfn
  rw [hro]
  obtain ⟨rec, hrec⟩ : ∃ rec : LoopState → Option Code → Loop, rec = fun st pe => { state := st, pending := pe, fn, tmps := a.tmps, params := ps, assign, body, defers := w.heap.size } := ⟨_, rfl⟩
  obtain ⟨W1, hW1⟩ : ∃ W1, (w.alloc (.deferred (some []))).alloc (.loop (rec .ready none)) = W1 := ⟨_, rfl⟩
  have hL1 : W1.heap[w.heap.size + 1]? = some (.loop (rec .ready none)) := by
    rw [← hW1]; have := World.alloc_heap_new (w.alloc (.deferred (some []))) (.loop (rec .ready none)); rwa [World.size_alloc] at this
  have hK1 : W1.heap[w.heap.size]? = some (.deferred (some [])) := by
    rw [← hW1]; exact (Below.heap_alloc _ _ _ (by simp)).trans (World.alloc_heap_new w _)
  have hI1 : I [] W1 := by rw [← hW1]; exact hI.alloc _ (hI.alloc _ h0)
  have hb1 : R w W1 := by
    rw [← hW1]; exact hRa _ _ (by simp) (hRa _ _ (Nat.le_refl _) hRr)
  refine ⟨w.heap.size + 1, [{ target := .collected w.heap.size, args := #[] }], W1, { target := .fn (.func gf) lb, args := #[.func (.yield (w.heap.size + 1)) #[] #[]] }, W1, gf,
    #[.func (.yield (w.heap.size + 1)) #[] #[]] ++ lb, W1, ?_, ?_, ?_, ?_, fun _ => h1, ?_⟩
  · rw [← hW1, hrec]; exact run_enterLoop_outer _ _ _ _ _
  · simp only [resolve, hg]
    simp [go_sem]
  · intro f' hf'; simp [Target.leads] at hf'; subst hf'; exact hFg
  · simp [invoke, go_sem, eg]
  · refine (hseq (w.heap.size + 1)
      (fun pre W => I pre W ∧ W.heap[w.heap.size + 1]? = some (.loop (rec .ready none)) ∧ W.heap[w.heap.size]? = some (.deferred (some [])))
      (fun pre W => ∃ c, Ix c pre W ∧ W.heap[w.heap.size + 1]? = some (.loop (rec .done (some c))) ∧ W.heap[w.heap.size]? = some (.deferred (some [])))
      W1 hb1
      (fun s A B hs hr => ⟨hIR s A B hs.1 hr, hRb A B _ _ hr (by omega) rfl hs.2.1, hRb A B _ _ hr (Nat.le_refl _) rfl hs.2.2⟩)
      (fun s A B hs hr => by
        obtain ⟨c, hc, hl, hk⟩ := hs
        exact ⟨c, hIxR c s A B hc hr, hRb A B _ _ hr (by omega) rfl hl, hRb A B _ _ hr (Nat.le_refl _) rfl hk⟩)
      ?_ (fun W h => hno W h.1) ⟨hI1, hL1, hK1⟩).mono ?_
    · -- one round
      rintro pre x vs W hlen hE ⟨hi, hl, hk⟩
      have hlt : w.heap.size + 1 < W.heap.size := (Array.getElem?_eq_some_iff.1 hl).1
      have hy := run_yield (P := P) (args := vs) hl (by rw [hrec]; exact hps x vs W hE)
      rw [hrec] at hy
      refine ⟨fn, _, assign, body, hy, roundIn_of_wpIn hfn (hassign _ pre x vs W _ hi hlen hE ?_)⟩
      clear hy
      intro a' Wa hkfa hkpa hia hax
      replace hl := hkfa.same _ _ (by omega) hl rfl
      replace hk := hkfa.same _ _ (Nat.le_refl _) hk rfl
      replace hlt : w.heap.size + 1 < Wa.heap.size := (Array.getElem?_eq_some_iff.1 hl).1
      replace hi := hia
      clear hia
      revert hkpa hkfa
      generalize W = Wb
      intro hkfa hkpa
      obtain ⟨W, rfl⟩ : ∃ W, W = Wa := ⟨_, rfl⟩
      refine ⟨_, run_beginRound hl (by rw [hrec]), ?_⟩
      have hl2 : (W.putObj (w.heap.size + 1) (.loop { rec .ready none with state := .busy })).heap[w.heap.size + 1]? = some (.loop { rec .ready none with state := .busy }) := World.putObj_heap_same hlt
      have hk2 : (W.putObj (w.heap.size + 1) (.loop { rec .ready none with state := .busy })).heap[w.heap.size]? = some (.deferred (some [])) := (World.putObj_heap_other (by omega)).trans hk
      have hw2 : Kp W (W.putObj (w.heap.size + 1) (.loop { rec .ready none with state := .busy })) := hKb _ _ _ _ (by omega) hl rfl rfl
      refine wpIn_mono (hbody _ pre x a' _ (hI.putObj _ hi (by omega) hl rfl) ((hAx x a').putObj (s := ()) _ hax (by omega) hl rfl) hlen) ?_
      have fin : ∀ (jump : Option Code) (W3 : World), KeepsFrom w.heap.size (W.putObj (w.heap.size + 1) (.loop { rec .ready none with state := .busy })) W3 →
          (Instr.endRound (w.heap.size + 1) jump).run P W3 = .ok (.bool jump.isNone) (W3.putObj (w.heap.size + 1) (.loop (rec (if jump.isNone then .ready else .done) jump))) ∧
          W3.heap[w.heap.size + 1]? = some (.loop { rec .ready none with state := .busy }) ∧
          (W3.putObj (w.heap.size + 1) (.loop (rec (if jump.isNone then .ready else .done) jump))).heap[w.heap.size + 1]? = some (.loop (rec (if jump.isNone then .ready else .done) jump)) ∧
          (W3.putObj (w.heap.size + 1) (.loop (rec (if jump.isNone then .ready else .done) jump))).heap[w.heap.size]? = some (.deferred (some [])) := fun jump W3 hk3 => by
        have hl3 := hk3.same _ _ (by omega) hl2 rfl
        have := run_endRound (P := P) jump hl3
        rw [hrec] at this ⊢
        exact ⟨this, by rw [hrec] at hl3; exact hl3, World.putObj_heap_same (Array.getElem?_eq_some_iff.1 hl3).1, (World.putObj_heap_other (by omega)).trans (hk3.same _ _ (Nat.le_refl _) hk2 rfl)⟩
      rintro e a3 W3 hp
      cases e with
      | normal =>
        obtain ⟨hk3, hkp3, hi3⟩ := hp
        obtain ⟨hr, hl3, hl4, hk4⟩ := fin none W3 hk3
        exact ⟨_, _, hr, .inl ⟨rfl, ⟨hI.putObj _ hi3 (by omega) hl3 rfl, hl4, hk4⟩, hKt hkpa (hKt (hKt hw2 hkp3) (hKb _ _ _ _ (by omega) hl3 rfl rfl))⟩⟩
      | ret =>
        obtain ⟨hk3, hi3⟩ := hp
        obtain ⟨hr, hl3, hl4, hk4⟩ := fin (some .ret) W3 hk3
        exact ⟨_, _, hr, .inr ⟨rfl, .ret, (hIx _).putObj _ hi3 (by omega) hl3 rfl, hl4, hk4⟩⟩
      | exit id =>
        obtain ⟨hk3, hi3⟩ := hp
        obtain ⟨hr, hl3, hl4, hk4⟩ := fin (some (.exit id)) W3 hk3
        exact ⟨_, _, hr, .inr ⟨rfl, .exit id, (hIx _).putObj _ hi3 (by omega) hl3 rfl, hl4, hk4⟩⟩
      | goto t =>
        obtain ⟨hk3, hi3⟩ := hp
        obtain ⟨hr, hl3, hl4, hk4⟩ := fin (some (.goto t)) W3 hk3
        exact ⟨_, _, hr, .inr ⟨rfl, .goto t, (hIx _).putObj _ hi3 (by omega) hl3 rfl, hl4, hk4⟩⟩
      | panic ch => exact hp.elim
      | outgrown => exact hp.elim
    · -- behind the iterator
      rintro e W2 ⟨⟨v, rfl⟩, pre, hSp, c, hi, hl, hk⟩
      exact ⟨some c, _, by have := run_endLoop (P := P) hl (by rw [hrec]; simp); rw [hrec] at this; exact this, hstop _ c pre _ (Nat.le_refl _) hSp ((hIx c).putObj _ hi (by omega) hl rfl) ((World.putObj_heap_other (by omega)).trans hk)⟩
end Go.Proofs.YtknpglgpkkhhiaaDoor.RR

/- A region that draws its order inside an iterator: as Free2, where an operation may be the yield. No function of the program here. -/
set_option linter.unusedSimpArgs false
set_option linter.unusedVariables false
namespace Go.Proofs.YtknpglgpkkhhiaaDoor.Free2I
open Go Free
open Free2 (XT JT upd upd_same upd_other AllX AllX.of later outs2 wfB2 wf_spec2 later_spec)

/-- What is asked of an operation that has yielded this; it may be the yield of an iterator. -/
def Yields (m : Nat) (P : Program) (K : Value → World → Prop) : Result Next → Prop
  | .ok (.value v) w' => K v w'
  | .ok .skip w' => K undef w'
  | .ok (.enter f args) w' => Calls P f args w' fun e w'' => ∃ v, e = .returned v ∧ K v w''
  | .ok (.round l f tmps assign body) w' => RoundIn Fence.wide (m - 1) P l f tmps assign body w' fun e w'' => ∃ v, e = .returned v ∧ K v w''
  | _ => False
theorem yields_enter {m : Nat} {P : Program} {K : Value → World → Prop} {f : FuncId} {args : Array Value} {w : World} (h : Calls P f args w fun e w' => ∃ v, e = .returned v ∧ K v w') : Yields m P K (.ok (.enter f args) w) := h
theorem yields_round {m : Nat} {P : Program} {K : Value → World → Prop} {l : Nat} {f : FuncId} {tmps : Array Value} {assign body : Code} {w : World} (h : RoundIn Fence.wide (m - 1) P l f tmps assign body w fun e w' => ∃ v, e = .returned v ∧ K v w') : Yields m P K (.ok (.round l f tmps assign body) w) := h
theorem wpIn_of_yields {m : Nat} {P : Program} {o : Oper} {a : Act} {w : World} {K : Value → World → Prop} {next : Act → World → Prop} {Q : Exit → Act → World → Prop}
    (h : Yields m P K ((execOp a.eval o).run P w)) (hn : ∀ v w', K v w' → next (a.put o.dst v) w') : o.wpIn Fence.wide m P a w next Q := by
  refine ⟨fun _ _ => trivial, ?_⟩
  rw [show Fence.wide.round = none from rfl, Oper.semAt_none]
  generalize (execOp a.eval o).run P w = r at h ⊢
  cases r with
  | ok n w' =>
    cases n <;> simp only [Yields] at h <;> simp only [Oper.uponIn]
    · exact hn _ _ h
    · exact hn _ _ h
    · exact ⟨fun h => by simp [Fence.wide] at h, callsIn_wide.2 (Calls.mono h fun e w'' ⟨v, he, hk⟩ => by subst he; exact hn _ _ hk)⟩
    · exact ⟨fun h => by simp [Fence.wide] at h, RoundIn.mono h fun e w'' ⟨v, he, hk⟩ => by subst he; exact hn _ _ hk⟩
  | halt x w' => simp only [Yields] at h

def OpOk (m : Nat) (P : Program) (R : World → World → Prop) (J : JT) (w0 : World) (a0 : Act) (ops : Array Oper) (i : Nat) (o : Oper) (Vs : List VT) (V : VT) : Prop :=
  ∀ ev w X, Base ev → R w0 w → AllOuts a0 ev (outs2 ops i o) → AllDeps Vs ev w (deps ops o) → J X w → X i = none → AllX X ev (deps ops o) →
    (wantedEv ops o ev = true → Yields m P (fun v w' => R w w' ∧ V v w' ∧ J (upd X i v) w') ((execOp ev o).run P w)) ∧ (wantedEv ops o ev = false → V undef w ∧ J (upd X i undef) w)

def Chain (m : Nat) (P : Program) (R : World → World → Prop) (J : JT) (w0 : World) (a0 : Act) (ops : Array Oper) (Fin : List VT → Prop) : List Oper → List VT → Prop
  | [], Vs => Fin Vs
  | o :: rest, Vs => ∃ V, Stable R V ∧ OpOk m P R J w0 a0 ops Vs.length o Vs V ∧ Chain m P R J w0 a0 ops Fin rest (Vs ++ [V])

section
variable {m : Nat} {P : Program} {R : World → World → Prop} {J : JT} {w0 : World} {a0 : Act} {ops : Array Oper} {Fin : List VT → Prop}
/-- What the chain gives: a list of what holds of every value. -/
theorem Chain.all : ∀ (rest : List Oper) (Vs : List VT), Chain m P R J w0 a0 ops Fin rest Vs →
    (∀ V ∈ Vs, Stable R V) → (∃ Us, Fin (Vs ++ Us) ∧ Us.length = rest.length ∧ (∀ V ∈ Vs ++ Us, Stable R V) ∧
      ∀ i o, rest[i]? = some o → ∃ V, (Vs ++ Us)[Vs.length + i]? = some V ∧ OpOk m P R J w0 a0 ops (Vs.length + i) o ((Vs ++ Us).take (Vs.length + i)) V)
  | [], Vs, h, hs => ⟨[], by simpa [Chain] using h, rfl, by simpa using hs, by simp⟩
  | o :: rest, Vs, ⟨V, h1, h2, h3⟩, hs => by
    obtain ⟨Us, g1, g2, g3, g4⟩ := Chain.all rest (Vs ++ [V]) h3 (by
      intro U hU
      rcases List.mem_append.1 hU with hU | hU
      · exact hs U hU
      · simp at hU; subst hU; exact h1)
    refine ⟨V :: Us, by simpa using g1, by simp [g2], by simpa using g3, ?_⟩
    intro i o' hi
    cases i with
    | zero =>
      simp at hi
      subst hi
      refine ⟨V, by simp, ?_⟩
      have : (Vs ++ V :: Us).take (Vs.length + 0) = Vs := by simp
      rw [this]
      simpa using h2
    | succ i =>
      have := g4 i o' (by simpa using hi)
      simp only [List.length_append, List.length_singleton, List.append_assoc, List.singleton_append] at this
      rw [show Vs.length + (i + 1) = Vs.length + 1 + i by omega]
      exact this

structure Inv (R : World → World → Prop) (J : JT) (w0 : World) (a0 : Act) (ops : Array Oper) (Vs : List VT) (X : XT) (listed : Array Bool) (a : Act) (w : World) : Prop where
  hd : a.defers = a0.defers
  hsz : a.tmps.size = a0.tmps.size
  hls : listed.size = ops.size
  hR : R w0 w
  hJ : J X w
  hX : ∀ i, i < ops.size → (listed.getD i true = true ↔ ∃ v, X i = some v)
  hout : ∀ t, (∀ (i : Nat) o, ops[i]? = some o → o.dst = some t → listed.getD i true = false) → a.tmps.getD t undef = a0.tmps.getD t undef
  hcl : ∀ (i : Nat) o, ops[i]? = some o → listed.getD i true = true → ∀ e ∈ o.after, Region.binds .any e = true → listed.getD e.on true = true
  hval : ∀ (i : Nat) o v, ops[i]? = some o → X i = some v → At Vs i v w ∧ ∀ d, o.dst = some d → a.tmps.getD d undef = v
def InvE (R : World → World → Prop) (J : JT) (w0 : World) (a0 : Act) (ops : Array Oper) (Vs : List VT) (listed : Array Bool) (a : Act) (w : World) : Prop := ∃ X, Inv R J w0 a0 ops Vs X listed a w

theorem Inv.step {Vs : List VT} {X : XT} {Q : Exit → Act → World → Prop} (hwf : wfB2 ops a0.tmps.size = true) (hre : ∀ a, R a a) (htr : ∀ a b c, R a b → R b c → R a c)
    (hst : ∀ V ∈ Vs, Stable R V) (hob : ∀ (i : Nat) o, ops[i]? = some o → ∃ V, Vs[i]? = some V ∧ OpOk m P R J w0 a0 ops i o (Vs.take i) V)
    {listed : Array Bool} {a : Act} {w : World} (h : Inv R J w0 a0 ops Vs X listed a w) {i : Nat} (hi : i ∈ Region.ready .any ops listed) :
    wpOpIn Fence.wide m P ops Q i (InvE R J w0 a0 ops Vs (listed.setIfInBounds i true)) a w := by
  obtain ⟨hun, o, ho, hall⟩ := mem_ready.1 hi
  have hil : i < ops.size := (Array.getElem?_eq_some_iff.1 ho).1
  obtain ⟨hb, hdst⟩ := wf_spec2 hwf ho
  obtain ⟨V, hV, hok⟩ := hob i o ho
  have hXi : X i = none := by
    cases hx : X i with
    | none => rfl
    | some v => have := (h.hX i hil).2 ⟨v, hx⟩; rw [hun] at this; cases this
  have houts : AllOuts a0 a.eval (outs2 ops i o) := AllOuts.of fun t ht => by
    simp only [outs2, List.mem_filter] at ht
    refine h.hout t fun j o' hj hd => ?_
    obtain ⟨e, he, hbe, hei⟩ := later_spec ht.2 hj hd
    cases hl : listed.getD j true with
    | false => rfl
    | true =>
      have := h.hcl j o' hj hl e he hbe
      rw [hei] at this
      rw [hun] at this
      cases this
  have hmem : ∀ p ∈ deps ops o, p.1 < i ∧ ∃ o', ops[p.1]? = some o' ∧ o'.dst = some p.2 ∧ ∃ v, X p.1 = some v := by
    intro p hp
    simp only [deps, List.mem_filterMap] at hp
    obtain ⟨e, he, hp⟩ := hp
    by_cases hbe : Region.binds .any e = true
    · simp only [hbe, if_true, Option.map_eq_some_iff, Option.bind_eq_some_iff] at hp
      obtain ⟨d, ⟨o', ho', hd'⟩, rfl⟩ := hp
      have hel := hall e (by simpa using he) hbe
      have hlt0 : e.on < ops.size := (Array.getElem?_eq_some_iff.1 ho').1
      refine ⟨hb e (by simpa using he) hbe, o', ho', hd', (h.hX e.on hlt0).1 ?_⟩
      have hlt : e.on < listed.size := by rw [h.hls]; exact hlt0
      simpa [hlt] using hel
    · simp [hbe] at hp
  have hdx : AllX X a.eval (deps ops o) := AllX.of fun p hp => by
    obtain ⟨_, o', ho', hd', v, hv⟩ := hmem p hp
    rw [hv]
    exact congrArg some ((h.hval p.1 o' v ho' hv).2 p.2 hd').symm
  have hdeps : AllDeps (Vs.take i) a.eval w (deps ops o) := by
    have hVl : i < Vs.length := (List.getElem?_eq_some_iff.1 hV).1
    have hlen : (Vs.take i).length = i := by simp; omega
    refine AllDeps.of (Us := Vs.drop i) (fun p hp => by rw [hlen]; exact (hmem p hp).1) fun p hp => ?_
    rw [List.take_append_drop]
    obtain ⟨_, o', ho', hd', v, hv⟩ := hmem p hp
    have := h.hval p.1 o' v ho' hv
    show At Vs p.1 (a.tmps.getD p.2 undef) w
    rw [this.2 p.2 hd']
    exact this.1
  obtain ⟨h1, h2⟩ := hok a.eval w X ⟨fun _ => rfl, fun _ => rfl, fun _ => rfl⟩ h.hR houts hdeps h.hJ hXi hdx
  have done : ∀ v w', R w w' → V v w' → J (upd X i v) w' → InvE R J w0 a0 ops Vs (listed.setIfInBounds i true) (a.put o.dst v) w' := by
    intro v w' hr hv hj
    refine ⟨upd X i v, by rw [put_defers, h.hd], by rw [put_size, h.hsz], by simp [h.hls], htr _ _ _ h.hR hr, hj, ?_, ?_, ?_, ?_⟩
    · intro j hjs
      by_cases hji : i = j
      · subst hji
        rw [getD_set_same (by rw [h.hls]; exact hil), upd_same]
        simp
      · rw [getD_set_other hji, upd_other _ _ (Ne.symm hji)]
        exact h.hX j hjs
    · intro t ht
      have ht0 : o.dst ≠ some t := fun e => by
        have := ht i o ho e
        rw [getD_set_same (by rw [h.hls]; exact hil)] at this
        cases this
      have := h.hout t fun j o' hj hd => by
        by_cases hji : i = j
        · subst hji; exact hun
        · have := ht j o' hj hd
          rwa [getD_set_other hji] at this
      rw [← this]
      cases hd : o.dst with
      | none => rfl
      | some d =>
        rw [getD_put, if_neg]
        rintro ⟨rfl, _⟩
        exact ht0 hd
    · intro j o' hj hl e he hbe
      by_cases hei : i = e.on
      · rw [← hei, getD_set_same (by rw [h.hls]; exact hil)]
      · rw [getD_set_other hei]
        by_cases hji : i = j
        · subst hji
          rw [ho] at hj
          cases hj
          have hel := hall e (by simpa using he) hbe
          by_cases hlt : e.on < listed.size
          · simpa [hlt] using hel
          · simp [Array.getD_eq_getD_getElem?, Array.getElem?_eq_none (Nat.le_of_not_lt hlt)]
        · rw [getD_set_other hji] at hl
          exact h.hcl j o' hj hl e he hbe
    · intro j o' u hj hu
      by_cases hji : i = j
      · subst hji
        rw [ho] at hj
        cases hj
        rw [upd_same] at hu
        cases hu
        refine ⟨by unfold At; rw [hV]; exact hv, fun d hd => ?_⟩
        rw [hd, getD_put, if_pos ⟨rfl, by rw [h.hsz]; exact (hdst d hd).1⟩]
      · rw [upd_other _ _ (Ne.symm hji)] at hu
        obtain ⟨h0, h0'⟩ := h.hval j o' u hj hu
        refine ⟨?_, fun d' hd' => ?_⟩
        · unfold At at h0 ⊢
          cases hVj : Vs[j]? with
          | none => trivial
          | some U => rw [hVj] at h0; exact hst U (List.mem_of_getElem? hVj) _ _ _ hr h0
        · rw [← h0' d' hd']
          cases hd : o.dst with
          | none => rfl
          | some d =>
            rw [getD_put, if_neg]
            rintro ⟨rfl, _⟩
            exact hji ((hdst d hd).2 j o' hj hd').symm
  unfold wpOpIn
  simp only [ho]
  rw [← wanted_eq]
  cases hw : wantedEv ops o a.eval with
  | true =>
    simp only [if_true]
    exact wpIn_of_yields (h1 hw) fun v w' ⟨hr, hv, hj⟩ => done v w' hr hv hj
  | false =>
    simp only [Bool.false_eq_true, if_false]
    exact ⟨fun _ _ => trivial, done undef w (hre w) (h2 hw).1 (h2 hw).2⟩

theorem wpAny_of_inv {I : Array Bool → Act → World → Prop} {Q : Exit → Act → World → Prop} (hstep : ∀ listed a w, I listed a w → ∀ i ∈ Region.ready .any ops listed, wpOpIn Fence.wide m P ops Q i (I (listed.setIfInBounds i true)) a w)
    (hend : ∀ listed a w, I listed a w → Region.ready .any ops listed = [] → Q .normal a w) :
    ∀ (fuel : Nat) (listed : Array Bool) (a : Act) (w : World), (listed.toList.filter (! ·)).length ≤ fuel → I listed a w → wpAnyIn Fence.wide m P .any ops Q fuel listed a w
  | 0, listed, a, w, hf, h => by
    have hr : Region.ready .any ops listed = [] := by
      rw [List.eq_nil_iff_forall_not_mem]
      intro i hi
      have hun := (mem_ready.1 hi).1
      have h0 : (listed.toList.filter (! ·)) = [] := List.length_eq_zero_iff.1 (by omega)
      rcases Nat.lt_or_ge i listed.size with hl | hl
      · have hg : listed[i] = false := by simpa [hl] using hun
        have : false ∈ listed.toList.filter (! ·) := List.mem_filter.2 ⟨by rw [← hg]; simp, rfl⟩
        rw [h0] at this; cases this
      · simp [Array.getElem?_eq_none hl] at hun
    exact ⟨hr, hend _ _ _ h hr⟩
  | fuel + 1, listed, a, w, hf, h => by
    refine ⟨fun hr => hend _ _ _ h hr, fun i hi => wpOpIn_mono (fun a' w' h' => wpAny_of_inv hstep hend fuel _ a' w' ?_ h') (hstep _ _ _ h i hi)⟩
    have hun := (mem_ready.1 hi).1
    have hl : i < listed.size := by
      rcases Nat.lt_or_ge i listed.size with hl | hl
      · exact hl
      · simp [Array.getElem?_eq_none hl] at hun
    have hg : listed[i] = false := by simpa [hl] using hun
    have hg' : listed.toList[i]? = some false := by simp [hl, hg]
    have key : ∀ (l : List Bool) (i : Nat), l[i]? = some false → ((l.set i true).filter (! ·)).length + 1 = (l.filter (! ·)).length := by
      intro l
      induction l with
      | nil => intro i h; simp at h
      | cons x r ih =>
        intro i h
        cases i with
        | zero => simp at h; subst h; simp
        | succ i =>
          have := ih i (by simpa using h)
          cases x <;> simp [List.filter_cons] <;> omega
    have := key listed.toList i hg'
    rw [Array.toList_setIfInBounds]
    omega

/-- What is asked behind the region. -/
def Behind (R : World → World → Prop) (J : JT) (w0 : World) (a0 : Act) (l : List Oper) (Q : Exit → Act → World → Prop) (Vs : List VT) : Prop :=
  ∀ xs w', R w0 w' → AllV Vs xs w' l.length → (∃ X, J X w' ∧ ∀ i, i < l.length → X i = some (xs i)) → Q .normal (putsFrom xs l 0 a0) w'

theorem wp_free {id : Nat} {l : List Oper} {Q : Exit → Act → World → Prop} {w : World} (hm : P.follows .mixedOrders = true) (hwf : wfB2 l.toArray a0.tmps.size = true)
    (hre : ∀ a, R a a) (htr : ∀ a b c, R a b → R b c → R a c) (hJ0 : J (fun _ => none) w.drew)
    (h : Chain m P R J w.drew a0 l.toArray (Behind R J w.drew a0 l Q) l []) : (Code.region id l.toArray true).wpIn Fence.wide m P Q a0 w := by
  obtain ⟨Us, h1, h2, h3, h4⟩ := Chain.all l [] h (by simp)
  simp only [List.nil_append, List.length_nil, Nat.zero_add] at h1 h3 h4
  refine wpIn_region_any hm ?_
  refine wpAny_of_inv (I := InvE R J w.drew a0 l.toArray Us) (fun listed a w' ⟨X, hI⟩ i hi => hI.step hwf hre htr h3 (fun i o ho => h4 i o (by simpa using ho)) hi) ?_ _ _ _ _ (by
    simp [List.filter_replicate]) ⟨fun _ => none, rfl, rfl, by simp, hre _, hJ0, fun i hi => by
      have hi' : i < l.length := by simpa using hi
      simp [hi'], fun _ _ => rfl, fun i o ho hl => (by
      have hil := (Array.getElem?_eq_some_iff.1 ho).1
      have hil' : i < l.length := by simpa using hil
      simp [hil'] at hl), fun i o v ho hv => by cases hv⟩
  rintro listed a w' ⟨X, hI⟩ hr
  have hall : ∀ i, i < l.length → listed.getD i true = true := by
    intro i
    induction i using Nat.strongRecOn with
    | _ i ih =>
      intro hi
      by_cases hl : listed.getD i true = true
      · exact hl
      · exfalso
        have ho : l.toArray[i]? = some l[i] := by simp [hi]
        have hmem : i ∈ Region.ready .any l.toArray listed := by
          refine mem_ready.2 ⟨by simpa using hl, l[i], ho, fun e he hb => ?_⟩
          have hlt := (wf_spec2 hwf ho).1 e he hb
          have := ih e.on hlt (by omega)
          have hs : e.on < listed.size := by rw [hI.hls]; simp; omega
          simpa [hs] using this
        rw [hr] at hmem
        cases hmem
  have hXs : ∀ i, i < l.length → X i = some ((X i).getD undef) := by
    intro i hi
    obtain ⟨v, hv⟩ := (hI.hX i (by simpa using hi)).1 (hall i hi)
    rw [hv]; rfl
  let xs : Nat → Value := fun i => (X i).getD undef
  have hxs : ∀ i (hi : i < l.length), At Us i (xs i) w' ∧ ∀ d, l[i].dst = some d → xs i = a.tmps.getD d undef := by
    intro i hi
    have := hI.hval i l[i] _ (by simp [hi]) (hXs i hi)
    exact ⟨this.1, fun d hd => (this.2 d hd).symm⟩
  have hfin := h1 xs w' hI.hR (AllV.of _ fun i hi => (hxs i hi).1) ⟨X, hI.hJ, hXs⟩
  have huniq : ∀ (i j : Nat) (o o' : Oper) d, l[i]? = some o → l[j]? = some o' → o.dst = some d → o'.dst = some d → i = j := by
    intro i j o o' d h1 h2 h3 h4
    exact (((wf_spec2 hwf (i := i) (o := o) (by simpa using h1)).2 d h3).2 j o' (by simpa using h2) h4).symm
  have ha : a = putsFrom xs l 0 a0 := by
    have htm : a.tmps = (putsFrom xs l 0 a0).tmps := by
      refine Array.ext_getElem? fun t => ?_
      by_cases ht : t < a0.tmps.size
      · have e1 := putsFrom_getD xs l 0 a0 t ht huniq
        have key : a.tmps.getD t undef = (putsFrom xs l 0 a0).tmps.getD t undef := by
          rw [e1]
          cases hf : l.findIdx? (fun o => o.dst == some t) with
          | some i =>
            obtain ⟨hi, hp, _⟩ := List.findIdx?_eq_some_iff_getElem.1 hf
            have := (hxs i hi).2 t (by simpa using hp)
            simp [this]
          | none =>
            rw [List.findIdx?_eq_none_iff] at hf
            refine hI.hout t fun i o ho hd => ?_
            have := hf o (List.mem_of_getElem? (by simpa using ho))
            simp [hd] at this
        have s1 : t < a.tmps.size := by rw [hI.hsz]; exact ht
        have s2 : t < (putsFrom xs l 0 a0).tmps.size := by rw [putsFrom_size]; exact ht
        simpa [s1, s2] using key
      · rw [Array.getElem?_eq_none (by rw [hI.hsz]; omega), Array.getElem?_eq_none (by rw [putsFrom_size]; omega)]
    have hdf : a.defers = (putsFrom xs l 0 a0).defers := by rw [putsFrom_defers, hI.hd]
    cases a
    simp only at htm hdf
    rw [htm, hdf]
  rw [ha]
  exact hfin

/-- One value, in whatever world; J does not look at this operation. -/
theorem Chain.ex {o : Oper} {rest : List Oper} {Vs : List VT} (c : Value) (n : Nat) (hn : Vs.length = n) (D : List (Nat × Tmp)) (T : List Tmp) (hD : deps ops o = D) (hT : outs2 ops n o = T) (hg : o.guard = none) (hre : ∀ a, R a a)
    (hJ : ∀ X W v, J X W → J (upd X Vs.length v) W)
    (hrun : ∀ ev W, Base ev → R w0 W → AllOuts a0 ev T → AllDeps Vs ev W D → (execOp ev o).run P W = .ok (.value c) W)
    (h : Chain m P R J w0 a0 ops Fin rest (Vs ++ [fun v _ => v = c])) : Chain m P R J w0 a0 ops Fin (o :: rest) Vs :=
  ⟨_, fun _ _ _ _ h => h, fun ev W X hb hR hO hDs hj hx hax => by
    subst hn hD hT
    refine ⟨fun _ => ?_, fun hw => by rw [wantedEv_none hg] at hw; cases hw⟩
    rw [hrun ev W hb hR hO hDs]
    exact ⟨hre W, rfl, hJ X W c hj⟩, h⟩
/-- A value of which something holds; J is told anew. -/
theorem Chain.pr {o : Oper} {rest : List Oper} {Vs : List VT} (V : VT) (n : Nat) (hn : Vs.length = n) (D : List (Nat × Tmp)) (T : List Tmp) (hD : deps ops o = D) (hT : outs2 ops n o = T) (hg : o.guard = none) (hs : Stable R V)
    (hrun : ∀ ev W X, Base ev → R w0 W → AllOuts a0 ev T → AllDeps Vs ev W D → J X W → X Vs.length = none → AllX X ev D → Yields m P (fun v W' => R W W' ∧ V v W' ∧ J (upd X Vs.length v) W') ((execOp ev o).run P W))
    (h : Chain m P R J w0 a0 ops Fin rest (Vs ++ [V])) : Chain m P R J w0 a0 ops Fin (o :: rest) Vs :=
  ⟨_, hs, fun ev W X hb hR hO hDs hj hx hax => by
    subst hn hD hT
    exact ⟨fun _ => hrun ev W X hb hR hO hDs hj hx hax, fun hw => by rw [wantedEv_none hg] at hw; cases hw⟩, h⟩
end
end Go.Proofs.YtknpglgpkkhhiaaDoor.Free2I

/- The plan: the iterator without end. -/
namespace Go.Proofs.YtknpglgpkkhhiaaDoor
set_option linter.unusedSimpArgs false
set_option linter.unusedVariables false
open Go.RowKit Go.Proofs.YtknpglgpkkhhiaaDoor.Free2 Go.Proofs.YtknpglgpkkhhiaaDoor.ML RR
attribute [local go_sem] Oper.semAt_some

/-- What the plan's iterator may do between rounds: blocks below n0, and what is no state, stay. -/
structure RQ (n0 : Nat) (a b : World) : Prop where
  below : Below n0 a b
  other : ∀ (k : Nat) (o : Obj), a.heap[k]? = some o → (∀ c f, o ≠ .cells c 109 f) → b.heap[k]? = some o
/-- What a round may do: blocks below s2 stay, and cells but rows of days and some blocks. -/
structure KP (s2 : Nat) (bs : List Nat) (a b : World) : Prop where
  os : b.os = a.os
  tape : b.tape = a.tape
  output : b.output = a.output
  size : a.heap.size ≤ b.heap.size
  keep : ∀ (k : Nat) (o : Obj), a.heap[k]? = some o → (k < s2 ∨ (o.isCells = true ∧ k ∉ bs ∧ ∀ c f, o ≠ .cells c 58 f)) → b.heap[k]? = some o
section
variable {a b c : World} {n0 s2 : Nat} {bs : List Nat}
theorem RQ.refl (n0 : Nat) (a : World) : RQ n0 a a := ⟨Below.refl _ _, fun _ _ h _ => h⟩
theorem RQ.trans (h : RQ n0 a b) (k : RQ n0 b c) : RQ n0 a c := ⟨h.below.trans k.below, fun i o h1 h2 => k.other i o (h.other i o h1 h2) h2⟩
theorem RQ.of_bel (h : Free.Bel a b) (hn : n0 ≤ a.heap.size) : RQ n0 a b := ⟨h.mono hn, fun k o h1 _ => (h.block k (lt_of_heap h1)).trans h1⟩
theorem RQ.set {g o : Nat} {v : Value} {cs : Array Value} {f : Nat × Nat} (hg : n0 ≤ g) (hq : a.heap[g]? = some (.cells cs 109 f)) : RQ n0 a (a.setCell ⟨g, o, none⟩ v) :=
  ⟨(Below.refl _ a).setCell (by simpa using hg) v, fun k p h1 h2 => by
    have hne : k ≠ g := by
      rintro rfl
      rw [hq] at h1
      cases h1
      exact h2 _ _ rfl
    exact (Below.heap_setCell _ _ _ _ (by simpa using hne)).trans h1⟩
theorem KP.refl (s2 : Nat) (bs : List Nat) (a : World) : KP s2 bs a a := ⟨rfl, rfl, rfl, Nat.le_refl _, fun _ _ h _ => h⟩
theorem KP.trans (h : KP s2 bs a b) (k : KP s2 bs b c) : KP s2 bs a c := ⟨k.os.trans h.os, k.tape.trans h.tape, k.output.trans h.output, Nat.le_trans h.size k.size, fun i o h1 h2 => k.keep i o (h.keep i o h1 h2) h2⟩
theorem KP.of_bel (h : Free.Bel a b) : KP s2 bs a b := ⟨h.os, h.tape, h.output, h.size, fun k o h1 _ => (h.block k (lt_of_heap h1)).trans h1⟩
theorem KP.below (h : KP s2 bs a b) (hs : s2 ≤ a.heap.size) : Below s2 a b := ⟨h.os, h.tape, h.output, h.size, fun k hk => by
  have hlt : k < a.heap.size := by omega
  have h1 : a.heap[k]? = some a.heap[k] := Array.getElem?_eq_getElem hlt
  rw [h1, h.keep k _ h1 (.inl hk)]⟩
theorem KP.put {l : Nat} {o o' : Obj} (h : a.heap[l]? = some o) (ho : o.isCells = false) (hl : s2 ≤ l) : KP s2 bs a (a.putObj l o') :=
  ⟨rfl, rfl, rfl, by simp [World.putObj], fun k q h1 h2 => by
    have hne : k ≠ l := by
      rintro rfl
      rw [h] at h1
      cases h1
      rcases h2 with h2 | ⟨h2, _⟩
      · omega
      · rw [ho] at h2; cases h2
    rw [World.putObj_heap_other hne]
    exact h1⟩
theorem KP.set {g o : Nat} {v : Value} (hg : s2 ≤ g) (hb : g ∈ bs) : KP s2 bs a (a.setCell ⟨g, o, none⟩ v) :=
  ⟨rfl, rfl, rfl, by simp, fun k q h1 h2 => by
    have hne : k ≠ g := by
      rintro rfl
      rcases h2 with h2 | ⟨_, h2, _⟩
      · omega
      · exact h2 hb
    exact (Below.heap_setCell _ _ _ _ (by simpa using hne)).trans h1⟩
end
/-- What the plan yields. -/
noncomputable def planP (h : Int) (ys : List Rk) (N : Nat) : List (List Rk × List Int) := (List.range N).map fun k => (planS h ys k, stepE h (planS h ys k))
theorem planP_take (h : Int) (ys : List Rk) (N k : Nat) (hk : k < N) : (planP h ys N).take k ++ [(planS h ys k, stepE h (planS h ys k))] = (planP h ys N).take (k + 1) := by
  unfold planP
  rw [← List.map_take, ← List.map_take, List.take_range, List.take_range, Nat.min_eq_left (Nat.le_of_lt hk), Nat.min_eq_left hk, List.range_succ, List.map_append]
  rfl
theorem planP_all (h : Int) (ys : List Rk) (N : Nat) : (planP h ys N).take N = planP h ys N := List.take_of_length_le (by simp [planP])
/-- A row of a day's numbers. -/
def DayR (d : List Int) (v : Value) (W : World) : Prop := ∃ b0, W.ownsRow b0 3 1 v d.length (d.map (Value.int .i64))
def EP (x : List Rk × List Int) (vs : Array Value) (W : World) : Prop := ∃ v, vs = #[stV (waits x.1), v] ∧ DayR x.2 v W
/-- The greatest number of which something is so. -/
theorem top_ex {N : Nat} {P : Nat → Prop} : (∃ k, k ≤ N ∧ P k) → ∃ m, m ≤ N ∧ P m ∧ ∀ k, k ≤ N → P k → k ≤ m := by
  induction N with
  | zero =>
    rintro ⟨k, hk, hp⟩
    exact ⟨k, hk, hp, fun j hj _ => by omega⟩
  | succ N ih =>
    rintro ⟨k, hk, hp⟩
    by_cases h : P (N + 1)
    · exact ⟨N + 1, Nat.le_refl _, h, fun j hj _ => hj⟩
    · have hle : ∀ j, j ≤ N + 1 → P j → j ≤ N := fun j hj hp => by
        rcases Nat.lt_or_ge N j with h9 | h9
        · obtain rfl : j = N + 1 := by omega
          exact absurd hp h
        · exact h9
      obtain ⟨m, h1, h2, h3⟩ := ih ⟨k, hle k hk hp, hp⟩
      exact ⟨m, by omega, h2, fun j hj hp => h3 j (hle j hj hp) hp⟩
open Classical in
noncomputable def topN (N : Nat) (P : Nat → Prop) : Nat := if h : ∃ k, k ≤ N ∧ P k then Classical.choose (top_ex h) else 0
theorem topN_spec {N : Nat} {P : Nat → Prop} (h : ∃ k, k ≤ N ∧ P k) : topN N P ≤ N ∧ P (topN N P) ∧ ∀ k, k ≤ N → P k → k ≤ topN N P := by
  unfold topN
  rw [dif_pos h]
  exact Classical.choose_spec (top_ex h)
/-- The iterator at work. -/
structure PlanI (J : List (List Rk × List Int) → World → Prop) (n0 yB yb : Nat) (h : Int) (xs : List Rk) (N : Nat) (w2 : World) (k : Nat) (s : Value) (W : World) : Prop where
  le : k ≤ N
  j : J ((planP h xs N).take k) W
  bel : Below w2.heap.size w2 W
  y : W.heap[yB]? = some (.cells #[.pointer (some ⟨yb, 0, none⟩)] 108 (0, 0))
  s : ∃ g, s = .pointer (some ⟨g, 0, none⟩) ∧ n0 ≤ g ∧ W.heap[g]? = some (.cells (arrV (waits (planS h xs k))) 109 (0, 0))
  sz : n0 ≤ W.heap.size
noncomputable def planLeft (J : List (List Rk × List Int) → World → Prop) (n0 yB yb : Nat) (h : Int) (xs : List Rk) (N : Nat) (w2 : World) (s : Value) (W : World) : Nat := N - topN N fun k => PlanI J n0 yB yb h xs N w2 k s W
/-- The region with the yield. -/
structure JP (A T Fq : World → Prop) (d : List Int) (X : XT) (W : World) : Prop where
  o4 : X 4 ≠ none → X 2 ≠ none ∧ X 3 ≠ none
  o5 : X 5 ≠ none → X 0 ≠ none ∧ X 1 ≠ none ∧ X 4 ≠ none
  a : X 5 = none → A W
  il : X 5 = none → ∀ v, X 4 = some v → DayR d v W
  b : ∀ v, X 5 = some v → (v = .bool true ∧ T W) ∨ (v = .bool false ∧ Fq W)
  c : ∀ v, X 6 = some v → (X 5 = some (.bool true) ∧ v = .bool false) ∨ (X 5 = some (.bool false) ∧ v = .bool true)
section
variable {A T Fq : World → Prop} {d : List Int} {X : XT} {W W' : World} {v : Value}
theorem JP.start (hA : A W) : JP A T Fq d (fun _ => none) W := ⟨fun h => absurd rfl h, fun h => absurd rfl h, fun _ => hA, fun _ _ h => (by cases h), fun _ h => (by cases h), fun _ h => (by cases h)⟩
theorem upd_mono {X : XT} {i n : Nat} {v : Value} (h : X i ≠ none) : upd X n v i ≠ none := by
  by_cases e : i = n
  · subst e; rw [upd_same]; simp
  · rw [upd_other _ _ e]; exact h
theorem JP.skip (H : JP A T Fq d X W) (n : Nat) (hn : n < 4) : JP A T Fq d (upd X n v) W :=
  ⟨fun h => by
    rw [upd_other _ _ (by omega)] at h
    exact ⟨upd_mono (H.o4 h).1, upd_mono (H.o4 h).2⟩, fun h => by
    rw [upd_other _ _ (by omega)] at h
    exact ⟨upd_mono (H.o5 h).1, upd_mono (H.o5 h).2.1, upd_mono (H.o5 h).2.2⟩, by rw [upd_other _ _ (by omega)]; exact H.a, by rw [upd_other _ _ (by omega), upd_other _ _ (by omega)]; exact H.il, by rw [upd_other _ _ (by omega)]; exact H.b, by rw [upd_other _ _ (by omega), upd_other _ _ (by omega)]; exact H.c⟩
theorem JP.ids (H : JP A T Fq d X W) (h5 : X 5 = none) (h2 : X 2 ≠ none) (h3 : X 3 ≠ none) (hA : A W') (hv : DayR d v W') : JP A T Fq d (upd X 4 v) W' :=
  ⟨fun _ => ⟨upd_mono h2, upd_mono h3⟩, fun h => by
    rw [upd_other _ _ (by omega), h5] at h
    exact absurd rfl h, fun _ => hA, fun _ u hu => by
    rw [upd_same] at hu
    cases hu
    exact hv, by rw [upd_other _ _ (by omega), h5]; exact fun _ h => (by cases h), by
    rw [upd_other _ _ (by omega), upd_other _ _ (by omega)]
    intro u hu
    rcases H.c u hu with ⟨h9, _⟩ | ⟨h9, _⟩ <;> rw [h5] at h9 <;> cases h9⟩
theorem JP.yield (H : JP A T Fq d X W) (h5 : X 5 = none) (h0 : X 0 ≠ none) (h1 : X 1 ≠ none) (h4 : X 4 ≠ none) (hv : (v = .bool true ∧ T W') ∨ (v = .bool false ∧ Fq W')) : JP A T Fq d (upd X 5 v) W' :=
  ⟨fun h => by
    rw [upd_other _ _ (by omega)] at h
    exact ⟨upd_mono (H.o4 h).1, upd_mono (H.o4 h).2⟩, fun _ => ⟨upd_mono h0, upd_mono h1, upd_mono h4⟩, by rw [upd_same]; exact fun h => (by cases h), by rw [upd_same]; exact fun h => (by cases h), by
    rw [upd_same]
    intro u hu
    cases hu
    exact hv, by
    rw [upd_other _ _ (by omega)]
    intro u hu
    rcases H.c u hu with ⟨h9, _⟩ | ⟨h9, _⟩ <;> rw [h5] at h9 <;> cases h9⟩
theorem JP.not (H : JP A T Fq d X W) (hv : (X 5 = some (.bool true) ∧ v = .bool false) ∨ (X 5 = some (.bool false) ∧ v = .bool true)) : JP A T Fq d (upd X 6 v) W :=
  ⟨fun h => by
    rw [upd_other _ _ (by omega)] at h
    exact ⟨upd_mono (H.o4 h).1, upd_mono (H.o4 h).2⟩, fun h => by
    rw [upd_other _ _ (by omega)] at h
    exact ⟨upd_mono (H.o5 h).1, upd_mono (H.o5 h).2.1, upd_mono (H.o5 h).2.2⟩, by rw [upd_other _ _ (by omega)]; exact H.a, by rw [upd_other _ _ (by omega), upd_other _ _ (by omega)]; exact H.il, by rw [upd_other _ _ (by omega)]; exact H.b, by
    rw [upd_same, upd_other _ _ (by omega)]
    intro u hu
    cases hu
    exact hv⟩
end
end Go.Proofs.YtknpglgpkkhhiaaDoor

/- The plan: its iterator's walk. -/
namespace Go.Proofs.YtknpglgpkkhhiaaDoor
set_option linter.unusedSimpArgs false
set_option linter.unusedVariables false
open Go.RowKit Go.Proofs.YtknpglgpkkhhiaaDoor.Free2 Go.Proofs.YtknpglgpkkhhiaaDoor.ML RR
attribute [local go_sem] Oper.semAt_some

theorem ne_pt {cs : Array Value} {f : Nat × Nat} {c : Array Value} {g : Nat × Nat} : Obj.cells cs 108 f ≠ .cells c 58 g := by intro h; cases h
theorem ne_st {cs : Array Value} {f : Nat × Nat} {c : Array Value} {g : Nat × Nat} : Obj.cells cs 109 f ≠ .cells c 58 g := by intro h; cases h
theorem ne_pst {cs : Array Value} {f : Nat × Nat} {c : Array Value} {g : Nat × Nat} : Obj.cells cs 108 f ≠ .cells c 109 g := by intro h; cases h
theorem plan_step {h : Int} {xs zs : List Rk} {L : List Q4} (h4 : xs.length ≤ 4) (hE : EverIs h xs L) (hz : StOf xs zs) (he : everB h zs = true) : stepS xs (waits zs) L (D7 h xs) = (tset xs (stepE h zs), waits (dayR (stepE h zs) zs), true) := by
  have h1 := stepS_first (h := h) hz.1 L
  have h2 : firstD h (fun zs => decide (q4 (waits zs) ∈ L)) zs = firstD h (everB h) zs := firstD_congr hz fun ys hy => hE.has h4 hy
  rw [D7, h1, h2, (ever_step he).1]
theorem plan_any (yb : Nat) (w : World) : Calls Tryd.prog 81 #[.pointer (some ⟨yb, 0, none⟩)] w fun e w' => e = .returned (.func (.func 102) #[] #[.pointer (some ⟨w.heap.size, 0, none⟩)]) ∧ w.alloc (.cells #[.pointer (some ⟨yb, 0, none⟩)] 108) = w' := by
  go_enter Tryd.func81, Tryd.ntmps81
  go_wp2_with fail
  go_ret
  exact ⟨rfl, rfl⟩
set_option maxRecDepth 100000 in
set_option maxHeartbeats 16000000 in
theorem plan1_in (n l n0 yB yb gb N : Nat) (bs : List Nat) (h : Int) (xs : List Rk) (u dv : Value) (L : List Q4) (hn : 1 ≤ n) (w2 W : World) (hY : YE yb gb h xs u dv L w2) (hw : watchB h xs = true) (he : everB h xs = true)
    (hyB : W.heap[yB]? = some (.cells #[.pointer (some ⟨yb, 0, none⟩)] 108 (0, 0))) (hyn : yB < n0) (hyb : yB ∉ bs) (hbs : ∀ b ∈ bs, b < n0) (h2n : w2.heap.size ≤ n0) (hsz : n0 ≤ W.heap.size) (hB : Below w2.heap.size w2 W)
    (J Jx : List (List Rk × List Int) → World → Prop) (hJ : Abide (RQ n0) J) (hJx : Abide (RQ n0) Jx)
    (hYl : ∀ pre x vs W1, pre ++ [x] <+: planP h xs N → EP x vs W1 → J pre W1 → YieldAt Fence.wide (n - 1) Tryd.prog l vs W1 fun e W' =>
      (e = .returned (.bool true) ∧ J (pre ++ [x]) W' ∧ KP w2.heap.size bs W1 W') ∨ (e = .returned (.bool false) ∧ Jx (pre ++ [x]) W'))
    (hno : ∀ W, ¬ J (planP h xs N) W) (hJ0 : J [] W) :
    CallsIn Fence.wide n Tryd.prog 102 (#[.func (.yield l) #[] #[]] ++ #[.pointer (some ⟨yB, 0, none⟩)]) W fun e W' => (∃ v, e = .returned v) ∧ (∃ pre, pre <+: planP h xs N ∧ Jx pre W') := by
  have H4 := Lib.hid (watchB_iff.1 hw).2.1
  have HYE := Lib.hid (fun (W' : World) (hW : Below w2.heap.size w2 W') => hY.bel hW)
  have HPR := Lib.hid (And.intro hJ (And.intro hJx (And.intro hYl hno)))
  have HNN := Lib.hid (And.intro hyn (And.intro hyb (And.intro hbs (And.intro h2n hsz))))
  have HST := Lib.hid (And.intro (st_self hw) he)
  have HW6 := Lib.hid (fun x hx => (watchB_ok hw x hx).2.2.2.1)
  have HWW := Lib.hid hw
  have y0 := cell_of_heap (o := 0) hyB rfl
  have HI := Lib.hid (And.intro hyB (And.intro hB hJ0))
  have HNOW := Lib.hid (now_any yb xs u W (hY.bel hB).yw.c1 (hY.bel hB).yw.rl (watchB_iff.1 hw).2.1)
  clear hJ hJx hYl hno hyn hyb hbs h2n hsz hw he hyB hB hJ0 hY
  refine callsIn_of_wp Tryd.func102 rfl trivial ?_ rfl
  simp only [Tryd.ntmps102, List.size_toArray, List.length_cons, List.length_nil, Nat.reduceAdd, Nat.reduceSub, Array.replicate_succ, Array.replicate_zero, List.push_toArray, List.append_toArray, an1, an2]
  gi_wp2
  refine ⟨trivial, ?_⟩
  gi_at_call 92
  refine (callsIn_wide.2 HNOW.out).mono ?_
  rintro e w1 ⟨rfl, hB1⟩
  have K1 : Free.Bel W w1 := hB1
  have KS : Free.Bel w1 (w1.alloc (.cells (arrV (waits xs)) 109)) := belAlloc _ _
  have mS : (w1.alloc (.cells (arrV (waits xs)) 109)).heap[w1.heap.size]? = some (.cells (arrV (waits xs)) 109 (0, 0)) := World.alloc_heap_new w1 _
  have HI1 := Lib.hid (show PlanI J n0 yB yb h xs N w2 0 (.pointer (some ⟨w1.heap.size, 0, none⟩)) (w1.alloc (.cells (arrV (waits xs)) 109)) from by
    obtain ⟨hyB, hB, hJ0⟩ := HI.out
    have hsz := HNN.out.2.2.2.2
    exact ⟨Nat.zero_le _, by rw [List.take_zero]; exact HPR.out.1 _ _ _ hJ0 (.of_bel (bt K1 KS) hsz), Below.trans hB (Below.mono (bt K1 KS) hB.size), ((bt K1 KS).block _ (lt_of_heap hyB)).trans hyB, ⟨_, rfl, Nat.le_trans hsz K1.size, mS⟩, Nat.le_trans hsz (bt K1 KS).size⟩)
  clear hB1 K1 KS mS
  gi_wp2
  clear y0
  gi_loopw [4] (fun s wr => ∃ k, PlanI J n0 yB yb h xs N w2 k s wr) (fun s wr => planLeft J n0 yB yb h xs N w2 s wr)
  case atStart => exact ⟨0, HI1.out⟩
  case round =>
    obtain ⟨k, hI, hmx⟩ : ∃ k, PlanI J n0 yB yb h xs N w2 k u4 wr ∧ planLeft J n0 yB yb h xs N w2 u4 wr = N - k := by
      obtain ⟨k0, h0⟩ := hrel
      have := topN_spec (N := N) (P := fun k => PlanI J n0 yB yb h xs N w2 k u4 wr) ⟨k0, h0.le, h0⟩
      exact ⟨_, this.2.1, rfl⟩
    clear hrel
    have HMX := Lib.hid hmx
    clear hmx
    obtain ⟨g, rfl, hgn, hg⟩ := hI.s
    have hkN : k < N := by
      rcases Nat.lt_or_ge k N with h9 | h9
      · exact h9
      · have : k = N := by have := hI.le; omega
        subst this
        exact absurd (planP_all h xs k ▸ hI.j) (HPR.out.2.2.2 _)
    obtain ⟨hzs, hze⟩ := planS_ever HST.out.1 HST.out.2 k
    have hpx := planP_take h xs N k hkN
    have hst := plan_step H4.out (HYE.out _ hI.bel).ev hzs hze
    have hturn : turnB h xs (stepE h (planS h xs k)) = true := (mem_daysL HWW.out).1 (by rw [← daysL_ids hzs.1.ids]; exact (ever_step hze).2.1)
    have hids := ids_tset HWW.out hturn
    have hnx : dayR (stepE h (planS h xs k)) (planS h xs k) = planS h xs (k + 1) := rfl
    rw [hnx] at hst
    have hSb : ∀ i, 0 ≤ waits (planS h xs k) i ∧ waits (planS h xs k) i ≤ 1000000 := waits_st hzs HW6.out
    obtain ⟨d, hd⟩ : ∃ y, stepE h (planS h xs k) = y := ⟨_, rfl⟩
    rw [hd] at hst hturn hids hpx
    obtain ⟨S, hS⟩ : ∃ y, waits (planS h xs k) = y := ⟨_, rfl⟩
    obtain ⟨RS, hRS⟩ : ∃ y, waits (planS h xs (k + 1)) = y := ⟨_, rfl⟩
    obtain ⟨RT, hRT⟩ : ∃ y, tset xs d = y := ⟨_, rfl⟩
    have HSE := Lib.hid (And.intro hS (And.intro hRS hd))
    rw [hS] at hg hst hSb
    rw [hRS, hRT] at hst
    rw [hRT] at hids
    have HSC := Lib.hid (fun (W' : World) (hW : Below w2.heap.size w2 W') => (HYE.out W' hW).yw.step (HYE.out W' hW).mp H4.out S hSb RT RS true (Lib.hid hst))
    have HID := Lib.hid (fun (W' : World) (hW : Below w2.heap.size w2 W') => ids_any yb xs RT u W' (HYE.out W' hW).yw.c1 (HYE.out W' hW).yw.rl H4.out)
    have HIDS := Lib.hid hids
    have HPX := Lib.hid (And.intro hpx hkN)
    have HII := Lib.hid hI
    have HGN := Lib.hid (And.intro hgn hg)
    clear hst hSb hids hpx hturn hzs hze hnx hS hRS hRT hd hkN hI hgn hg
    gi_wp2
    have hF : ∀ W, Below wr.heap.size wr.drew W → Free.Bel wr W := fun W hW => (show Below wr.heap.size wr W from ((Below.refl _ wr).drew).trans hW)
    have FA : ∀ W, Free.Bel wr W → W.cell? ⟨yB, 0, none⟩ = some (.pointer (some ⟨yb, 0, none⟩)) ∧ W.cell? ⟨yb, 2, none⟩ = some (.map (some gb)) ∧ W.cell? ⟨g, 0, none⟩ = some (.int .i64 (S 0)) ∧ W.cell? ⟨g, 1, none⟩ = some (.int .i64 (S 1)) ∧ W.cell? ⟨g, 2, none⟩ = some (.int .i64 (S 2)) ∧ W.cell? ⟨g, 3, none⟩ = some (.int .i64 (S 3)) := fun W hW =>
      ⟨keepsB hW (cell_of_heap HII.out.y rfl), keepsB hW (HYE.out _ HII.out.bel).yw.c2, keepsB hW (cell_of_heap HGN.out.2 rfl), keepsB hW (cell_of_heap HGN.out.2 rfl), keepsB hW (cell_of_heap HGN.out.2 rfl), keepsB hW (cell_of_heap HGN.out.2 rfl)⟩
    refine Free2I.wp_free (R := Below wr.heap.size) (J := LL wr.heap.size [⟨11, 13, (.cells #[.bool false, .bool false, .bool false, .bool false] 149), (.cells #[.bool (RT 0), .bool (RT 1), .bool (RT 2), .bool (RT 3)] 149)⟩, ⟨12, 14, (.cells #[.int .i64 0, .int .i64 0, .int .i64 0, .int .i64 0] 109), (.cells #[.int .i64 (RS 0), .int .i64 (RS 1), .int .i64 (RS 2), .int .i64 (RS 3)] 109)⟩]) (by kernel_rfl) (by kernel_rfl) (Below.refl _) (fun _ _ _ => Below.trans) (LL.start (Nat.le_refl _)) ?_
    refine Free2I.Chain.ex ?_ 0 rfl [] [3] (by kernel_rfl) (by kernel_rfl) rfl (Below.refl _) (fun X W v h => LL.skip h 0 v (by simp)) ?_ ?_
    rotate_left
    · (intro ev W hb hR hO hD; have hS0 := hF W hR; have hS := FA W hS0; obtain ⟨hb1, hb2, hb3⟩ := hb; simp only [Free.AllDeps, Free.AllOuts, Free.At, al1, al2, al3, al4, al5, and_true] at hO hD; go_simp; rfl)
    simp only [an1, an2]
    refine Free2I.Chain.ex ?_ 1 rfl [] [4] (by kernel_rfl) (by kernel_rfl) rfl (Below.refl _) (fun X W v h => LL.skip h 1 v (by simp)) ?_ ?_
    rotate_left
    · (intro ev W hb hR hO hD; have hS0 := hF W hR; have hS := FA W hS0; obtain ⟨hb1, hb2, hb3⟩ := hb; simp only [Free.AllDeps, Free.AllOuts, Free.At, al1, al2, al3, al4, al5, and_true] at hO hD; go_simp; rfl)
    simp only [an1, an2]
    refine Free2I.Chain.ex ?_ 2 rfl [] [1] (by kernel_rfl) (by kernel_rfl) rfl (Below.refl _) (fun X W v h => LL.skip h 2 v (by simp)) ?_ ?_
    rotate_left
    · (intro ev W hb hR hO hD; have hS0 := hF W hR; have hS := FA W hS0; obtain ⟨hb1, hb2, hb3⟩ := hb; simp only [Free.AllDeps, Free.AllOuts, Free.At, al1, al2, al3, al4, al5, and_true] at hO hD; go_simp; rfl)
    simp only [an1, an2]
    refine Free2I.Chain.ex ?_ 3 rfl [(2, 15)] [] (by kernel_rfl) (by kernel_rfl) rfl (Below.refl _) (fun X W v h => LL.skip h 3 v (by simp)) ?_ ?_
    rotate_left
    · (intro ev W hb hR hO hD; have hS0 := hF W hR; have hS := FA W hS0; obtain ⟨hb1, hb2, hb3⟩ := hb; simp only [Free.AllDeps, Free.AllOuts, Free.At, al1, al2, al3, al4, al5, and_true] at hO hD; go_simp; rfl)
    simp only [an1, an2]
    refine Free2I.Chain.ex ?_ 4 rfl [(3, 16)] [] (by kernel_rfl) (by kernel_rfl) rfl (Below.refl _) (fun X W v h => LL.skip h 4 v (by simp)) ?_ ?_
    rotate_left
    · (intro ev W hb hR hO hD; have hS0 := hF W hR; have hS := FA W hS0; obtain ⟨hb1, hb2, hb3⟩ := hb; simp only [Free.AllDeps, Free.AllOuts, Free.At, al1, al2, al3, al4, al5, and_true] at hO hD; go_simp; rfl)
    simp only [an1, an2]
    refine Free2I.Chain.ex ?_ 5 rfl [(4, 17)] [] (by kernel_rfl) (by kernel_rfl) rfl (Below.refl _) (fun X W v h => LL.skip h 5 v (by simp)) ?_ ?_
    rotate_left
    · (intro ev W hb hR hO hD; have hS0 := hF W hR; have hS := FA W hS0; obtain ⟨hb1, hb2, hb3⟩ := hb; simp only [Free.AllDeps, Free.AllOuts, Free.At, al1, al2, al3, al4, al5, and_true] at hO hD; go_simp; rfl)
    simp only [an1, an2]
    refine Free2I.Chain.pr (fun v _ => v = .tuple #[stB RT, stV RS, .bool true]) 6 rfl [(0, 13), (1, 14), (5, 18)] [] (by kernel_rfl) (by kernel_rfl) rfl (fun _ _ _ _ h => h) ?_ ?_
    · (intro ev W X hb hR hO hD hj hx hax; have hS0 := hF W hR; have hS := FA W hS0; obtain ⟨hb1, hb2, hb3⟩ := hb; simp only [Free.AllDeps, Free.AllOuts, Free.At, al1, al2, al3, al4, al5, and_true] at hO hD; simp only [Free2.AllX, and_true] at hax; have hb9 : Below w2.heap.size w2 W := Below.trans HII.out.bel (Below.mono (show Below wr.heap.size wr W from hS0) HII.out.bel.size); go_simp; refine Free2I.yields_enter ?_; (with_reducible refine (HSC.out _ hb9).mono ?_); rintro e W2 ⟨rfl, hB2⟩; exact ⟨_, rfl, hB2.mono hj.size, rfl, (hj.bel hB2).skip 6 _ (by simp)⟩)
    simp only [an1, an2]
    refine Free2I.Chain.ex ?_ 7 rfl [(6, 19)] [] (by kernel_rfl) (by kernel_rfl) rfl (Below.refl _) (fun X W v h => LL.skip h 7 v (by simp)) ?_ ?_
    rotate_left
    · (intro ev W hb hR hO hD; have hS0 := hF W hR; have hS := FA W hS0; obtain ⟨hb1, hb2, hb3⟩ := hb; simp only [Free.AllDeps, Free.AllOuts, Free.At, al1, al2, al3, al4, al5, and_true] at hO hD; go_simp; rfl)
    simp only [an1, an2]
    refine Free2I.Chain.ex ?_ 8 rfl [(7, 12)] [] (by kernel_rfl) (by kernel_rfl) rfl (Below.refl _) (fun X W v h => LL.skip h 8 v (by simp)) ?_ ?_
    rotate_left
    · (intro ev W hb hR hO hD; have hS0 := hF W hR; have hS := FA W hS0; obtain ⟨hb1, hb2, hb3⟩ := hb; simp only [Free.AllDeps, Free.AllOuts, Free.At, al1, al2, al3, al4, al5, and_true] at hO hD; go_simp; rfl)
    simp only [an1, an2]
    refine Free2I.Chain.ex ?_ 9 rfl [(7, 12)] [] (by kernel_rfl) (by kernel_rfl) rfl (Below.refl _) (fun X W v h => LL.skip h 9 v (by simp)) ?_ ?_
    rotate_left
    · (intro ev W hb hR hO hD; have hS0 := hF W hR; have hS := FA W hS0; obtain ⟨hb1, hb2, hb3⟩ := hb; simp only [Free.AllDeps, Free.AllOuts, Free.At, al1, al2, al3, al4, al5, and_true] at hO hD; go_simp; rfl)
    simp only [an1, an2]
    refine Free2I.Chain.ex ?_ 10 rfl [(7, 12)] [] (by kernel_rfl) (by kernel_rfl) rfl (Below.refl _) (fun X W v h => LL.skip h 10 v (by simp)) ?_ ?_
    rotate_left
    · (intro ev W hb hR hO hD; have hS0 := hF W hR; have hS := FA W hS0; obtain ⟨hb1, hb2, hb3⟩ := hb; simp only [Free.AllDeps, Free.AllOuts, Free.At, al1, al2, al3, al4, al5, and_true] at hO hD; go_simp; rfl)
    simp only [an1, an2]
    refine Free2I.Chain.pr (fun v _ => ∃ b, v = ptr b) 11 rfl [] [] (by kernel_rfl) (by kernel_rfl) rfl (fun _ _ _ _ h => h) ?_ ?_
    · (intro ev W X hb hR hO hD hj hx hax; have hS0 := hF W hR; have hS := FA W hS0; obtain ⟨hb1, hb2, hb3⟩ := hb; simp only [Free.AllDeps, Free.AllOuts, Free.At, al1, al2, al3, al4, al5, and_true] at hO hD; simp only [Free2.AllX, and_true] at hax; go_simp; exact ⟨(Below.refl _ W).alloc hj.size _, ⟨_, rfl⟩, hj.new ⟨11, 13, (.cells #[.bool false, .bool false, .bool false, .bool false] 149), (.cells #[.bool (RT 0), .bool (RT 1), .bool (RT 2), .bool (RT 3)] 149)⟩ (by simp) (by simp) hx⟩)
    simp only [an1, an2]
    refine Free2I.Chain.pr (fun v _ => ∃ b, v = ptr b) 12 rfl [] [] (by kernel_rfl) (by kernel_rfl) rfl (fun _ _ _ _ h => h) ?_ ?_
    · (intro ev W X hb hR hO hD hj hx hax; have hS0 := hF W hR; have hS := FA W hS0; obtain ⟨hb1, hb2, hb3⟩ := hb; simp only [Free.AllDeps, Free.AllOuts, Free.At, al1, al2, al3, al4, al5, and_true] at hO hD; simp only [Free2.AllX, and_true] at hax; go_simp; exact ⟨(Below.refl _ W).alloc hj.size _, ⟨_, rfl⟩, hj.new ⟨12, 14, (.cells #[.int .i64 0, .int .i64 0, .int .i64 0, .int .i64 0] 109), (.cells #[.int .i64 (RS 0), .int .i64 (RS 1), .int .i64 (RS 2), .int .i64 (RS 3)] 109)⟩ (by simp) (by simp) hx⟩)
    simp only [an1, an2]
    refine Free2I.Chain.pr (fun _ _ => True) 13 rfl [(11, 5), (8, 20), (6, 19), (0, 13), (1, 14), (2, 15), (3, 16), (4, 17), (5, 18), (6, 19), (7, 12), (8, 20), (11, 5), (12, 6)] [] (by kernel_rfl) (by kernel_rfl) rfl (fun _ _ _ _ h => h) ?_ ?_
    · (intro ev W X hb hR hO hD hj hx hax; have hS0 := hF W hR; have hS := FA W hS0; obtain ⟨hb1, hb2, hb3⟩ := hb; simp only [Free.AllDeps, Free.AllOuts, Free.At, al1, al2, al3, al4, al5, and_true] at hO hD; simp only [Free2.AllX, and_true] at hax; obtain ⟨b, hb9, hs0, hbl⟩ := hj.at_ ⟨11, 13, (.cells #[.bool false, .bool false, .bool false, .bool false] 149), (.cells #[.bool (RT 0), .bool (RT 1), .bool (RT 2), .bool (RT 3)] 149)⟩ (by simp) hax.1 hx; have hX := hax.1; rw [hb9] at hX; have hp := hj.puts ⟨11, 13, (.cells #[.bool false, .bool false, .bool false, .bool false] 149), (.cells #[.bool (RT 0), .bool (RT 1), .bool (RT 2), .bool (RT 3)] 149)⟩ (by simp) (by simp) hX hs0 hbl [(0, .bool (RT 0)), (1, .bool (RT 1)), (2, .bool (RT 2)), (3, .bool (RT 3))] rfl; obtain ⟨y0, y1, y2, y3, t0, t1, t2, t3⟩ := cells4 hbl; go_simp; exact ⟨(hp undef).1, (hp _).2⟩)
    simp only [an1, an2]
    refine Free2I.Chain.pr (fun _ _ => True) 14 rfl [(12, 6), (9, 21), (0, 13), (1, 14), (2, 15), (3, 16), (4, 17), (5, 18), (6, 19), (7, 12), (8, 20), (9, 21), (11, 5), (12, 6)] [] (by kernel_rfl) (by kernel_rfl) rfl (fun _ _ _ _ h => h) ?_ ?_
    · (intro ev W X hb hR hO hD hj hx hax; have hS0 := hF W hR; have hS := FA W hS0; obtain ⟨hb1, hb2, hb3⟩ := hb; simp only [Free.AllDeps, Free.AllOuts, Free.At, al1, al2, al3, al4, al5, and_true] at hO hD; simp only [Free2.AllX, and_true] at hax; obtain ⟨b, hb9, hs0, hbl⟩ := hj.at_ ⟨12, 14, (.cells #[.int .i64 0, .int .i64 0, .int .i64 0, .int .i64 0] 109), (.cells #[.int .i64 (RS 0), .int .i64 (RS 1), .int .i64 (RS 2), .int .i64 (RS 3)] 109)⟩ (by simp) hax.1 hx; have hX := hax.1; rw [hb9] at hX; have hp := hj.puts ⟨12, 14, (.cells #[.int .i64 0, .int .i64 0, .int .i64 0, .int .i64 0] 109), (.cells #[.int .i64 (RS 0), .int .i64 (RS 1), .int .i64 (RS 2), .int .i64 (RS 3)] 109)⟩ (by simp) (by simp) hX hs0 hbl [(0, .int .i64 (RS 0)), (1, .int .i64 (RS 1)), (2, .int .i64 (RS 2)), (3, .int .i64 (RS 3))] rfl; obtain ⟨y0, y1, y2, y3, t0, t1, t2, t3⟩ := cells4 hbl; go_simp; exact ⟨(hp undef).1, (hp _).2⟩)
    simp only [an1, an2]
    refine Free2I.Chain.ex ?_ 15 rfl [(10, 22), (0, 13), (1, 14), (2, 15), (3, 16), (4, 17), (5, 18), (6, 19), (7, 12), (8, 20), (9, 21), (10, 22), (11, 5), (12, 6)] [] (by kernel_rfl) (by kernel_rfl) rfl (Below.refl _) (fun X W v h => LL.skip h 15 v (by simp)) ?_ ?_
    rotate_left
    · (intro ev W hb hR hO hD; have hS0 := hF W hR; have hS := FA W hS0; obtain ⟨hb1, hb2, hb3⟩ := hb; simp only [Free.AllDeps, Free.AllOuts, Free.At, al1, al2, al3, al4, al5, and_true] at hO hD; go_simp; rfl)
    simp only [an1, an2]
    intro xs' w5 hR hV hX
    obtain ⟨X, hj, hxx⟩ := hX
    simp only [Free.AllV, Free.At, List.length_cons, List.length_nil, Nat.reduceAdd, List.getElem?_cons_succ, List.getElem?_cons_zero, true_and, and_true] at hV
    obtain ⟨g8, hg8, hs8, hl8⟩ := hj.done ⟨11, 13, (.cells #[.bool false, .bool false, .bool false, .bool false] 149), (.cells #[.bool (RT 0), .bool (RT 1), .bool (RT 2), .bool (RT 3)] 149)⟩ (by simp) (hxx 11 (by decide)) (hxx 13 (by decide))
    obtain ⟨g9, hg9, hs9, hl9⟩ := hj.done ⟨12, 14, (.cells #[.int .i64 0, .int .i64 0, .int .i64 0, .int .i64 0] 109), (.cells #[.int .i64 (RS 0), .int .i64 (RS 1), .int .i64 (RS 2), .int .i64 (RS 3)] 109)⟩ (by simp) (hxx 12 (by decide)) (hxx 14 (by decide))
    simp only [Free.putsFrom, Act.put, Nat.zero_add, Nat.reduceAdd, hV, hg8, hg9, List.setIfInBounds_toArray, List.set_cons_succ, List.set_cons_zero]
    have K5 : Free.Bel wr w5 := hF w5 hR
    have HB5 := Lib.hid (And.intro K5 (And.intro hs8 (And.intro hl8 (And.intro hs9 hl9))))
    clear hR hV hj hxx hg8 hg9 hF FA K5 hs8 hl8 hs9 hl9
    gi_wp2
    have hA : ∀ W, Free.Bel w5.drew W → (J ((planP h xs N).take k) W ∧ Below w2.heap.size w2 W ∧ W.heap[yB]? = some (.cells #[.pointer (some ⟨yb, 0, none⟩)] 108 (0, 0)) ∧ W.heap[g]? = some (.cells (arrV S) 109 (0, 0)) ∧ W.heap[g8]? = some (.cells (arrB RT) 149 (0, 0)) ∧ W.heap[g9]? = some (.cells (arrV RS) 109 (0, 0))) := fun W hW => by
      have hI := HII.out
      have K : Free.Bel wr W := bt HB5.out.1 (bt (Bel.drewT (Free.Bel.refl _)) hW)
      have K5 : Free.Bel w5 W := bt (Bel.drewT (Free.Bel.refl _)) hW
      exact ⟨HPR.out.1 _ _ _ hI.j (.of_bel K hI.sz), Below.trans hI.bel (Below.mono K hI.bel.size), (K.block _ (lt_of_heap hI.y)).trans hI.y, (K.block _ (lt_of_heap HGN.out.2)).trans HGN.out.2, (K5.block _ (lt_of_heap HB5.out.2.2.1)).trans HB5.out.2.2.1, (K5.block _ (lt_of_heap HB5.out.2.2.2.2)).trans HB5.out.2.2.2.2⟩
    have HA := Lib.hid hA
    clear hA
    have hF : ∀ W : World, True → True := fun _ _ => trivial
    refine Free2I.wp_free (R := (fun _ _ : World => True)) (J := JP (fun W => Free.Bel w5.drew W) (fun W => J ((planP h xs N).take (k + 1)) W ∧ ∃ W1, Free.Bel w5.drew W1 ∧ KP w2.heap.size bs W1 W) (fun W => Jx ((planP h xs N).take (k + 1)) W) d) (by kernel_rfl) (by kernel_rfl) (fun _ => trivial) (fun _ _ _ _ _ => trivial) (JP.start (Free.Bel.refl _)) ?_
    refine Free2I.Chain.pr (fun u _ => u = .func (.yield l) #[] #[]) 0 rfl [] [0] (by kernel_rfl) (by kernel_rfl) rfl (fun _ _ _ _ h => h) ?_ ?_
    · (intro ev W X hb hR hO hD hj hx hax; have hS := hF W hR; obtain ⟨hb1, hb2, hb3⟩ := hb; simp only [Free.AllDeps, Free.AllOuts, Free.At, al1, al2, al3, al4, al5, and_true] at hO hD; simp only [Free2.AllX, and_true] at hax; go_simp; exact ⟨rfl, JP.skip hj 0 (by omega)⟩)
    simp only [an1, an2]
    refine Free2I.Chain.pr (fun u _ => u = stV S) 1 rfl [] [4] (by kernel_rfl) (by kernel_rfl) rfl (fun _ _ _ _ h => h) ?_ ?_
    · (intro ev W X hb hR hO hD hj hx hax; have hS := hF W hR; obtain ⟨hb1, hb2, hb3⟩ := hb; simp only [Free.AllDeps, Free.AllOuts, Free.At, al1, al2, al3, al4, al5, and_true] at hO hD; simp only [Free2.AllX, and_true] at hax; have h5 : X 5 = none := (by cases h9 : X 5; rfl; exact absurd hx (hj.o5 (by rw [h9]; simp)).2.1); have ha := hj.a h5; obtain ⟨b1, b2, b3, b4, b5, b6⟩ := HA.out W ha; obtain ⟨c0, c1, c2, c3, _⟩ := cells4 b4; go_simp; exact ⟨rfl, JP.skip hj 1 (by omega)⟩)
    simp only [an1, an2]
    refine Free2I.Chain.pr (fun u _ => u = .pointer (some ⟨yb, 0, none⟩)) 2 rfl [] [1] (by kernel_rfl) (by kernel_rfl) rfl (fun _ _ _ _ h => h) ?_ ?_
    · (intro ev W X hb hR hO hD hj hx hax; have hS := hF W hR; obtain ⟨hb1, hb2, hb3⟩ := hb; simp only [Free.AllDeps, Free.AllOuts, Free.At, al1, al2, al3, al4, al5, and_true] at hO hD; simp only [Free2.AllX, and_true] at hax; have h5 : X 5 = none := (by cases h9 : X 5; rfl; exact absurd hx (hj.o4 (hj.o5 (by rw [h9]; simp)).2.2).1); have ha := hj.a h5; obtain ⟨b1, b2, b3, b4, b5, b6⟩ := HA.out W ha; have c0 := cell_of_heap (o := 0) b3 rfl; go_simp; exact ⟨rfl, JP.skip hj 2 (by omega)⟩)
    simp only [an1, an2]
    refine Free2I.Chain.pr (fun u _ => u = stB RT) 3 rfl [] [5] (by kernel_rfl) (by kernel_rfl) rfl (fun _ _ _ _ h => h) ?_ ?_
    · (intro ev W X hb hR hO hD hj hx hax; have hS := hF W hR; obtain ⟨hb1, hb2, hb3⟩ := hb; simp only [Free.AllDeps, Free.AllOuts, Free.At, al1, al2, al3, al4, al5, and_true] at hO hD; simp only [Free2.AllX, and_true] at hax; have h5 : X 5 = none := (by cases h9 : X 5; rfl; exact absurd hx (hj.o4 (hj.o5 (by rw [h9]; simp)).2.2).2); have ha := hj.a h5; obtain ⟨b1, b2, b3, b4, b5, b6⟩ := HA.out W ha; obtain ⟨c0, c1, c2, c3, _⟩ := cells4 b5; go_simp; exact ⟨rfl, JP.skip hj 3 (by omega)⟩)
    simp only [an1, an2]
    refine Free2I.Chain.pr (fun _ _ => True) 4 rfl [(2, 25), (3, 26)] [] (by kernel_rfl) (by kernel_rfl) rfl (fun _ _ _ _ h => h) ?_ ?_
    · (intro ev W X hb hR hO hD hj hx hax; have hS := hF W hR; obtain ⟨hb1, hb2, hb3⟩ := hb; simp only [Free.AllDeps, Free.AllOuts, Free.At, al1, al2, al3, al4, al5, and_true] at hO hD; simp only [Free2.AllX, and_true] at hax; have h5 : X 5 = none := (by cases h9 : X 5; rfl; exact absurd hx (hj.o5 (by rw [h9]; simp)).2.2); have ha := hj.a h5; obtain ⟨b1, b2, b3, b4, b5, b6⟩ := HA.out W ha; go_simp; refine Free2I.yields_enter ?_; (with_reducible refine (HID.out W b2).mono ?_); rintro e W2 ⟨⟨v, rfl, hrow⟩, hB2⟩; rw [HIDS.out] at hrow; exact ⟨_, rfl, JP.ids hj h5 (by rw [hax.1]; simp) (by rw [hax.2]; simp) (bt ha hB2) ⟨_, hrow⟩⟩)
    simp only [an1, an2]
    refine Free2I.Chain.pr (fun _ _ => True) 5 rfl [(0, 23), (1, 24), (4, 27), (4, 27)] [] (by kernel_rfl) (by kernel_rfl) rfl (fun _ _ _ _ h => h) ?_ ?_
    · (intro ev W X hb hR hO hD hj hx hax; have hS := hF W hR; obtain ⟨hb1, hb2, hb3⟩ := hb; simp only [Free.AllDeps, Free.AllOuts, Free.At, al1, al2, al3, al4, al5, and_true] at hO hD; simp only [Free2.AllX, and_true] at hax; have ha := hj.a hx; obtain ⟨b1, b2, b3, b4, b5, b6⟩ := HA.out W ha; have hil := hj.il hx _ (hax.2.2.1); obtain ⟨fnn, tmps, assign, body, hy, hRR⟩ := HPR.out.2.2.1 _ _ #[stV S, ev (.tmp 27)] W (by rw [HPX.out.1]; exact List.take_prefix _ _) ⟨_, by rw [HSE.out.1], by first | exact hil | (rw [HSE.out.2.2]; exact hil)⟩ b1; go_simp; refine Free2I.yields_round ?_; refine hRR.mono ?_; rintro e W2 hor; rcases hor with ⟨rfl, hJ9, hk9⟩ | ⟨rfl, hJ9⟩; all_goals (first | exact ⟨_, rfl, JP.yield hj hx (by rw [hax.1]; simp) (by rw [hax.2.1]; simp) (by rw [hax.2.2.1]; simp) (.inl ⟨rfl, by rw [← HPX.out.1]; exact hJ9, W, ha, hk9⟩)⟩ | exact ⟨_, rfl, JP.yield hj hx (by rw [hax.1]; simp) (by rw [hax.2.1]; simp) (by rw [hax.2.2.1]; simp) (.inr ⟨rfl, by rw [← HPX.out.1]; exact hJ9⟩)⟩))
    simp only [an1, an2]
    refine Free2I.Chain.pr (fun _ _ => True) 6 rfl [(5, 28)] [] (by kernel_rfl) (by kernel_rfl) rfl (fun _ _ _ _ h => h) ?_ ?_
    · (intro ev W X hb hR hO hD hj hx hax; have hS := hF W hR; obtain ⟨hb1, hb2, hb3⟩ := hb; simp only [Free.AllDeps, Free.AllOuts, Free.At, al1, al2, al3, al4, al5, and_true] at hO hD; simp only [Free2.AllX, and_true] at hax; rcases hj.b _ (hax) with ⟨h9, _⟩ | ⟨h9, _⟩; all_goals (have hX5 := hax; rw [h9] at hX5; go_simp; first | exact JP.not hj (.inl ⟨hX5, rfl⟩) | exact JP.not hj (.inr ⟨hX5, rfl⟩)))
    simp only [an1, an2]
    intro ys w6 hR hV hX
    obtain ⟨X, hj, hxx⟩ := hX
    simp only [Free.AllV, Free.At, List.length_cons, List.length_nil, Nat.reduceAdd, List.getElem?_cons_succ, List.getElem?_cons_zero, true_and, and_true] at hV
    simp only [Free.putsFrom, Act.put, Nat.zero_add, Nat.reduceAdd, hV, List.setIfInBounds_toArray, List.set_cons_succ, List.set_cons_zero]
    have hc := hj.c _ (hxx 6 (by decide))
    rcases hc with ⟨h5, h6⟩ | ⟨h5, h6⟩
    · have hT : (J ((planP h xs N).take (k + 1)) w6 ∧ ∃ W1, Free.Bel w5.drew W1 ∧ KP w2.heap.size bs W1 w6) := by
        rcases hj.b _ h5 with ⟨_, h9⟩ | ⟨h9, _⟩
        · exact h9
        · cases h9
      rw [h6]
      obtain ⟨hJn, W1, hK1, hKP⟩ := hT
      obtain ⟨_, a2, a3, a4, a5, a6⟩ := HA.out W1 hK1
      obtain ⟨n1, n2, n3, n4, n5⟩ := HNN.out
      have hwsz : wr.heap.size ≤ w5.heap.size := HB5.out.1.size
      have hnw := HII.out.sz
      have q3 := hKP.keep yB _ a3 (.inr ⟨rfl, n2, fun _ _ => ne_pt⟩)
      have q4 := hKP.keep g _ a4 (.inr ⟨rfl, fun hb => by have := n3 g hb; have := HGN.out.1; omega, fun _ _ => ne_st⟩)
      have q6 := hKP.keep g9 _ a6 (.inr ⟨rfl, fun hb => by have := n3 g9 hb; have := HB5.out.2.2.2.1; omega, fun _ _ => ne_st⟩)
      have hB6 : Below w2.heap.size w2 w6 := a2.trans (hKP.below a2.size)
      obtain ⟨y0, y1, y2, y3, _⟩ := cells4 q6
      obtain ⟨z0, z1, z2, z3, f0, f1, f2, f3⟩ := cells4 q4
      have HQ := Lib.hid (And.intro hJn (And.intro q3 (And.intro q4 (And.intro hB6 (show n0 ≤ w6.heap.size from by have := hK1.size; have := hKP.size; have : w5.drew.heap.size = w5.heap.size := rfl; omega)))))
      clear hR hV hj hxx hF hJn hK1 hKP a2 a3 a4 a5 a6 q3 q4 q6 hB6 n1 n2 n3 n4 n5 hwsz hnw
      have HNX := Lib.hid (show PlanI J n0 yB yb h xs N w2 (k + 1) (.pointer (some ⟨w6.heap.size, 0, none⟩)) (((((w6.setCell ⟨g, 0, none⟩ (.int .i64 (RS 0))).setCell ⟨g, 1, none⟩ (.int .i64 (RS 1))).setCell ⟨g, 2, none⟩ (.int .i64 (RS 2))).setCell ⟨g, 3, none⟩ (.int .i64 (RS 3))).alloc (.cells (arrV RS) 109)) from by
        obtain ⟨hJn, q3, q4, hB6, hn6⟩ := HQ.out
        have hgn := HGN.out.1
        have hrq : RQ n0 w6 ((((w6.setCell ⟨g, 0, none⟩ (.int .i64 (RS 0))).setCell ⟨g, 1, none⟩ (.int .i64 (RS 1))).setCell ⟨g, 2, none⟩ (.int .i64 (RS 2))).setCell ⟨g, 3, none⟩ (.int .i64 (RS 3))) := (((RQ.set hgn q4).trans (RQ.set hgn (heap_setCell_same _ q4))).trans (RQ.set hgn (heap_setCell_same _ (heap_setCell_same _ q4)))).trans (RQ.set hgn (heap_setCell_same _ (heap_setCell_same _ (heap_setCell_same _ q4))))
        have hrq8 : RQ n0 w6 (((((w6.setCell ⟨g, 0, none⟩ (.int .i64 (RS 0))).setCell ⟨g, 1, none⟩ (.int .i64 (RS 1))).setCell ⟨g, 2, none⟩ (.int .i64 (RS 2))).setCell ⟨g, 3, none⟩ (.int .i64 (RS 3))).alloc (.cells (arrV RS) 109)) := hrq.trans (.of_bel (belAlloc _ _) (by simpa using hn6))
        have hal : (((((w6.setCell ⟨g, 0, none⟩ (.int .i64 (RS 0))).setCell ⟨g, 1, none⟩ (.int .i64 (RS 1))).setCell ⟨g, 2, none⟩ (.int .i64 (RS 2))).setCell ⟨g, 3, none⟩ (.int .i64 (RS 3))).alloc (.cells (arrV RS) 109)).heap[w6.heap.size]? = some (.cells (arrV RS) 109 (0, 0)) := by
          have := World.alloc_heap_new ((((w6.setCell ⟨g, 0, none⟩ (.int .i64 (RS 0))).setCell ⟨g, 1, none⟩ (.int .i64 (RS 1))).setCell ⟨g, 2, none⟩ (.int .i64 (RS 2))).setCell ⟨g, 3, none⟩ (.int .i64 (RS 3))) (.cells (arrV RS) 109)
          simpa using this
        refine ⟨HPX.out.2, HPR.out.1 _ _ _ hJn hrq8, hB6.trans (hrq8.below.mono HNN.out.2.2.2.1), hrq8.other yB _ q3 (fun _ _ => ne_pst), ⟨_, rfl, hn6, ?_⟩, by simp; omega⟩
        rw [HSE.out.2.1]
        exact hal)
      gi_wp2
      go_roundw
      case rel => exact ⟨k + 1, HNX.out⟩
      case measure =>
        rw [HMX.out]
        have h9 := topN_spec (N := N) (P := fun k => PlanI J n0 yB yb h xs N w2 k (.pointer (some ⟨w6.heap.size, 0, none⟩)) (((((w6.setCell ⟨g, 0, none⟩ (.int .i64 (RS 0))).setCell ⟨g, 1, none⟩ (.int .i64 (RS 1))).setCell ⟨g, 2, none⟩ (.int .i64 (RS 2))).setCell ⟨g, 3, none⟩ (.int .i64 (RS 3))).alloc (.cells (arrV RS) 109))) ⟨k + 1, HPX.out.2, HNX.out⟩
        have h8 := h9.2.2 (k + 1) HPX.out.2 HNX.out
        have h7 := HPX.out.2
        show N - topN N (fun k => PlanI J n0 yB yb h xs N w2 k (.pointer (some ⟨w6.heap.size, 0, none⟩)) (((((w6.setCell ⟨g, 0, none⟩ (.int .i64 (RS 0))).setCell ⟨g, 1, none⟩ (.int .i64 (RS 1))).setCell ⟨g, 2, none⟩ (.int .i64 (RS 2))).setCell ⟨g, 3, none⟩ (.int .i64 (RS 3))).alloc (.cells (arrV RS) 109))) < N - k
        omega
    · have hFq : Jx ((planP h xs N).take (k + 1)) w6 := by
        rcases hj.b _ h5 with ⟨h9, _⟩ | ⟨_, h9⟩
        · cases h9
        · exact h9
      rw [h6]
      have HFQ := Lib.hid hFq
      clear hR hV hj hxx hF hFq
      gi_wp2
      refine bodyPost_ret (results_none rfl _ _ _) rfl ?_
      exact ⟨⟨_, rfl⟩, _, List.take_prefix _ _, HFQ.out⟩
end Go.Proofs.YtknpglgpkkhhiaaDoor

/- The first days of the plan: Days. -/
namespace Go.Proofs.YtknpglgpkkhhiaaDoor
set_option linter.unusedSimpArgs false
set_option linter.unusedVariables false
open Go.RowKit Go.Proofs.YtknpglgpkkhhiaaDoor.Free2 Go.Proofs.YtknpglgpkkhhiaaDoor.ML RR
attribute [local go_sem] Oper.semAt_some

/-- Rows of days, each a row of numbers of its own. -/
def DO (base : Nat) (ds : List (List Int)) (v : Value) (W : World) : Prop := ∃ vs : List Value, vs.length = ds.length ∧ W.ownsRow base 58 1 v ds.length vs ∧ ∀ (i : Nat) (h : i < ds.length) u, vs[i]? = some u → DayR ds[i] u W
theorem own_typed {base : Nat} {e : TypeId} {size n : Nat} {v : Value} {xs : List Value} {W W' : World} (h : W.ownsRow base e size v n xs) (hk : ∀ (k : Nat) c f, W.heap[k]? = some (.cells c e f) → W'.heap[k]? = some (.cells c e f)) : W'.ownsRow base e size v n xs := by
  obtain ⟨h3, h4⟩ := h
  refine ⟨h3, h4.imp id ?_⟩
  rintro ⟨g, cap, cur, rfl, hb, hg, r⟩
  exact ⟨g, cap, cur, rfl, hb, hk g _ _ hg, r⟩
theorem DayR.stay {d : List Int} {v : Value} {W W' : World} (h : DayR d v W) (hk : ∀ (k : Nat) c f, W.heap[k]? = some (.cells c 3 f) → W'.heap[k]? = some (.cells c 3 f)) : DayR d v W' := let ⟨b, h1⟩ := h; ⟨b, own_typed h1 hk⟩
theorem DO.stay {base : Nat} {ds : List (List Int)} {v : Value} {W W' : World} (h : DO base ds v W) (h1 : ∀ (k : Nat) c f, W.heap[k]? = some (.cells c 58 f) → W'.heap[k]? = some (.cells c 58 f)) (h2 : ∀ (k : Nat) c f, W.heap[k]? = some (.cells c 3 f) → W'.heap[k]? = some (.cells c 3 f)) : DO base ds v W' :=
  let ⟨vs, a, b, c⟩ := h
  ⟨vs, a, own_typed b h1, fun i hi u hu => (c i hi u hu).stay h2⟩
theorem DO.bel {base : Nat} {ds : List (List Int)} {v : Value} {W W' : World} (h : DO base ds v W) (hB : Free.Bel W W') : DO base ds v W' :=
  h.stay (fun k c f hk => (hB.block k (lt_of_heap hk)).trans hk) fun k c f hk => (hB.block k (lt_of_heap hk)).trans hk
theorem DO.rq {base n0 : Nat} {ds : List (List Int)} {v : Value} {W W' : World} (h : DO base ds v W) (hR : RQ n0 W W') : DO base ds v W' :=
  h.stay (fun k c f hk => hR.other k _ hk fun _ _ h => by cases h) fun k c f hk => hR.other k _ hk fun _ _ h => by cases h
theorem DO.own {base n0 : Nat} {ds : List (List Int)} {v : Value} {W W' : World} {row : Option Nat} (h : DO base ds v W) (hg : W.grownBy W' row) (hr : ∀ r, row = some r → n0 ≤ r ∧ ∃ o : Obj, W.heap[r]? = some o ∧ o.isCells = false) : DO base ds v W' := by
  have key : ∀ (e : TypeId) (k : Nat) c f, W.heap[k]? = some (.cells c e f) → W'.heap[k]? = some (.cells c e f) := fun e k c f hk => heap_grown hk hg fun q => by
    obtain ⟨_, o, ho, hc⟩ := hr k q.symm
    rw [hk] at ho
    cases ho
    cases hc
  exact h.stay (key 58) (key 3)
theorem DayR.grown {base n : Nat} {d : List Int} {u v : Value} {vs : List Value} {W W' : World} (h : DayR d u W) (ho : W.ownsRow base 58 1 v n vs) (hg : W.grownBy W' v.ownBlock) : DayR d u W' :=
  h.stay fun k c f hk => heap_grown hk hg fun q => by
    rcases ho.2 with ⟨rfl, _⟩ | ⟨g, cap, cur, rfl, _, hg2, _⟩
    · simp [Value.ownBlock] at q
    · simp [Value.ownBlock] at q
      subst q
      rw [hk] at hg2
      cases hg2
theorem DO.nil (base : Nat) (W : World) : DO base [] (.slice none 0 0) W := ⟨[], rfl, World.ownsRow_nil _ _ _ _, fun i h => by simp at h⟩
theorem DO.snoc {base : Nat} {ds : List (List Int)} {d : List Int} {v v' u : Value} {vs : List Value} {W W' : World} (hl : vs.length = ds.length) (ho : W.ownsRow base 58 1 v ds.length vs) (hd : ∀ (i : Nat) (h : i < ds.length) u, vs[i]? = some u → DayR ds[i] u W) (hu : DayR d u W) (hg : W.grownBy W' v.ownBlock) (ho' : W'.ownsRow base 58 1 v' (ds.length + 1) (vs ++ [u])) : DO base (ds ++ [d]) v' W' := by
  refine ⟨vs ++ [u], by simp [hl], by simpa using ho', fun i hi u' hu' => ?_⟩
  by_cases h : i < ds.length
  · rw [List.getElem?_append_left (by omega)] at hu'
    rw [List.getElem_append_left h]
    exact (hd i h u' hu').grown ho hg
  · have e : i = ds.length := by simp at hi; omega
    subst e
    rw [List.getElem?_append_right (by omega), hl, Nat.sub_self] at hu'
    simp at hu'
    subst hu'
    rw [List.getElem_append_right (Nat.le_refl _)]
    simpa using hu.grown ho hg
theorem DO.dz {base : Nat} {ds : List (List Int)} {v : Value} {W : World} (h : DO base ds v W) (hm : ds.length ≤ maxLen) (hd : ∀ d ∈ ds, d.length ≤ maxLen) : DZ ds v W := by
  obtain ⟨vs, hl, ho, hr⟩ := h
  obtain ⟨p, c, rfl⟩ := row_slice ho
  refine ⟨p, c, rfl, hm, fun e => ?_, fun hne => ?_⟩
  · subst e
    rcases ho.2 with ⟨h1, h2⟩ | ⟨g, cap, cur, h1, _⟩
    · simp only [Value.slice.injEq] at h1; exact ⟨h2, h1.2.2⟩
    · simp at h1
  · rcases ho.2 with ⟨h1, h2⟩ | ⟨g, cap, cur, h1, _⟩
    · exact absurd (List.eq_nil_of_length_eq_zero h2) hne
    · simp only [Value.slice.injEq] at h1
      obtain ⟨rfl, _, rfl⟩ := h1
      refine ⟨g, 0, rfl, fun k hk => ?_⟩
      have hkv : k < vs.length := by omega
      have hu := List.getElem?_eq_getElem hkv
      have hc := ho.cells (g := g) rfl k vs[k] hu
      rw [addE] at hc
      obtain ⟨b0, hrow⟩ := hr k hk _ hu
      exact ⟨vs[k], hc, IL.of_own (hd _ (List.getElem_mem hk)) hrow, NZ.row hrow⟩
theorem planP_snd (h : Int) (ys : List Rk) (N : Nat) : (planP h ys N).map (·.2) = planL h ys N := by simp [planP, planL, Function.comp_def]
noncomputable def daysE (h : Int) (xs : List Rk) (n : Int) : Int := if watchB h xs = true then (if inB 0 60 [n] = true then goE h xs else 2) else 70
/-- What Days tells. -/
def DaysPost (h : Int) (xs : List Rk) (n c : Int) (w : World) (e : Ending) (w' : World) : Prop :=
  (c ≠ 0 ∧ e = .returned (.tuple #[.slice none 0 0, .int .i64 c])) ∨ (c = 0 ∧ ∃ v, e = .returned (.tuple #[v, .int .i64 0]) ∧ DO w.heap.size (planL h xs n.toNat) v w')
theorem KP.grown {s2 base n : Nat} {bs : List Nat} {v : Value} {vs : List Value} {W W' : World} (ho : W.ownsRow base 58 1 v n vs) (hb : s2 ≤ base) (hg : W.grownBy W' v.ownBlock) : KP s2 bs W W' :=
  ⟨hg.os, hg.tape, hg.output, hg.size, fun k o h1 h2 => heap_grown h1 hg fun q => by
    rcases ho.2 with ⟨rfl, _⟩ | ⟨g, cap, cur, rfl, hgb, hg2, _⟩
    · simp [Value.ownBlock] at q
    · simp [Value.ownBlock] at q
      subst q
      rw [h1] at hg2
      cases hg2
      rcases h2 with h2 | ⟨_, _, h2⟩
      · omega
      · exact h2 _ _ rfl⟩
theorem T.infoDT : (Tryd.prog.info? 58).map (fun i => (i.zero, i.size, i.bytes)) = some (some (.slice none 0 0), 1, 24) := by kernel_rfl
theorem DayR.one {d : List Int} {v : Value} {W : World} (h : DayR d v W) : v.oneCell' = true := by
  obtain ⟨b, hr⟩ := h
  obtain ⟨p, c, rfl⟩ := row_slice hr
  rfl
theorem box_grown {base n lb : Nat} {v : Value} {vs : List Value} {W W' : World} {o : Obj} {c : Array Value} {f : Nat × Nat} (hl : W.heap[lb]? = some (.cells c 25 f)) (how : W.ownsRow base 58 1 v n vs) (hg : World.grownBy (W.alloc o) W' v.ownBlock) : W'.heap[lb]? = some (.cells c 25 f) := by
  refine heap_grown (heap_old hl) hg fun e => ?_
  rcases how.2 with ⟨h9, _⟩ | ⟨g, cap, cur, h9, _, hg2, _⟩
  · rw [h9] at e; simp [Value.ownBlock] at e
  · rw [h9] at e
    simp [Value.ownBlock] at e
    subst e
    rw [hl] at hg2
    cases hg2
theorem keepsFrom_row {B base n : Nat} {v : Value} {vs : List Value} {W W' : World} {o : Obj} (how : W.ownsRow base 58 1 v n vs) (hg : World.grownBy (W.alloc o) W' v.ownBlock) : KeepsFrom B W W' :=
  ⟨by have := hg.size; simp at this; omega, fun k q _ hk hq => heap_grown (heap_old hk) hg fun e => by
    rcases how.2 with ⟨h9, _⟩ | ⟨g, cap, cur, h9, _, hg2, _⟩
    · rw [h9] at e; simp [Value.ownBlock] at e
    · rw [h9] at e
      simp [Value.ownBlock] at e
      subst e
      rw [hk] at hg2
      cases hg2
      cases hq⟩
theorem DO.mono {base base' : Nat} {ds : List (List Int)} {v : Value} {W : World} (h : DO base ds v W) (hb : base' ≤ base) : DO base' ds v W := let ⟨vs, a, b, c⟩ := h; ⟨vs, a, row_mono b hb, c⟩
theorem DO.put {base D : Nat} {ds : List (List Int)} {v : Value} {W : World} {o o' : Obj} (h : DO base ds v W) (hD : W.heap[D]? = some o) (ho : o.isCells = false) : DO base ds v (W.putObj D o') := by
  have key : ∀ (e : TypeId) (k : Nat) c f, W.heap[k]? = some (.cells c e f) → (W.putObj D o').heap[k]? = some (.cells c e f) := fun e k c f hk => by
    have hne : k ≠ D := by
      rintro rfl
      rw [hD] at hk
      cases hk
      cases ho
    rw [World.putObj_heap_other hne]
    exact hk
  exact h.stay (key 58) (key 3)
/-- The invariant of the days. -/
structure DaysI (w : World) (lb n0 base : Nat) (n : Nat) (pre : List (List Rk × List Int)) (W : World) : Prop where
  bel : Below w.heap.size w W
  nb : W.heap[w.heap.size + 1]? = some (.cells #[.int .i64 n] 3 (0, 0))
  sz : n0 ≤ W.heap.size
  row : ∃ v, W.heap[lb]? = some (.cells #[v] 25 (0, 0)) ∧ DO base (pre.map (·.2)) v W
theorem DaysI.rq {w : World} {lb n0 base n : Nat} {pre : List (List Rk × List Int)} {A B : World} (H : DaysI w lb n0 base n pre A) (hR : RQ n0 A B) (hn : w.heap.size + 1 < n0) (hl : lb < n0) : DaysI w lb n0 base n pre B :=
  ⟨H.bel.trans (hR.below.mono (by omega)), (hR.below.block _ hn).trans H.nb, Nat.le_trans H.sz hR.below.size, let ⟨v, h1, h2⟩ := H.row; ⟨v, (hR.below.block _ hl).trans h1, h2.rq hR⟩⟩
theorem DaysI.own {w : World} {lb n0 base n : Nat} {pre : List (List Rk × List Int)} {A B : World} {row : Option Nat} (H : DaysI w lb n0 base n pre A) (hg : A.grownBy B row) (hr : ∀ r, row = some r → n0 ≤ r ∧ ∃ o : Obj, A.heap[r]? = some o ∧ o.isCells = false) (hn : w.heap.size + 1 < n0) (hl : lb < n0) : DaysI w lb n0 base n pre B := by
  have hne : ∀ b, b < n0 → some b ≠ row := fun b hb e => by have := (hr _ e.symm).1; omega
  obtain ⟨v, h1, h2⟩ := H.row
  exact ⟨H.bel.trans (Below.of_grown hg H.bel.size (fun r e => by have := (hr r e).1; omega)), heap_grown H.nb hg (hne _ hn), Nat.le_trans H.sz hg.size, v, heap_grown h1 hg (hne _ hl), h2.own hg hr⟩

/-- The days one more. -/
theorem DaysI.step {w W W9 : World} {lb n0 n : Nat} {pre : List (List Rk × List Int)} {x : List Rk × List Int} {vl v' u : Value} {vs : List Value} {o : Obj} (H : DaysI w lb n0 lb n pre W) (hl : W.heap[lb]? = some (.cells #[vl] 25 (0, 0))) (hvl : vs.length = (pre.map (·.2)).length) (how : W.ownsRow lb 58 1 vl (pre.map (·.2)).length vs) (hdr : ∀ (i : Nat) (h : i < (pre.map (·.2)).length) u, vs[i]? = some u → DayR (pre.map (·.2))[i] u W) (hu : DayR x.2 u W)
    (hg : World.grownBy (W.alloc o) W9 vl.ownBlock) (ho' : W9.ownsRow lb 58 1 v' ((pre.map (·.2)).length + 1) (vs ++ [u])) (hw : w.heap.size + 1 < lb) (hln : lb ≤ n0) :
    KeepsFrom n0 W (W9.setCell ⟨lb, 0, none⟩ v') ∧ KP lb [lb] W (W9.setCell ⟨lb, 0, none⟩ v') ∧ DaysI w lb n0 lb n (pre ++ [x]) (W9.setCell ⟨lb, 0, none⟩ v') := by
  have hkp : KP lb [lb] W W9 := (KP.of_bel (belAlloc _ _)).trans (KP.grown (how.alloc _) (Nat.le_refl _) hg)
  have hkp2 : KP lb [lb] W (W9.setCell ⟨lb, 0, none⟩ v') := hkp.trans (KP.set (Nat.le_refl _) (by simp))
  have hbx := box_grown hl how hg
  have hsz : lb ≤ W.heap.size := Nat.le_trans hln H.sz
  refine ⟨(keepsFrom_row how hg).trans ((KeepsOthers.setCell _ _ _).from _), hkp2, H.bel.trans ((hkp2.below hsz).mono (by omega)), ((hkp2.below hsz).block _ hw).trans H.nb, Nat.le_trans H.sz hkp2.size, v', ?_, ?_⟩
  · have := heap_setCell_same (o := 0) v' hbx
    simpa using this
  · rw [List.map_append]
    have hst : ∀ (k : Nat) c f, W.heap[k]? = some (.cells c 3 f) → (W.alloc o).heap[k]? = some (.cells c 3 f) := fun k c f hk => heap_old hk
    have h9 := DO.snoc (d := x.2) hvl (how.alloc o) (fun i hi u hu => (hdr i hi u hu).stay hst) (hu.stay hst) hg ho'
    refine h9.stay (fun k c f hk => heap_other hk fun e => ?_) fun k c f hk => heap_other hk fun e => ?_
    · simp at e; subst e; rw [hbx] at hk; cases hk
    · simp at e; subst e; rw [hbx] at hk; cases hk

set_option maxRecDepth 100000 in
set_option maxHeartbeats 16000000 in
theorem days_a (h : Int) (xs : List Rk) (n : Int) (u : Value) (w : World) (hT : TabR w) (hu : RL xs u w) (hw : watchB h xs = false) :
    Calls Tryd.prog 39 #[.agg #[.int .i64 h, u], .int .i64 n] w fun e w' => e = .returned (.tuple #[.slice none 0 0, .int .i64 70]) ∧ Below w.heap.size w w' := by
  have HU := Lib.hid hu
  obtain ⟨p, cp, rfl, _, _⟩ := hu
  have KB : Free.Bel w ((w.alloc (.cells #[.int .i64 h, .slice p xs.length cp] 24)).alloc (.cells #[.int .i64 n] 3)) := bt (belAlloc _ _) (belAlloc _ _)
  have m0 : ((w.alloc (.cells #[.int .i64 h, .slice p xs.length cp] 24)).alloc (.cells #[.int .i64 n] 3)).heap[w.heap.size]? = some (.cells #[.int .i64 h, .slice p xs.length cp] 24 (0, 0)) := heap_old (World.alloc_heap_new w _)
  have m1 : ((w.alloc (.cells #[.int .i64 h, .slice p xs.length cp] 24)).alloc (.cells #[.int .i64 n] 3)).heap[w.heap.size + 1]? = some (.cells #[.int .i64 n] 3 (0, 0)) := by
    have := World.alloc_heap_new (w.alloc (.cells #[.int .i64 h, .slice p xs.length cp] 24)) (.cells #[.int .i64 n] 3)
    simpa using this
  have FA : ∀ W, Free.Bel ((w.alloc (.cells #[.int .i64 h, .slice p xs.length cp] 24)).alloc (.cells #[.int .i64 n] 3)) W → W.cell? ⟨w.heap.size, 0, none⟩ = some (.int .i64 h) ∧ W.cell? ⟨w.heap.size, 1, none⟩ = some (.slice p xs.length cp) ∧ W.cell? ⟨w.heap.size + 1, 0, none⟩ = some (.int .i64 n) := fun W hW => ⟨keepsB hW (cell_of_heap m0 rfl), keepsB hW (cell_of_heap m0 rfl), keepsB hW (cell_of_heap m1 rfl)⟩
  have KE : Free.Bel ((w.alloc (.cells #[.int .i64 h, .slice p xs.length cp] 24)).alloc (.cells #[.int .i64 n] 3)) ((w.alloc (.cells #[.int .i64 h, .slice p xs.length cp] 24)).alloc (.cells #[.int .i64 n] 3)) := Free.Bel.refl _
  have HTAB := Lib.hid hT
  have HKB := Lib.hid (And.intro KB (And.intro m0 m1))
  have HCK := Lib.hid (checkP_v h xs _ ((w.alloc (.cells #[.int .i64 h, .slice p xs.length cp] 24)).alloc (.cells #[.int .i64 n] 3)) (hT.bel KB) (HU.out.keeps KB) 70 (by show _ = _; simp [hw]))
  clear hT hw m0 m1
  go_enter Tryd.func39, Tryd.ntmps39
  go_wp2_with fail
  refine HCK.out.mono ?_
  rintro e w1 ⟨rfl, hB1⟩
  have HB := Lib.hid (bt KB hB1)
  clear hB1
  go_wp2_with fail
  go_ret2
  exact ⟨rfl, HB.out⟩
set_option maxRecDepth 100000 in
set_option maxHeartbeats 16000000 in
theorem days_b (h : Int) (xs : List Rk) (n : Int) (u : Value) (w : World) (hT : TabR w) (hu : RL xs u w) (hw : watchB h xs = true) (hn : inB 0 60 [n] = false) :
    Calls Tryd.prog 39 #[.agg #[.int .i64 h, u], .int .i64 n] w fun e w' => e = .returned (.tuple #[.slice none 0 0, .int .i64 2]) ∧ Below w.heap.size w w' := by
  have HU := Lib.hid hu
  obtain ⟨p, cp, rfl, _, _⟩ := hu
  have KB : Free.Bel w ((w.alloc (.cells #[.int .i64 h, .slice p xs.length cp] 24)).alloc (.cells #[.int .i64 n] 3)) := bt (belAlloc _ _) (belAlloc _ _)
  have m0 : ((w.alloc (.cells #[.int .i64 h, .slice p xs.length cp] 24)).alloc (.cells #[.int .i64 n] 3)).heap[w.heap.size]? = some (.cells #[.int .i64 h, .slice p xs.length cp] 24 (0, 0)) := heap_old (World.alloc_heap_new w _)
  have m1 : ((w.alloc (.cells #[.int .i64 h, .slice p xs.length cp] 24)).alloc (.cells #[.int .i64 n] 3)).heap[w.heap.size + 1]? = some (.cells #[.int .i64 n] 3 (0, 0)) := by
    have := World.alloc_heap_new (w.alloc (.cells #[.int .i64 h, .slice p xs.length cp] 24)) (.cells #[.int .i64 n] 3)
    simpa using this
  have FA : ∀ W, Free.Bel ((w.alloc (.cells #[.int .i64 h, .slice p xs.length cp] 24)).alloc (.cells #[.int .i64 n] 3)) W → W.cell? ⟨w.heap.size, 0, none⟩ = some (.int .i64 h) ∧ W.cell? ⟨w.heap.size, 1, none⟩ = some (.slice p xs.length cp) ∧ W.cell? ⟨w.heap.size + 1, 0, none⟩ = some (.int .i64 n) := fun W hW => ⟨keepsB hW (cell_of_heap m0 rfl), keepsB hW (cell_of_heap m0 rfl), keepsB hW (cell_of_heap m1 rfl)⟩
  have KE : Free.Bel ((w.alloc (.cells #[.int .i64 h, .slice p xs.length cp] 24)).alloc (.cells #[.int .i64 n] 3)) ((w.alloc (.cells #[.int .i64 h, .slice p xs.length cp] 24)).alloc (.cells #[.int .i64 n] 3)) := Free.Bel.refl _
  have HTAB := Lib.hid hT
  have HKB := Lib.hid (And.intro KB (And.intro m0 m1))
  have HCK := Lib.hid (checkP_v h xs _ ((w.alloc (.cells #[.int .i64 h, .slice p xs.length cp] 24)).alloc (.cells #[.int .i64 n] 3)) (hT.bel KB) (HU.out.keeps KB) 0 (by show _ = _; simp [hw]))
  have HIN := Lib.hid hn
  clear hT hw m0 m1 hn
  go_enter Tryd.func39, Tryd.ntmps39
  go_wp2_with fail
  refine HCK.out.mono ?_
  rintro e w1 ⟨rfl, hB1⟩
  have K1 : Free.Bel ((w.alloc (.cells #[.int .i64 h, .slice p xs.length cp] 24)).alloc (.cells #[.int .i64 n] 3)) w1 := hB1
  clear hB1 HCK
  go_wp2_with fail
  refine (in_any 0 60 [n] w1.heap.size 0 1 (w1.alloc (.cells #[.int .i64 n] 3)) (by unfold maxLen; simp) (fun k hk => by (obtain rfl : k = 0 := by simp at hk; omega); simp [go_sem])).mono ?_
  rintro e w2 ⟨rfl, hB2⟩
  rw [HIN.out]
  have HB := Lib.hid (bt KB (bt K1 (bt (belAlloc _ _) hB2)))
  clear hB2
  go_wp2_with fail
  go_ret2
  exact ⟨rfl, HB.out⟩
set_option maxRecDepth 100000 in
set_option maxHeartbeats 16000000 in
theorem days_c (h : Int) (xs : List Rk) (n : Int) (u : Value) (w : World) (hT : TabR w) (hu : RL xs u w) (hw : watchB h xs = true) (hn : inB 0 60 [n] = true) (hc : Hid (goE h xs = 8)) :
    Calls Tryd.prog 39 #[.agg #[.int .i64 h, u], .int .i64 n] w fun e w' => e = .returned (.tuple #[.slice none 0 0, .int .i64 8]) ∧ Below w.heap.size w w' := by
  have HU := Lib.hid hu
  obtain ⟨p, cp, rfl, _, _⟩ := hu
  have KB : Free.Bel w ((w.alloc (.cells #[.int .i64 h, .slice p xs.length cp] 24)).alloc (.cells #[.int .i64 n] 3)) := bt (belAlloc _ _) (belAlloc _ _)
  have m0 : ((w.alloc (.cells #[.int .i64 h, .slice p xs.length cp] 24)).alloc (.cells #[.int .i64 n] 3)).heap[w.heap.size]? = some (.cells #[.int .i64 h, .slice p xs.length cp] 24 (0, 0)) := heap_old (World.alloc_heap_new w _)
  have m1 : ((w.alloc (.cells #[.int .i64 h, .slice p xs.length cp] 24)).alloc (.cells #[.int .i64 n] 3)).heap[w.heap.size + 1]? = some (.cells #[.int .i64 n] 3 (0, 0)) := by
    have := World.alloc_heap_new (w.alloc (.cells #[.int .i64 h, .slice p xs.length cp] 24)) (.cells #[.int .i64 n] 3)
    simpa using this
  have FA : ∀ W, Free.Bel ((w.alloc (.cells #[.int .i64 h, .slice p xs.length cp] 24)).alloc (.cells #[.int .i64 n] 3)) W → W.cell? ⟨w.heap.size, 0, none⟩ = some (.int .i64 h) ∧ W.cell? ⟨w.heap.size, 1, none⟩ = some (.slice p xs.length cp) ∧ W.cell? ⟨w.heap.size + 1, 0, none⟩ = some (.int .i64 n) := fun W hW => ⟨keepsB hW (cell_of_heap m0 rfl), keepsB hW (cell_of_heap m0 rfl), keepsB hW (cell_of_heap m1 rfl)⟩
  have KE : Free.Bel ((w.alloc (.cells #[.int .i64 h, .slice p xs.length cp] 24)).alloc (.cells #[.int .i64 n] 3)) ((w.alloc (.cells #[.int .i64 h, .slice p xs.length cp] 24)).alloc (.cells #[.int .i64 n] 3)) := Free.Bel.refl _
  have HTAB := Lib.hid hT
  have HKB := Lib.hid (And.intro KB (And.intro m0 m1))
  have HCK := Lib.hid (checkP_v h xs _ ((w.alloc (.cells #[.int .i64 h, .slice p xs.length cp] 24)).alloc (.cells #[.int .i64 n] 3)) (hT.bel KB) (HU.out.keeps KB) 0 (by show _ = _; simp [hw]))
  have HIN := Lib.hid hn
  clear hT hw m0 m1 hn
  go_enter Tryd.func39, Tryd.ntmps39
  go_wp2_with fail
  refine HCK.out.mono ?_
  rintro e w1 ⟨rfl, hB1⟩
  have K1 : Free.Bel ((w.alloc (.cells #[.int .i64 h, .slice p xs.length cp] 24)).alloc (.cells #[.int .i64 n] 3)) w1 := hB1
  clear hB1 HCK
  go_wp2_with fail
  refine (in_any 0 60 [n] w1.heap.size 0 1 (w1.alloc (.cells #[.int .i64 n] 3)) (by unfold maxLen; simp) (fun k hk => by (obtain rfl : k = 0 := by simp at hk; omega); simp [go_sem])).mono ?_
  rintro e w2 ⟨rfl, hB2⟩
  rw [HIN.out]
  have K2 : Free.Bel ((w.alloc (.cells #[.int .i64 h, .slice p xs.length cp] 24)).alloc (.cells #[.int .i64 n] 3)) w2 := bt K1 (bt (belAlloc _ _) hB2)
  clear hB2
  go_wp2_with fail
  refine (going_v h xs _ w2 (HTAB.out.bel (bt HKB.out.1 K2)) (HU.out.keeps (bt HKB.out.1 K2)) 8 hc).mono ?_
  rintro e w3 ⟨hG, hB3⟩
  obtain rfl : e = .returned (.tuple #[.pointer none, .int .i64 8]) := by
    rcases hG with ⟨_, h9⟩ | ⟨h9, _⟩
    · exact h9
    · cases h9
  have HB := Lib.hid (bt HKB.out.1 (bt K2 hB3))
  clear hB3 hG
  go_wp2_with fail
  go_ret2
  exact ⟨rfl, HB.out⟩
set_option maxRecDepth 100000 in
set_option maxHeartbeats 16000000 in
theorem days_d (h : Int) (xs : List Rk) (n : Nat) (u : Value) (w : World) (hT : TabR w) (hu : RL xs u w) (hw : watchB h xs = true) (he : everB h xs = true) (hn : inB 0 60 [(n : Int)] = true) :
    Calls Tryd.prog 39 #[.agg #[.int .i64 h, u], .int .i64 n] w fun e w' => (∃ v, e = .returned (.tuple #[v, .int .i64 0]) ∧ DO w.heap.size (planL h xs n) v w') ∧ Below w.heap.size w w' := by
  have HU := Lib.hid hu
  obtain ⟨p, cp, rfl, _, _⟩ := hu
  have KB : Free.Bel w ((w.alloc (.cells #[.int .i64 h, .slice p xs.length cp] 24)).alloc (.cells #[.int .i64 n] 3)) := bt (belAlloc _ _) (belAlloc _ _)
  have m0 : ((w.alloc (.cells #[.int .i64 h, .slice p xs.length cp] 24)).alloc (.cells #[.int .i64 n] 3)).heap[w.heap.size]? = some (.cells #[.int .i64 h, .slice p xs.length cp] 24 (0, 0)) := heap_old (World.alloc_heap_new w _)
  have m1 : ((w.alloc (.cells #[.int .i64 h, .slice p xs.length cp] 24)).alloc (.cells #[.int .i64 n] 3)).heap[w.heap.size + 1]? = some (.cells #[.int .i64 n] 3 (0, 0)) := by
    have := World.alloc_heap_new (w.alloc (.cells #[.int .i64 h, .slice p xs.length cp] 24)) (.cells #[.int .i64 n] 3)
    simpa using this
  have FA : ∀ W, Free.Bel ((w.alloc (.cells #[.int .i64 h, .slice p xs.length cp] 24)).alloc (.cells #[.int .i64 n] 3)) W → W.cell? ⟨w.heap.size, 0, none⟩ = some (.int .i64 h) ∧ W.cell? ⟨w.heap.size, 1, none⟩ = some (.slice p xs.length cp) ∧ W.cell? ⟨w.heap.size + 1, 0, none⟩ = some (.int .i64 n) := fun W hW => ⟨keepsB hW (cell_of_heap m0 rfl), keepsB hW (cell_of_heap m0 rfl), keepsB hW (cell_of_heap m1 rfl)⟩
  have KE : Free.Bel ((w.alloc (.cells #[.int .i64 h, .slice p xs.length cp] 24)).alloc (.cells #[.int .i64 n] 3)) ((w.alloc (.cells #[.int .i64 h, .slice p xs.length cp] 24)).alloc (.cells #[.int .i64 n] 3)) := Free.Bel.refl _
  have HTAB := Lib.hid hT
  have HKB := Lib.hid (And.intro KB (And.intro m0 m1))
  have HCK := Lib.hid (checkP_v h xs _ ((w.alloc (.cells #[.int .i64 h, .slice p xs.length cp] 24)).alloc (.cells #[.int .i64 n] 3)) (hT.bel KB) (HU.out.keeps KB) 0 (by show _ = _; simp [hw]))
  have HIN := Lib.hid hn
  have hn60 : n ≤ 60 := by simp [inB] at hn; omega
  have HWE := Lib.hid (And.intro hw he)
  have hgo : Hid (goE h xs = 0) := by show _ = _; unfold goE; simp [hw, he]
  clear hT hw m0 m1 hn he
  refine (callsIn_wide (n := 5)).1 ?_
  refine callsIn_of_wp_marks Tryd.func39 rfl trivial ?_ rfl
  simp only [Tryd.ntmps39, List.size_toArray, List.length_cons, List.length_nil, Nat.reduceAdd, Nat.reduceSub, Array.replicate_succ, Array.replicate_zero, List.push_toArray, List.append_toArray, an1, an2]
  refine wpIn_wide.2 ?_
  go_wp2_with fail
  refine HCK.out.mono ?_
  rintro e w1 ⟨rfl, hB1⟩
  have K1 : Free.Bel ((w.alloc (.cells #[.int .i64 h, .slice p xs.length cp] 24)).alloc (.cells #[.int .i64 n] 3)) w1 := hB1
  clear hB1 HCK
  go_wp2_with fail
  refine (in_any 0 60 [n] w1.heap.size 0 1 (w1.alloc (.cells #[.int .i64 n] 3)) (by unfold maxLen; simp) (fun k hk => by (obtain rfl : k = 0 := by simp at hk; omega); simp [go_sem])).mono ?_
  rintro e w2 ⟨rfl, hB2⟩
  rw [HIN.out]
  have K2 : Free.Bel ((w.alloc (.cells #[.int .i64 h, .slice p xs.length cp] 24)).alloc (.cells #[.int .i64 n] 3)) w2 := bt K1 (bt (belAlloc _ _) hB2)
  clear hB2
  go_wp2_with fail
  refine (going_v h xs _ w2 (HTAB.out.bel (bt HKB.out.1 K2)) (HU.out.keeps (bt HKB.out.1 K2)) 0 hgo).mono ?_
  rintro e w3 ⟨hG, hB3⟩
  obtain ⟨yb, gb, v0, dv, L, rfl, hye, hy1, hy2⟩ : ∃ yb gb u dv L, e = .returned (.tuple #[.pointer (some ⟨yb, 0, none⟩), .int .i64 0]) ∧ YE yb gb h xs u dv L w3 ∧ w2.heap.size ≤ yb ∧ w2.heap.size ≤ gb := by
    rcases hG with ⟨h9, _⟩ | ⟨_, h9⟩
    · exact absurd rfl h9
    · exact h9
  have K3 : Free.Bel ((w.alloc (.cells #[.int .i64 h, .slice p xs.length cp] 24)).alloc (.cells #[.int .i64 n] 3)) w3 := bt K2 hB3
  have HYE := Lib.hid hye
  clear hB3 hG hye hy1 hy2
  have mL : (w3.alloc (.cells #[.slice none 0 0] 25)).heap[w3.heap.size]? = some (.cells #[.slice none 0 0] 25 (0, 0)) := World.alloc_heap_new w3 _
  have KL : Free.Bel w3 (w3.alloc (.cells #[.slice none 0 0] 25)) := belAlloc _ _
  go_wp2_with fail
  refine (plan_any yb _).mono ?_
  rintro e w5 ⟨rfl, hw5⟩
  have hsL : (w3.alloc (.cells #[.slice none 0 0] 25)).heap.size = w3.heap.size + 1 := by simp
  have K5 : Free.Bel (w3.alloc (.cells #[.slice none 0 0] 25)) w5 := by rw [← hw5]; exact belAlloc _ _
  have mY : w5.heap[w3.heap.size + 1]? = some (.cells #[.pointer (some ⟨yb, 0, none⟩)] 108 (0, 0)) := by
    rw [← hw5]
    have := World.alloc_heap_new (w3.alloc (.cells #[.slice none 0 0] 25)) (.cells #[.pointer (some ⟨yb, 0, none⟩)] 108)
    simpa using this
  have hs5 : w5.heap.size = w3.heap.size + 2 := by rw [← hw5]; simp
  have mL5 : w5.heap[w3.heap.size]? = some (.cells #[.slice none 0 0] 25 (0, 0)) := (K5.block _ (lt_of_heap mL)).trans mL
  have hws : w.heap.size + 2 ≤ w3.heap.size := by have := K3.size; simp at this; omega
  rw [hsL]
  have hB35 : Free.Bel w3 w5 := bt KL K5
  have hseq : SeqN Fence.wide (5 - 1) Tryd.prog 102 #[.pointer (some ⟨w3.heap.size + 1, 0, none⟩)] EP (RQ w5.heap.size) (KP w3.heap.size [w3.heap.size]) (planP h xs (n + 1)) w5 := fun l J Jx W hW hJ hJx hY hno h0 =>
    plan1_in (5 - 1) l w5.heap.size (w3.heap.size + 1) yb gb (n + 1) [w3.heap.size] h xs v0 dv L (by omega) w3 W HYE.out HWE.out.1 HWE.out.2 ((hW.below.block _ (by omega)).trans mY) (by omega) (by simp) (by simp; omega) (by omega) hW.below.size (Below.trans (show Below w3.heap.size w3 w5 from hB35) (hW.below.mono (by omega))) J Jx hJ hJx hY hno h0
  have HSEQ := Lib.hid hseq
  have HI := Lib.hid (show DaysI w w3.heap.size w5.heap.size w3.heap.size n [] w5 from ⟨bt HKB.out.1 (bt K3 hB35), ((bt K3 hB35).block _ (lt_of_heap HKB.out.2.2)).trans HKB.out.2.2, Nat.le_refl _, _, mL5, DO.nil _ _⟩)
  have HS := Lib.hid (And.intro hs5 hws)
  clear hseq hB35 mL5 mL mY K5 KL K3 K2 K1 hs5 hws hw5 hsL FA KE KB
  go_wp2_with fail
  refine (wpIn_wide (n := 5)).1 ?_
  refine wpIn_rangeFunc_RN (F := Fence.wide) (n := 5) rfl (by omega) (gf := 102) (lb := #[.pointer (some ⟨w3.heap.size + 1, 0, none⟩)]) rfl trivial (enters_of Tryd.func102 (by kernel_rfl) rfl)
    HSEQ.out (fun A b hA h => h.trans (.of_bel (belAlloc A b) hA)) (RQ.refl _ _) (fun A B k b h _ hc hA => h.other k b hA fun c f e => by rw [e] at hc; cases hc)
    KP.trans (fun W l b b' hl h hc _ => KP.put h hc (by have := HS.out.1; omega)) (fun x vs W hE => by obtain ⟨v, rfl, _⟩ := hE; rfl)
    (fun pre W => pre.length ≤ n ∧ DaysI w w3.heap.size w5.heap.size w3.heap.size n pre W)
    (fun c pre W => c = .exit 0 ∧ ∃ pre' x, pre = pre' ++ [x] ∧ pre'.length = n ∧ DaysI w w3.heap.size w5.heap.size w3.heap.size n pre' W)
    ?own ?ownx ?abide ?abidex ⟨Nat.zero_le _, HI.out⟩
    (fun x a' W => ∃ q m c, DayR x.2 (.slice q m c) W ∧ a' = { tmps := #[.agg #[.int .i64 h, .slice p xs.length cp], .int .i64 n, .pointer (some ⟨w.heap.size, 0, none⟩), .pointer (some ⟨w.heap.size + 1, 0, none⟩), .slice none 0 0, .int .i64 0, .int .i64 0, .pointer (some ⟨yb, 0, none⟩), .int .i64 0, .pointer (some ⟨w3.heap.size, 0, none⟩), undef, .slice q m c, .agg #[.int .i64 h, .slice p xs.length cp], .int .i64 0, .int .i64 0, .bool false, undef, .int .i64 n, .slice (some ⟨w1.heap.size, 0, none⟩) 1 1, .bool true, .bool false, .tuple #[.pointer (some ⟨yb, 0, none⟩), .int .i64 0], .agg #[.int .i64 h, .slice p xs.length cp], .tuple #[.pointer (some ⟨yb, 0, none⟩), .int .i64 0], .pointer (some ⟨yb, 0, none⟩), .int .i64 0, .int .i64 0, .bool false, undef, .pointer (some ⟨yb, 0, none⟩), .func (.func 102) #[] #[.pointer (some ⟨w3.heap.size + 1, 0, none⟩)], stV (waits x.1), .slice q m c, undef, undef, undef, undef, undef, undef, undef, undef, undef], defers := [] })
    ?hAx ?assign ?body (fun W hW => by have := hW.1; simp [planP] at this; omega) ?stop
  case own =>
    rintro pre A B row ⟨h1, h2⟩ hgr hrow
    have hs := HS.out
    exact ⟨h1, h2.own hgr hrow (by omega) (by omega)⟩
  case ownx =>
    rintro c pre A B row ⟨h0, pre', x, e1, e2, h2⟩ hgr hrow
    have hs := HS.out
    exact ⟨h0, pre', x, e1, e2, h2.own hgr hrow (by omega) (by omega)⟩
  case abide =>
    rintro pre A B ⟨h1, h2⟩ hR
    have hs := HS.out
    exact ⟨h1, h2.rq hR (by omega) (by omega)⟩
  case abidex =>
    rintro c pre A B ⟨h0, pre', x, e1, e2, h2⟩ hR
    have hs := HS.out
    exact ⟨h0, pre', x, e1, e2, h2.rq hR (by omega) (by omega)⟩
  case hAx =>
    rintro x a' _ A B row ⟨q, m, c, hv, rfl⟩ hgr hrow
    exact ⟨q, m, c, hv.stay (fun k c f hk => heap_grown hk hgr fun e => by
      obtain ⟨_, o, ho, hc⟩ := hrow k e.symm
      rw [hk] at ho
      cases ho
      cases hc), rfl⟩
  case assign =>
    rintro l pre x vs W K hI hpre ⟨v, rfl, hv⟩ hK
    obtain ⟨b0, hrow⟩ := hv
    obtain ⟨q, c, rfl⟩ := row_slice hrow
    gi_wp2
    exact hK _ _ (KeepsFrom.refl _ _) (KP.refl _ _ _) hI ⟨q, _, c, ⟨b0, hrow⟩, rfl⟩
  case body =>
    rintro l pre x a' W ⟨hle, hD⟩ ⟨q, m, c, hv, rfl⟩ hpre
    obtain ⟨vl, hl, vs, hvl, how, hdr⟩ := hD.row
    obtain ⟨pl, cl, rfl⟩ := row_slice how
    obtain ⟨d, hd⟩ : ∃ y, pre.map (·.2) = y := ⟨_, rfl⟩
    rw [hd] at hvl how hdr hl
    have hdl : d.length = pre.length := by rw [← hd]; simp
    have z0 := cell_of_heap (o := 0) hl rfl
    have z1 := cell_of_heap (o := 0) hD.nb rfl
    have f0 := frozen_of_heap (o := 0) hl
    obtain ⟨i0, hi0, hz0, hz1, hz2⟩ := info_parts Go.Proofs.YtknpglgpkkhhiaaDoor.T.infoDT
    have HZ := Lib.hid (And.intro hi0 (And.intro hz0 (And.intro hz1 hz2)))
    have HLE := Lib.hid (And.intro hle (And.intro hdl hd))
    by_cases hlt : pre.length = n
    · have g0 : ((d.length : Int) == (n : Int)) = true := by rw [hdl, hlt]; simp
      have HD := Lib.hid hD
      have HLT := Lib.hid hlt
      clear hi0 hz0 hz1 hz2 hD hl how hdr hvl hle hdl hd hlt hv hpre
      gi_wp2
      exact ⟨KeepsFrom.refl _ _, rfl, pre, x, rfl, HLT.out, HD.out⟩
    · have g0 : ((d.length : Int) == (n : Int)) = false := by rw [hdl]; simp; omega
      have hdn : d.length < 60 := by omega
      have HD := Lib.hid hD
      have HV := Lib.hid (And.intro hv (And.intro hvl (And.intro how hdr)))
      have HLT := Lib.hid hlt
      have hW3 : w3.heap.size ≤ W.heap.size := by have := hD.sz; have := HS.out; omega
      have HL := Lib.hid hl
      clear hi0 hz0 hz1 hz2 hD hl hdr hvl hle hdl hd hlt hv hpre
      gi_wp2_with (gi_at_builtin; go_loud (refine wpListIn_append_own _ rfl _ _ 25 rfl w3.heap.size 58 i0 (.slice none 0 0) 1 24 Tryd.underlying25 HZ.out.1 HZ.out.2.1 HZ.out.2.2.1 HZ.out.2.2.2 rfl (by decide) _ _ _ rfl (how.alloc _) ⟨W.heap.size, 0, none⟩ 1 1 [.slice q m c] rfl rfl (cell_one_new _ _ _) (fun u hu => by simp at hu; subst hu; rfl) (by unfold maxLen; omega) (by omega) (by simp; omega) ?_); intro v' w9 hown' hgrow hnil9; obtain ⟨q9, c9, rfl⟩ := row_slice hown'; have hg9 := box_grown HL.out how hgrow; have y0 := cell_of_heap (o := 0) hg9 rfl; have y1 := frozen_of_heap (o := 0) hg9; have HG := Lib.hid (And.intro hown' (And.intro hgrow hg9)); clear hown' hgrow hnil9 hg9 z0 f0)
      obtain ⟨hown', hgrow, hg9⟩ := HG.out
      obtain ⟨hle, hdl, hd⟩ := HLE.out
      obtain ⟨hv, hvl, how, hdr⟩ := HV.out
      subst hd
      have hs := HS.out
      have h9 := DaysI.step (x := x) HD.out HL.out hvl how hdr hv hgrow hown' (by omega) (by omega)
      exact ⟨h9.1, h9.2.1, by simp; have := HLT.out; omega, h9.2.2⟩
  case stop =>
    rintro D c pre W hD ⟨t, ht⟩ ⟨rfl, pre', x, rfl, hpl, hDI⟩ hKD
    obtain ⟨vl, hl, hdo⟩ := hDI.row
    have z0 := cell_of_heap (o := 0) hl rfl
    have HDI := Lib.hid (And.intro hDI (And.intro hl hdo))
    clear hDI hl hdo
    gi_wp2
    go_wp2_with fail
    refine ⟨by simp, .inl ⟨_, _, rfl, run_takeDeferred hKD, ?_⟩⟩
    obtain ⟨hDI, hl, hdo⟩ := HDI.out
    have hs := HS.out
    have hpp : pre'.map (·.2) = planL h xs n := by
      have h1 : ((pre' ++ [x]) ++ t).take n = (planP h xs (n + 1)).take n := by rw [ht]
      rw [List.append_assoc, List.take_left' hpl] at h1
      rw [h1]
      have h2 : (planP h xs (n + 1)).take n = planP h xs n := by
        unfold planP
        rw [← List.map_take, List.take_range, Nat.min_eq_left (Nat.le_succ n)]
      rw [h2, planP_snd]
    rw [hpp] at hdo
    refine ⟨.tuple #[vl, .int .i64 0], by simp [results, Tryd.f39, go_sem], ⟨vl, rfl, (hdo.put hKD rfl).mono (by omega)⟩, hDI.bel.trans (Below.putNew _ (by omega))⟩
end Go.Proofs.YtknpglgpkkhhiaaDoor

/- Days, all cases; what is to be turned today. -/
namespace Go.Proofs.YtknpglgpkkhhiaaDoor
set_option linter.unusedSimpArgs false
set_option linter.unusedVariables false
open Go.RowKit Go.Proofs.YtknpglgpkkhhiaaDoor.Free2 Go.Proofs.YtknpglgpkkhhiaaDoor.ML RR

theorem daysP_v (h : Int) (xs : List Rk) (n : Int) (u : Value) (w : World) (hT : TabR w) (hu : RL xs u w) (c : Int) (hc : Hid (daysE h xs n = c)) :
    Calls Tryd.prog 39 #[.agg #[.int .i64 h, u], .int .i64 n] w fun e w' => DaysPost h xs n c w e w' ∧ Below w.heap.size w w' := by
  have hC := hc.out
  unfold daysE goE at hC
  cases hw : watchB h xs with
  | false =>
    rw [hw] at hC
    obtain rfl : c = 70 := by simpa using hC.symm
    exact (days_a h xs n u w hT hu hw).mono fun e w' ⟨h1, h2⟩ => ⟨.inl ⟨by decide, h1⟩, h2⟩
  | true =>
    cases hn : inB 0 60 [n] with
    | false =>
      rw [hw, hn] at hC
      obtain rfl : c = 2 := by simpa using hC.symm
      exact (days_b h xs n u w hT hu hw hn).mono fun e w' ⟨h1, h2⟩ => ⟨.inl ⟨by decide, h1⟩, h2⟩
    | true =>
      cases he : everB h xs with
      | false =>
        rw [hw, hn, he] at hC
        obtain rfl : c = 8 := by simpa using hC.symm
        exact (days_c h xs n u w hT hu hw hn (by show _ = _; unfold goE; simp [hw, he])).mono fun e w' ⟨h1, h2⟩ => ⟨.inl ⟨by decide, h1⟩, h2⟩
      | true =>
        rw [hw, hn, he] at hC
        obtain rfl : c = 0 := by simpa using hC.symm
        obtain ⟨m, rfl⟩ : ∃ m : Nat, n = (m : Int) := ⟨n.toNat, by simp [inB] at hn; omega⟩
        exact (days_d h xs m u w hT hu hw he hn).mono fun e w' ⟨⟨v, h1, h3⟩, h2⟩ => ⟨.inr ⟨rfl, v, h1, by simpa using h3⟩, h2⟩
/-- What Today tells. -/
def TodayPost (h : Int) (xs : List Rk) (c : Int) (e : Ending) (w' : World) : Prop :=
  (c ≠ 0 ∧ e = .returned (.tuple #[.slice none 0 0, .int .i64 c])) ∨ (c = 0 ∧ ∃ v, e = .returned (.tuple #[v, .int .i64 0]) ∧ DayR (stepE h xs) v w')
set_option maxRecDepth 100000 in
set_option maxHeartbeats 8000000 in
theorem todayP_v (h : Int) (xs : List Rk) (u : Value) (w : World) (hT : TabR w) (hu : RL xs u w) (c : Int) (hc : Hid (goE h xs = c)) :
    Calls Tryd.prog 34 #[.agg #[.int .i64 h, u]] w fun e w' => TodayPost h xs c e w' ∧ Below w.heap.size w w' := by
  have hd : daysE h xs 1 = c := by
    have := hc.out
    unfold daysE
    rw [if_pos (show inB 0 60 [1] = true by decide)]
    unfold goE at this ⊢
    cases hw : watchB h xs with
    | false => rw [hw] at this; simpa using this
    | true => simpa [hw] using this
  have HD := Lib.hid (daysP_v h xs 1 u (w.alloc (.cells #[.int .i64 h, u] 24)) (hT.bel (belAlloc _ _)) (hu.keeps (belAlloc _ _)) c (Lib.hid hd))
  obtain ⟨p, cp, rfl, _, _⟩ := hu
  have KB : Free.Bel w (w.alloc (.cells #[.int .i64 h, .slice p xs.length cp] 24)) := belAlloc _ _
  have m0 : (w.alloc (.cells #[.int .i64 h, .slice p xs.length cp] 24)).heap[w.heap.size]? = some (.cells #[.int .i64 h, .slice p xs.length cp] 24 (0, 0)) := World.alloc_heap_new w _
  have FA : ∀ W, Free.Bel (w.alloc (.cells #[.int .i64 h, .slice p xs.length cp] 24)) W → W.cell? ⟨w.heap.size, 0, none⟩ = some (.int .i64 h) ∧ W.cell? ⟨w.heap.size, 1, none⟩ = some (.slice p xs.length cp) := fun W hW => ⟨keepsB hW (cell_of_heap m0 rfl), keepsB hW (cell_of_heap m0 rfl)⟩
  have KE : Free.Bel (w.alloc (.cells #[.int .i64 h, .slice p xs.length cp] 24)) (w.alloc (.cells #[.int .i64 h, .slice p xs.length cp] 24)) := Free.Bel.refl _
  clear hT m0 hd
  go_enter Tryd.func34, Tryd.ntmps34
  go_wp2_with fail
  refine HD.out.mono ?_
  rintro e w1 ⟨hP, hB1⟩
  have HB := Lib.hid (bt KB hB1)
  clear hB1
  rcases hP with ⟨h0, rfl⟩ | ⟨rfl, v, rfl, vs, hvl, how, hdr⟩
  · have g0 : (c != 0) = true := by simp [h0]
    go_wp2_with fail
    go_ret2
    exact ⟨.inl ⟨h0, rfl⟩, HB.out⟩
  · have h1 : planL h xs (1 : Int).toNat = [stepE h xs] := by simp [planL, planS]
    rw [h1] at hvl how hdr
    obtain ⟨g, cap, cur, rfl, _, hg, _, _, _, hcs⟩ := how.2.resolve_left (fun h => by simp at h)
    match vs, hvl with
    | [a], _ =>
      have hda := hdr 0 (by simp) a rfl
      have hc0 : w1.cell? ⟨g, 0, none⟩ = some a := how.cellAt 0 (by simp)
      have HDA := Lib.hid hda
      clear hdr how hg hcs hda h1
      go_wp2_with fail
      go_ret2
      exact ⟨.inr ⟨rfl, a, rfl, HDA.out⟩, HB.out⟩
end Go.Proofs.YtknpglgpkkhhiaaDoor

