/- known: a cargo at work, and the numbers that can be. -/
import Derived.Test.YtigdpohdihopjaaGreatDoorB2
import Derived.Shelf.Small.Bits
import Derived.Shelf.Small.Wraps
import Derived.Shelf.Strconv.Itoa0
import Derived.Shelf.Strconv.Itoa1
import Derived.Shelf.LaysM
import Derived.Shelf.Strconv.Itoa2
import Derived.Shelf.Strconv.Itoa3
import Derived.Shelf.Sort.Plain
import Derived.Shelf.Slices.Turned
import Derived.Ground.Names2Prog
import Derived.Shelf.Slices.SearchI
import Derived.Shelf.Slices.In.SortNone
import Derived.Ground.SlgfProg
import Derived.Shelf.SlicesE.IndexFunc
import Derived.Shelf.SlicesE.DeleteFunc
import Derived.Test.YtigdpohdihopjaaGreatDoorProg
import Derived.Lib.SliceRun
namespace Go.Proofs.YtigdpohdihopjaaGreatDoor
set_option linter.unusedSimpArgs false
set_option linter.unusedVariables false
open Go.RowKit Go.Proofs.YtigdpohdihopjaaGreatDoor.ML Go.Proofs.YtigdpohdihopjaaGreatDoor.Samp

abbrev ableV (xb db : Nat) : Value := .func (.func 79) #[] #[.pointer (some ⟨xb, 0, none⟩), .pointer (some ⟨db, 0, none⟩)]
def ableL (N lo hi o f : Int) : List Int := ableK N lo o f (hi - lo + 1).toNat
set_option maxRecDepth 100000 in
set_option maxHeartbeats 1000000 in
theorem able_any (hb : Nat) (o f : Int) (w : World) :
    Calls Tryz.prog 66 #[.pointer (some ⟨hb, 0, none⟩), .agg #[.int .i64 o, .int .i64 f]] w fun e w' => e = .returned (ableV w.heap.size (w.heap.size + 1)) ∧ (w.alloc (.cells #[.pointer (some ⟨hb, 0, none⟩)] 77)).alloc (.cells #[.int .i64 o, .int .i64 f] 37) = w' := by
  go_enter Tryz.func66, Tryz.ntmps66
  go_wp2_with fail
  go_ret
  exact ⟨rfl, rfl⟩
/-- The numbers have been collected. -/
def Collected (mb : Nat) (L : List Int) (w : World) (e : Ending) (w' : World) : Prop := ∃ v, e = .returned v ∧ w'.ownsRow w.heap.size 3 1 v L.length (L.map (Value.int .i64)) ∧ Kept mb w w'
set_option maxRecDepth 100000 in
set_option maxHeartbeats 1000000 in
theorem collect_able (xb db hb mb kb cb : Nat) (N lo hi o f : Int) (hN : N ≤ 36) (hlo : 0 ≤ lo ∧ lo ≤ hi ∧ hi ≤ N) (ho : 0 ≤ o ∧ o ≤ N) (hf : 0 ≤ f ∧ f ≤ o) (w : World)
    (hH : Hold hb N lo hi mb kb cb w) (hx : w.cell? ⟨xb, 0, none⟩ = some (.pointer (some ⟨hb, 0, none⟩))) (hd0 : w.cell? ⟨db, 0, none⟩ = some (.int .i64 o)) (hd1 : w.cell? ⟨db, 1, none⟩ = some (.int .i64 f)) :
    Calls Tryz.prog 65 #[ableV xb db] w (Collected mb (ableL N lo hi o f) w) := by
  have HC := Lib.hid (appendSeq_able xb db hb mb kb cb N lo hi o f hN hlo ho hf w hH hx hd0 hd1)
  clear hH hx hd0 hd1
  go_enter Tryz.func65, Tryz.ntmps65
  go_wp2_with fail
  refine HC.out.mono ?_
  rintro e w1 ⟨v, rfl, hrow, hK⟩
  have HR := Lib.hid (And.intro hrow hK)
  clear hrow hK
  go_wp2_with fail
  go_ret
  exact ⟨v, rfl, HR.out.1, HR.out.2⟩

set_option maxRecDepth 100000 in
set_option maxHeartbeats 4000000 in
theorem known_a (N lo hi o f m : Int) (w : World) (hc : cargoB N lo hi = false) :
    Calls Tryz.prog 38 #[.agg #[.int .i64 N, .int .i64 lo, .int .i64 hi], .agg #[.int .i64 o, .int .i64 f], .int .i64 m] w fun e w' => e = .returned (.tuple #[.pointer none, .slice none 0 0, .int .i64 10]) ∧ Below w.heap.size w w' := by
  have hB0 : Below w.heap.size w ((w.alloc (.cells #[.int .i64 N, .int .i64 lo, .int .i64 hi] 28)).alloc (.cells #[.int .i64 o, .int .i64 f] 37)) := ((Below.refl _ w).alloc (Nat.le_refl _) _).alloc (by simp) _
  have c0_0 : ((w.alloc (.cells #[.int .i64 N, .int .i64 lo, .int .i64 hi] 28)).alloc (.cells #[.int .i64 o, .int .i64 f] 37)).cell? ⟨w.heap.size, 0, none⟩ = some (.int .i64 N) := by simp [go_sem]
  have c0_1 : ((w.alloc (.cells #[.int .i64 N, .int .i64 lo, .int .i64 hi] 28)).alloc (.cells #[.int .i64 o, .int .i64 f] 37)).cell? ⟨w.heap.size, 1, none⟩ = some (.int .i64 lo) := by simp [go_sem]
  have c0_2 : ((w.alloc (.cells #[.int .i64 N, .int .i64 lo, .int .i64 hi] 28)).alloc (.cells #[.int .i64 o, .int .i64 f] 37)).cell? ⟨w.heap.size, 2, none⟩ = some (.int .i64 hi) := by simp [go_sem]
  have c1_0 : ((w.alloc (.cells #[.int .i64 N, .int .i64 lo, .int .i64 hi] 28)).alloc (.cells #[.int .i64 o, .int .i64 f] 37)).cell? ⟨w.heap.size + 1, 0, none⟩ = some (.int .i64 o) := by simp [go_sem]
  have c1_1 : ((w.alloc (.cells #[.int .i64 N, .int .i64 lo, .int .i64 hi] 28)).alloc (.cells #[.int .i64 o, .int .i64 f] 37)).cell? ⟨w.heap.size + 1, 1, none⟩ = some (.int .i64 f) := by simp [go_sem]
  go_enter Tryz.func38, Tryz.ntmps38
  go_wp2_with fail
  refine (begun_bad N lo hi _ hc).mono ?_
  rintro e w1 ⟨rfl, hB1⟩
  have K_w1 : Free.Bel ((w.alloc (.cells #[.int .i64 N, .int .i64 lo, .int .i64 hi] 28)).alloc (.cells #[.int .i64 o, .int .i64 f] 37)) w1 := hB1
  clear hB1
  have hq : w.heap.size + 2 = ((w.alloc (.cells #[.int .i64 N, .int .i64 lo, .int .i64 hi] 28)).alloc (.cells #[.int .i64 o, .int .i64 f] 37)).heap.size := by simp
  generalize ((w.alloc (.cells #[.int .i64 N, .int .i64 lo, .int .i64 hi] 28)).alloc (.cells #[.int .i64 o, .int .i64 f] 37)) = W0 at *
  generalize hbb : w.heap.size = bb at *
  have HBB := Lib.hid hbb
  clear hbb
  have HB0 := Lib.hid hB0
  have hq0 : bb + 2 ≤ W0.heap.size := by omega
  clear hB0 hq
  have FA : ∀ W, Free.Bel W0 W → W.cell? ⟨bb, 0, none⟩ = some (.int .i64 N) ∧ W.cell? ⟨bb, 1, none⟩ = some (.int .i64 lo) ∧ W.cell? ⟨bb, 2, none⟩ = some (.int .i64 hi) ∧ W.cell? ⟨bb + 1, 0, none⟩ = some (.int .i64 o) ∧ W.cell? ⟨bb + 1, 1, none⟩ = some (.int .i64 f) ∧ bb + 2 ≤ W.heap.size := fun W hW => ⟨keepsB hW c0_0, keepsB hW c0_1, keepsB hW c0_2, keepsB hW c1_0, keepsB hW c1_1, Nat.le_trans hq0 hW.size⟩
  clear c0_0 c0_1 c0_2 c1_0 c1_1
  go_wp2_with fail
  have hbb := HBB.out
  subst hbb
  exact bodyPost_ret (v := .tuple #[.pointer none, .slice none 0 0, .int .i64 10]) (by simp [results, Tryz.results38, go_sem]) rfl ⟨rfl, HB0.out.trans (K_w1.mono (by omega))⟩

set_option maxRecDepth 100000 in
set_option maxHeartbeats 4000000 in
theorem known_b (N lo hi o f m : Int) (w : World) (hc : cargoB N lo hi = true) (x z : Int) (hx : Hid ((if drawB N o f then 0 else 11) = x)) (hz : Hid (firstE [x, m] = z)) (hz0 : (z != 0) = true) :
    Calls Tryz.prog 38 #[.agg #[.int .i64 N, .int .i64 lo, .int .i64 hi], .agg #[.int .i64 o, .int .i64 f], .int .i64 m] w fun e w' => e = .returned (.tuple #[.pointer none, .slice none 0 0, .int .i64 z]) ∧ Below w.heap.size w w' := by
  have hB0 : Below w.heap.size w ((w.alloc (.cells #[.int .i64 N, .int .i64 lo, .int .i64 hi] 28)).alloc (.cells #[.int .i64 o, .int .i64 f] 37)) := ((Below.refl _ w).alloc (Nat.le_refl _) _).alloc (by simp) _
  have c0_0 : ((w.alloc (.cells #[.int .i64 N, .int .i64 lo, .int .i64 hi] 28)).alloc (.cells #[.int .i64 o, .int .i64 f] 37)).cell? ⟨w.heap.size, 0, none⟩ = some (.int .i64 N) := by simp [go_sem]
  have c0_1 : ((w.alloc (.cells #[.int .i64 N, .int .i64 lo, .int .i64 hi] 28)).alloc (.cells #[.int .i64 o, .int .i64 f] 37)).cell? ⟨w.heap.size, 1, none⟩ = some (.int .i64 lo) := by simp [go_sem]
  have c0_2 : ((w.alloc (.cells #[.int .i64 N, .int .i64 lo, .int .i64 hi] 28)).alloc (.cells #[.int .i64 o, .int .i64 f] 37)).cell? ⟨w.heap.size, 2, none⟩ = some (.int .i64 hi) := by simp [go_sem]
  have c1_0 : ((w.alloc (.cells #[.int .i64 N, .int .i64 lo, .int .i64 hi] 28)).alloc (.cells #[.int .i64 o, .int .i64 f] 37)).cell? ⟨w.heap.size + 1, 0, none⟩ = some (.int .i64 o) := by simp [go_sem]
  have c1_1 : ((w.alloc (.cells #[.int .i64 N, .int .i64 lo, .int .i64 hi] 28)).alloc (.cells #[.int .i64 o, .int .i64 f] 37)).cell? ⟨w.heap.size + 1, 1, none⟩ = some (.int .i64 f) := by simp [go_sem]
  go_enter Tryz.func38, Tryz.ntmps38
  go_wp2_with fail
  refine (begun_ok N lo hi _ hc).mono ?_
  rintro e w1 ⟨hb, mb, kb, cb, rfl, hH, hmb, hhb, hB1⟩
  have K_w1 : Free.Bel ((w.alloc (.cells #[.int .i64 N, .int .i64 lo, .int .i64 hi] 28)).alloc (.cells #[.int .i64 o, .int .i64 f] 37)) w1 := hB1
  have HHB := Lib.hid hhb
  clear hB1 hhb
  have hq : w.heap.size + 2 = ((w.alloc (.cells #[.int .i64 N, .int .i64 lo, .int .i64 hi] 28)).alloc (.cells #[.int .i64 o, .int .i64 f] 37)).heap.size := by simp
  generalize ((w.alloc (.cells #[.int .i64 N, .int .i64 lo, .int .i64 hi] 28)).alloc (.cells #[.int .i64 o, .int .i64 f] 37)) = W0 at *
  generalize hbb : w.heap.size = bb at *
  have HBB := Lib.hid hbb
  clear hbb
  have HB0 := Lib.hid hB0
  have hq0 : bb + 2 ≤ W0.heap.size := by omega
  clear hB0 hq
  have FA : ∀ W, Free.Bel W0 W → W.cell? ⟨bb, 0, none⟩ = some (.int .i64 N) ∧ W.cell? ⟨bb, 1, none⟩ = some (.int .i64 lo) ∧ W.cell? ⟨bb, 2, none⟩ = some (.int .i64 hi) ∧ W.cell? ⟨bb + 1, 0, none⟩ = some (.int .i64 o) ∧ W.cell? ⟨bb + 1, 1, none⟩ = some (.int .i64 f) ∧ bb + 2 ≤ W.heap.size := fun W hW => ⟨keepsB hW c0_0, keepsB hW c0_1, keepsB hW c0_2, keepsB hW c1_0, keepsB hW c1_1, Nat.le_trans hq0 hW.size⟩
  clear c0_0 c0_1 c0_2 c1_0 c1_1
  obtain ⟨a0_0, a0_1, a0_2, a1_0, a1_1, aq⟩ := FA w1 K_w1
  have hm0 : W0.heap.size ≤ mb := hmb
  have HH1 := Lib.hid hH
  have HHo : ∀ W, Kept mb w1 W → Hold hb N lo hi mb kb cb W := fun W hW => HH1.out.kept hW
  have HC : ∀ W, Kept mb w1 W → W.cell? ⟨hb, 0, none⟩ = some (.int .i64 N) ∧ W.cell? ⟨hb, 1, none⟩ = some (.int .i64 lo) ∧ W.cell? ⟨hb, 2, none⟩ = some (.int .i64 hi) ∧ W.cell? ⟨hb, 3, none⟩ = some (setsV kb cb) ∧ mb < W.heap.size ∧ hb < W.heap.size := fun W hW => ⟨(HHo W hW).bags, (HHo W hW).lo, (HHo W hW).hi, (HHo W hW).sets, (by obtain ⟨l, hl, _⟩ := (HHo W hW).ctr.memo; exact hl.lt), lt_of_cell (HHo W hW).bags⟩
  have FB : ∀ W, Kept mb w1 W → W.cell? ⟨bb, 0, none⟩ = some (.int .i64 N) ∧ W.cell? ⟨bb, 1, none⟩ = some (.int .i64 lo) ∧ W.cell? ⟨bb, 2, none⟩ = some (.int .i64 hi) ∧ W.cell? ⟨bb + 1, 0, none⟩ = some (.int .i64 o) ∧ W.cell? ⟨bb + 1, 1, none⟩ = some (.int .i64 f) ∧ bb + 2 ≤ W.heap.size := fun W hW => ⟨hW.cell a0_0 (by show _ ≠ mb; simp; omega), hW.cell a0_1 (by show _ ≠ mb; simp; omega), hW.cell a0_2 (by show _ ≠ mb; simp; omega), hW.cell a1_0 (by show _ ≠ mb; simp; omega), hW.cell a1_1 (by show _ ≠ mb; simp; omega), Nat.le_trans aq hW.size⟩
  have HBE := Lib.hid (fun (W : World) (hW : Kept mb w1 W) => HB0.out.trans ((hW.below K_w1 hm0).mono (by omega)))
  have HK : Kept mb w1 w1 := Kept.refl _ _
  have HM := Lib.hid hm0
  clear a0_0 a0_1 a0_2 a1_0 a1_1 aq FA hH hmb K_w1
  go_wp2_with fail
  refine (draw_any hb N o f x _ (HHo _ HK).bags hx.out).mono ?_
  rintro e w2 ⟨rfl, hB2⟩
  have K_w2 : Kept mb w1 w2 := by
    refine Kept.trans ?_ (.of_below hB2)
    repeat (first | exact HK | exact Kept.refl _ _ | refine Kept.alloc ?_ _ | refine Kept.drew ?_)
  clear hB2 HK
  go_wp2_with fail
  refine (first_sl [x, m] z _ _ (by simp [maxLen]) hz.out (SlI.two _ _ _ _)).mono ?_
  rintro e w3 ⟨rfl, rfl⟩
  have HK3 : Kept mb w1 (w2.alloc (.cells #[.int .i64 x, .int .i64 m] 22)) := K_w2.alloc _
  go_wp2_with fail
  have hbb := HBB.out
  subst hbb
  exact bodyPost_ret (v := .tuple #[.pointer none, .slice none 0 0, .int .i64 z]) (by simp [results, Tryz.results38, go_sem]) rfl ⟨rfl, HBE.out _ HK3⟩

/-- It is known what can be. -/
def KnownIs (N lo hi o f : Int) (w : World) (e : Ending) (w' : World) : Prop :=
  ∃ hb mb kb cb base v, e = .returned (.tuple #[.pointer (some ⟨hb, 0, none⟩), v, .int .i64 (unlessV (decide (0 < ((ableL N lo hi o f).length : Int))) 8)]) ∧ Hold hb N lo hi mb kb cb w' ∧
    w'.ownsRow base 3 1 v (ableL N lo hi o f).length ((ableL N lo hi o f).map (Value.int .i64)) ∧ w.heap.size ≤ mb ∧ mb < base ∧ w.heap.size ≤ hb ∧ hb < base ∧ base ≤ w'.heap.size ∧ Below w.heap.size w w'

set_option maxRecDepth 100000 in
set_option maxHeartbeats 4000000 in
theorem known_c (N lo hi o f m : Int) (w : World) (hc : cargoB N lo hi = true) (hd : drawB N o f = true) (hm : m = 0) :
    Calls Tryz.prog 38 #[.agg #[.int .i64 N, .int .i64 lo, .int .i64 hi], .agg #[.int .i64 o, .int .i64 f], .int .i64 m] w (KnownIs N lo hi o f w) := by
  subst hm
  have hN := (cargoB_iff N lo hi).1 hc
  have hD := (drawB_iff N o f).1 hd
  obtain ⟨x, hx0⟩ : ∃ x : Int, x = 0 := ⟨_, rfl⟩
  have hx : Hid ((if drawB N o f then 0 else 11) = x) := by show _ = _; rw [if_pos hd, hx0]
  have hz : Hid (firstE [x, 0] = 0) := by show _ = _; rw [hx0]; simp [firstE]
  clear hd hx0
  have hB0 : Below w.heap.size w ((w.alloc (.cells #[.int .i64 N, .int .i64 lo, .int .i64 hi] 28)).alloc (.cells #[.int .i64 o, .int .i64 f] 37)) := ((Below.refl _ w).alloc (Nat.le_refl _) _).alloc (by simp) _
  have c0_0 : ((w.alloc (.cells #[.int .i64 N, .int .i64 lo, .int .i64 hi] 28)).alloc (.cells #[.int .i64 o, .int .i64 f] 37)).cell? ⟨w.heap.size, 0, none⟩ = some (.int .i64 N) := by simp [go_sem]
  have c0_1 : ((w.alloc (.cells #[.int .i64 N, .int .i64 lo, .int .i64 hi] 28)).alloc (.cells #[.int .i64 o, .int .i64 f] 37)).cell? ⟨w.heap.size, 1, none⟩ = some (.int .i64 lo) := by simp [go_sem]
  have c0_2 : ((w.alloc (.cells #[.int .i64 N, .int .i64 lo, .int .i64 hi] 28)).alloc (.cells #[.int .i64 o, .int .i64 f] 37)).cell? ⟨w.heap.size, 2, none⟩ = some (.int .i64 hi) := by simp [go_sem]
  have c1_0 : ((w.alloc (.cells #[.int .i64 N, .int .i64 lo, .int .i64 hi] 28)).alloc (.cells #[.int .i64 o, .int .i64 f] 37)).cell? ⟨w.heap.size + 1, 0, none⟩ = some (.int .i64 o) := by simp [go_sem]
  have c1_1 : ((w.alloc (.cells #[.int .i64 N, .int .i64 lo, .int .i64 hi] 28)).alloc (.cells #[.int .i64 o, .int .i64 f] 37)).cell? ⟨w.heap.size + 1, 1, none⟩ = some (.int .i64 f) := by simp [go_sem]
  go_enter Tryz.func38, Tryz.ntmps38
  go_wp2_with fail
  refine (begun_ok N lo hi _ hc).mono ?_
  rintro e w1 ⟨hb, mb, kb, cb, rfl, hH, hmb, hhb, hB1⟩
  have K_w1 : Free.Bel ((w.alloc (.cells #[.int .i64 N, .int .i64 lo, .int .i64 hi] 28)).alloc (.cells #[.int .i64 o, .int .i64 f] 37)) w1 := hB1
  have HHB := Lib.hid hhb
  clear hB1 hhb
  have hq : w.heap.size + 2 = ((w.alloc (.cells #[.int .i64 N, .int .i64 lo, .int .i64 hi] 28)).alloc (.cells #[.int .i64 o, .int .i64 f] 37)).heap.size := by simp
  generalize ((w.alloc (.cells #[.int .i64 N, .int .i64 lo, .int .i64 hi] 28)).alloc (.cells #[.int .i64 o, .int .i64 f] 37)) = W0 at *
  generalize hbb : w.heap.size = bb at *
  have HBB := Lib.hid hbb
  clear hbb
  have HB0 := Lib.hid hB0
  have hq0 : bb + 2 ≤ W0.heap.size := by omega
  clear hB0 hq
  have FA : ∀ W, Free.Bel W0 W → W.cell? ⟨bb, 0, none⟩ = some (.int .i64 N) ∧ W.cell? ⟨bb, 1, none⟩ = some (.int .i64 lo) ∧ W.cell? ⟨bb, 2, none⟩ = some (.int .i64 hi) ∧ W.cell? ⟨bb + 1, 0, none⟩ = some (.int .i64 o) ∧ W.cell? ⟨bb + 1, 1, none⟩ = some (.int .i64 f) ∧ bb + 2 ≤ W.heap.size := fun W hW => ⟨keepsB hW c0_0, keepsB hW c0_1, keepsB hW c0_2, keepsB hW c1_0, keepsB hW c1_1, Nat.le_trans hq0 hW.size⟩
  clear c0_0 c0_1 c0_2 c1_0 c1_1
  obtain ⟨a0_0, a0_1, a0_2, a1_0, a1_1, aq⟩ := FA w1 K_w1
  have hm0 : W0.heap.size ≤ mb := hmb
  have HH1 := Lib.hid hH
  have HHo : ∀ W, Kept mb w1 W → Hold hb N lo hi mb kb cb W := fun W hW => HH1.out.kept hW
  have HC : ∀ W, Kept mb w1 W → W.cell? ⟨hb, 0, none⟩ = some (.int .i64 N) ∧ W.cell? ⟨hb, 1, none⟩ = some (.int .i64 lo) ∧ W.cell? ⟨hb, 2, none⟩ = some (.int .i64 hi) ∧ W.cell? ⟨hb, 3, none⟩ = some (setsV kb cb) ∧ mb < W.heap.size ∧ hb < W.heap.size := fun W hW => ⟨(HHo W hW).bags, (HHo W hW).lo, (HHo W hW).hi, (HHo W hW).sets, (by obtain ⟨l, hl, _⟩ := (HHo W hW).ctr.memo; exact hl.lt), lt_of_cell (HHo W hW).bags⟩
  have FB : ∀ W, Kept mb w1 W → W.cell? ⟨bb, 0, none⟩ = some (.int .i64 N) ∧ W.cell? ⟨bb, 1, none⟩ = some (.int .i64 lo) ∧ W.cell? ⟨bb, 2, none⟩ = some (.int .i64 hi) ∧ W.cell? ⟨bb + 1, 0, none⟩ = some (.int .i64 o) ∧ W.cell? ⟨bb + 1, 1, none⟩ = some (.int .i64 f) ∧ bb + 2 ≤ W.heap.size := fun W hW => ⟨hW.cell a0_0 (by show _ ≠ mb; simp; omega), hW.cell a0_1 (by show _ ≠ mb; simp; omega), hW.cell a0_2 (by show _ ≠ mb; simp; omega), hW.cell a1_0 (by show _ ≠ mb; simp; omega), hW.cell a1_1 (by show _ ≠ mb; simp; omega), Nat.le_trans aq hW.size⟩
  have HBE := Lib.hid (fun (W : World) (hW : Kept mb w1 W) => HB0.out.trans ((hW.below K_w1 hm0).mono (by omega)))
  have HK : Kept mb w1 w1 := Kept.refl _ _
  have HM := Lib.hid hm0
  clear a0_0 a0_1 a0_2 a1_0 a1_1 aq FA hH hmb K_w1
  go_wp2_with fail
  refine (draw_any hb N o f x _ (HHo _ HK).bags hx.out).mono ?_
  rintro e w2 ⟨rfl, hB2⟩
  have K_w2 : Kept mb w1 w2 := by
    refine Kept.trans ?_ (.of_below hB2)
    repeat (first | exact HK | exact Kept.refl _ _ | refine Kept.alloc ?_ _ | refine Kept.drew ?_)
  clear hB2 HK
  go_wp2_with fail
  refine (first_sl [x, 0] 0 _ _ (by simp [maxLen]) hz.out (SlI.two _ _ _ _)).mono ?_
  rintro e w3 ⟨rfl, rfl⟩
  have HK3 : Kept mb w1 (w2.alloc (.cells #[.int .i64 x, .int .i64 0] 22)) := K_w2.alloc _
  go_wp2_with fail
  refine (able_any hb o f _).mono ?_
  rintro e w4 ⟨rfl, hw4⟩
  have c0 : w4.cell? ⟨w2.heap.size + 1, 0, none⟩ = some (.pointer (some ⟨hb, 0, none⟩)) := by rw [← hw4]; simp [go_sem]
  have c1 : w4.cell? ⟨w2.heap.size + 1 + 1, 0, none⟩ = some (.int .i64 o) := by rw [← hw4]; simp [go_sem]
  have c2 : w4.cell? ⟨w2.heap.size + 1 + 1, 1, none⟩ = some (.int .i64 f) := by rw [← hw4]; simp [go_sem]
  have HK4 : Kept mb w1 w4 := by rw [← hw4]; exact (HK3.alloc _).alloc _
  clear hw4 HK3 K_w2
  go_wp2_with fail
  refine (collect_able _ _ hb mb kb cb N lo hi o f (by omega) (by omega) (by omega) (by omega) w4 (HHo _ HK4) c0 c1 c2).mono ?_
  rintro e w5 ⟨v, rfl, hrow, hK5⟩
  have HK5 : Kept mb w1 w5 := HK4.trans hK5
  have HROW := Lib.hid hrow
  have hsz := hK5.size
  have hmw := HC _ HK4
  have hlen : ∃ p cap, v = .slice p (ableL N lo hi o f).length cap := by
    rcases hrow.2 with ⟨rfl, h0⟩ | ⟨g, cap, cur, rfl, _⟩
    · exact ⟨none, 0, by rw [h0]⟩
    · exact ⟨_, _, rfl⟩
  obtain ⟨p, cap, rfl⟩ := hlen
  have hL := ableK_length N lo o f (hi - lo + 1).toNat
  have hL37 : (ableL N lo hi o f).length ≤ 37 := by unfold ableL; omega
  clear hrow hK5 c0 c1 c2 HK4
  obtain ⟨L, hLe⟩ : ∃ L, ableL N lo hi o f = L := ⟨_, rfl⟩
  rw [hLe] at HROW hL37 ⊢
  have HLE := Lib.hid hLe
  clear hLe hL
  go_wp2_with fail
  refine (unless_any _ 8 _ _ rfl).mono ?_
  rintro e w6 ⟨rfl, rfl⟩
  go_wp2_with fail
  have hbb := HBB.out
  subst hbb
  have hw0 := HB0.out.size
  have hmm := HM.out
  have hhb := HHB.out
  refine bodyPost_ret (v := .tuple #[.pointer (some ⟨hb, 0, none⟩), .slice p L.length cap, .int .i64 (unlessV (decide (0 < (L.length : Int))) 8)]) (by simp [results, Tryz.results38, go_sem]) rfl ?_
  exact ⟨hb, mb, kb, cb, w4.heap.size, _, by rw [HLE.out], HHo _ HK5, by rw [HLE.out]; exact HROW.out, by omega, by omega, by omega, by omega, hsz, HBE.out _ HK5⟩
end Go.Proofs.YtigdpohdihopjaaGreatDoor

/-
  DERIVED: THE SHELF's CONTRACTS AT THIS DUMP, IN PLAIN WORDS (tools/lay-plain.mjs out of 'TryzShelf.lean', which tools/lay-shelf.mjs wrote): THE SAME DECLARATIONS UNDER THE SAME NAMES: 'import', 'namespace', 'open', 'def', 'theorem' AND NOTHING ELSE: no command of the shelf's: FOR A HAND-IN. Each laying: the table of numbers ('.._ren') and one theorem, a field a fact of the dump's own or the kernel's comparison; each contract: ONE APPLICATION.
-/
namespace Go.Proofs
open Go.Shelf
def Tryz.lays122_ren : Go.Shelf.Ren := ⟨fun | 122 => 42 | 215 => 67 | n => n, fun | 3 => 3 | 4 => 4 | n => n, fun | n => n⟩
theorem Tryz.lays122 : Go.Proofs.Lays.n122 Tryz.prog Tryz.lays122_ren := {
  mixed := by kernel_rfl
  f122 := Tryz.func42.trans (congrArg some (by kernel_rfl))
  f215 := Tryz.func67.trans (congrArg some (by kernel_rfl))
  t3 := Tryz.underlying3
  a3 := Tryz.isAgg3
  z3 := Tryz.sizeOf3
  v3 := Tryz.zeroValue3
  t4 := Tryz.underlying4
  a4 := Tryz.isAgg4
  z4 := Tryz.sizeOf4
  v4 := Tryz.zeroValue4 }
open Go.RowKit in
/-- cmp.Compare at int: "Compare returns -1 if x is less than y, 0 if x equals y, +1 if x is greater than y.": IT RETURNS 'Lib.compareInt x y'; the world is as it was. (LAID: no walk: one application.) -/
theorem Tryz.cmp_Compare_int (x y : Int) (w : World) :
    Calls Tryz.prog 42 #[.int .i64 x, .int .i64 y] w fun e w' => e = .returned (.int .i64 (Lib.compareInt x y)) ∧ w' = w := Any.cmp_Compare_int Tryz.lays122 x y w
def Tryz.lays171_ren : Go.Shelf.Ren := ⟨fun | 171 => 30 | 243 => 62 | 246 => 77 | 283 => 93 | 284 => 94 | 285 => 95 | 286 => 96 | 129 => 92 | 317 => 102 | 318 => 103 | 319 => 104 | 320 => 105 | 337 => 107 | 338 => 108 | n => n, fun | 3 => 3 | 9 => 9 | 2 => 2 | 4 => 4 | 171 => 150 | 0 => 0 | 53 => 149 | 37 => 152 | 5 => 5 | 173 => 153 | 212 => 162 | 51 => 147 | 20 => 20 | 213 => 163 | 46 => 130 | 232 => 167 | 233 => 168 | n => n, fun | 17 => 1 | 18 => 2 | 19 => 3 | n => n⟩
theorem Tryz.lays171 : Go.Proofs.Lays.n171 Tryz.prog Tryz.lays171_ren := {
  mixed := by kernel_rfl
  f129 := Tryz.func92.trans (congrArg some (by kernel_rfl))
  f171 := Tryz.func30.trans (congrArg some (by kernel_rfl))
  f243 := Tryz.func62.trans (congrArg some (by kernel_rfl))
  f246 := Tryz.func77.trans (congrArg some (by kernel_rfl))
  f283 := Tryz.func93.trans (congrArg some (by kernel_rfl))
  f284 := Tryz.func94.trans (congrArg some (by kernel_rfl))
  f285 := Tryz.func95.trans (congrArg some (by kernel_rfl))
  f286 := Tryz.func96.trans (congrArg some (by kernel_rfl))
  f317 := Tryz.func102.trans (congrArg some (by kernel_rfl))
  f318 := Tryz.func103.trans (congrArg some (by kernel_rfl))
  f319 := Tryz.func104.trans (congrArg some (by kernel_rfl))
  f320 := Tryz.func105.trans (congrArg some (by kernel_rfl))
  f337 := Tryz.func107.trans (congrArg some (by kernel_rfl))
  f338 := Tryz.func108.trans (congrArg some (by kernel_rfl))
  t0 := Tryz.underlying0
  a0 := Tryz.isAgg0
  z0 := Tryz.sizeOf0
  v0 := Tryz.zeroValue0
  t2 := Tryz.underlying2
  a2 := Tryz.isAgg2
  z2 := Tryz.sizeOf2
  v2 := Tryz.zeroValue2
  t3 := Tryz.underlying3
  a3 := Tryz.isAgg3
  z3 := Tryz.sizeOf3
  v3 := Tryz.zeroValue3
  t4 := Tryz.underlying4
  a4 := Tryz.isAgg4
  z4 := Tryz.sizeOf4
  v4 := Tryz.zeroValue4
  t5 := Tryz.underlying5
  a5 := Tryz.isAgg5
  z5 := Tryz.sizeOf5
  v5 := Tryz.zeroValue5
  t9 := Tryz.underlying9
  a9 := Tryz.isAgg9
  z9 := Tryz.sizeOf9
  v9 := Tryz.zeroValue9
  t20 := Tryz.underlying20
  a20 := Tryz.isAgg20
  z20 := Tryz.sizeOf20
  v20 := Tryz.zeroValue20
  t37 := Tryz.underlying152
  a37 := Tryz.isAgg152
  z37 := Tryz.sizeOf152
  v37 := Tryz.zeroValue152
  t46 := Tryz.underlying130
  a46 := Tryz.isAgg130
  z46 := Tryz.sizeOf130
  v46 := Tryz.zeroValue130
  t51 := Tryz.underlying147
  a51 := Tryz.isAgg147
  z51 := Tryz.sizeOf147
  v51 := Tryz.zeroValue147
  t53 := Tryz.underlying149
  a53 := Tryz.isAgg149
  z53 := Tryz.sizeOf149
  v53 := Tryz.zeroValue149
  t171 := Tryz.underlying150
  a171 := Tryz.isAgg150
  z171 := Tryz.sizeOf150
  v171 := Tryz.zeroValue150
  t173 := Tryz.underlying153
  a173 := Tryz.isAgg153
  z173 := Tryz.sizeOf153
  v173 := Tryz.zeroValue153
  t212 := Tryz.underlying162
  a212 := Tryz.isAgg162
  z212 := Tryz.sizeOf162
  v212 := Tryz.zeroValue162
  t213 := Tryz.underlying163
  a213 := Tryz.isAgg163
  z213 := Tryz.sizeOf163
  t232 := Tryz.underlying167
  a232 := Tryz.isAgg167
  z232 := Tryz.sizeOf167
  v232 := Tryz.zeroValue167
  t233 := Tryz.underlying168
  a233 := Tryz.isAgg168
  z233 := Tryz.sizeOf168
  v233 := Tryz.zeroValue168
  g17 := by kernel_rfl
  g18 := by kernel_rfl
  g19 := by kernel_rfl }
open Go.RowKit Go.Sort Go.Lib in
/-- THE ROAD WITHOUT THE TABLE: 0 <= i < 100: NO PREMISE ON THE WORLD, AND THE WORLD IS AS IT WAS: a row that keeps its argument in that range need list no table ('laid = []'). (LAID: no walk: one application.) -/
theorem Tryz.strconv_Itoa_small (i : Nat) (hi : i < 100) (w : World) :
    Calls Tryz.prog 30 #[.int .i64 i] w fun e w' => e = .returned (.string ⟨(Lib.decDigits i).toArray⟩) ∧ w' = w := Any.strconv_Itoa_small Tryz.lays171 i hi w
def Tryz.lays189_ren : Go.Shelf.Ren := ⟨fun | 189 => 56 | 125 => 74 | 257 => 73 | 128 => 91 | 129 => 92 | 294 => 82 | 295 => 83 | 296 => 84 | 297 => 85 | 298 => 86 | 299 => 87 | 216 => 88 | 300 => 89 | 301 => 90 | 328 => 97 | 329 => 98 | 330 => 99 | 331 => 100 | 332 => 101 | 215 => 67 | 343 => 106 | n => n, fun | 28 => 39 | 3 => 3 | 46 => 130 | 0 => 0 | 51 => 147 | 53 => 149 | 4 => 4 | 183 => 141 | 182 => 140 | 131 => 133 | 5 => 5 | 9 => 9 | 218 => 155 | 222 => 159 | 228 => 164 | 229 => 165 | n => n, fun | n => n⟩
theorem Tryz.lays189 : Go.Proofs.Lays.n189 Tryz.prog Tryz.lays189_ren := {
  mixed := by kernel_rfl
  f125 := Tryz.func74.trans (congrArg some (by kernel_rfl))
  f128 := Tryz.func91.trans (congrArg some (by kernel_rfl))
  f129 := Tryz.func92.trans (congrArg some (by kernel_rfl))
  f189 := Tryz.func56.trans (congrArg some (by kernel_rfl))
  f215 := Tryz.func67.trans (congrArg some (by kernel_rfl))
  f216 := Tryz.func88.trans (congrArg some (by kernel_rfl))
  f257 := Tryz.func73.trans (congrArg some (by kernel_rfl))
  f294 := Tryz.func82.trans (congrArg some (by kernel_rfl))
  f295 := Tryz.func83.trans (congrArg some (by kernel_rfl))
  f296 := Tryz.func84.trans (congrArg some (by kernel_rfl))
  f297 := Tryz.func85.trans (congrArg some (by kernel_rfl))
  f298 := Tryz.func86.trans (congrArg some (by kernel_rfl))
  f299 := Tryz.func87.trans (congrArg some (by kernel_rfl))
  f300 := Tryz.func89.trans (congrArg some (by kernel_rfl))
  f301 := Tryz.func90.trans (congrArg some (by kernel_rfl))
  f328 := Tryz.func97.trans (congrArg some (by kernel_rfl))
  f329 := Tryz.func98.trans (congrArg some (by kernel_rfl))
  f330 := Tryz.func99.trans (congrArg some (by kernel_rfl))
  f331 := Tryz.func100.trans (congrArg some (by kernel_rfl))
  f332 := Tryz.func101.trans (congrArg some (by kernel_rfl))
  f343 := Tryz.func106.trans (congrArg some (by kernel_rfl))
  t0 := Tryz.underlying0
  a0 := Tryz.isAgg0
  z0 := Tryz.sizeOf0
  v0 := Tryz.zeroValue0
  t3 := Tryz.underlying3
  a3 := Tryz.isAgg3
  z3 := Tryz.sizeOf3
  v3 := Tryz.zeroValue3
  t4 := Tryz.underlying4
  a4 := Tryz.isAgg4
  z4 := Tryz.sizeOf4
  v4 := Tryz.zeroValue4
  t5 := Tryz.underlying5
  a5 := Tryz.isAgg5
  z5 := Tryz.sizeOf5
  v5 := Tryz.zeroValue5
  t9 := Tryz.underlying9
  a9 := Tryz.isAgg9
  z9 := Tryz.sizeOf9
  v9 := Tryz.zeroValue9
  t28 := Tryz.underlying39
  a28 := Tryz.isAgg39
  z28 := Tryz.sizeOf39
  v28 := Tryz.zeroValue39
  t46 := Tryz.underlying130
  a46 := Tryz.isAgg130
  z46 := Tryz.sizeOf130
  v46 := Tryz.zeroValue130
  t51 := Tryz.underlying147
  a51 := Tryz.isAgg147
  z51 := Tryz.sizeOf147
  v51 := Tryz.zeroValue147
  t53 := Tryz.underlying149
  a53 := Tryz.isAgg149
  z53 := Tryz.sizeOf149
  v53 := Tryz.zeroValue149
  t131 := Tryz.underlying133
  a131 := Tryz.isAgg133
  z131 := Tryz.sizeOf133
  v131 := Tryz.zeroValue133
  t182 := Tryz.underlying140
  a182 := Tryz.isAgg140
  z182 := Tryz.sizeOf140
  v182 := Tryz.zeroValue140
  t183 := Tryz.underlying141
  a183 := Tryz.isAgg141
  z183 := Tryz.sizeOf141
  v183 := Tryz.zeroValue141
  t218 := Tryz.underlying155
  a218 := Tryz.isAgg155
  z218 := Tryz.sizeOf155
  v218 := Tryz.zeroValue155
  t222 := Tryz.underlying159
  a222 := Tryz.isAgg159
  z222 := Tryz.sizeOf159
  v222 := Tryz.zeroValue159
  t228 := Tryz.underlying164
  a228 := Tryz.isAgg164
  z228 := Tryz.sizeOf164
  v228 := Tryz.zeroValue164
  t229 := Tryz.underlying165
  a229 := Tryz.isAgg165
  z229 := Tryz.sizeOf165
  v229 := Tryz.zeroValue165 }
open Go.Sort Go.RowKit in
theorem Tryz.slices_Sort_int (blk off cap : Nat) (zs : List Int) (w : World) (hH : Holds (Value.int .i64) w blk off zs.toArray) (hblk : blk < w.heap.size) (hsz : zs.length < 4611686018427387904) :
    Calls Tryz.prog 56 #[.slice (some ⟨blk, off, none⟩) zs.length cap] w fun e w' =>
      e = .returned (.tuple #[]) ∧ ∃ n os, w' = grow (putRow (Value.int .i64) (Sort.ahead w n) blk off (zs.mergeSort fun x y => decide (x ≤ y)).toArray) os := Any.slices_Sort_int Tryz.lays189 blk off cap zs w hH hblk hsz
def Tryz.lays113_ren : Go.Shelf.Ren := ⟨fun | 113 => 60 | n => n, fun | 28 => 39 | 3 => 3 | 4 => 4 | 9 => 9 | 20 => 20 | 0 => 0 | n => n, fun | n => n⟩
theorem Tryz.lays113 : Go.Proofs.Lays.n113 Tryz.prog Tryz.lays113_ren := {
  mixed := by kernel_rfl
  f113 := Tryz.func60.trans (congrArg some (by kernel_rfl))
  t0 := Tryz.underlying0
  a0 := Tryz.isAgg0
  z0 := Tryz.sizeOf0
  v0 := Tryz.zeroValue0
  t3 := Tryz.underlying3
  a3 := Tryz.isAgg3
  z3 := Tryz.sizeOf3
  v3 := Tryz.zeroValue3
  t4 := Tryz.underlying4
  a4 := Tryz.isAgg4
  z4 := Tryz.sizeOf4
  v4 := Tryz.zeroValue4
  t9 := Tryz.underlying9
  a9 := Tryz.isAgg9
  z9 := Tryz.sizeOf9
  v9 := Tryz.zeroValue9
  t20 := Tryz.underlying20
  a20 := Tryz.isAgg20
  z20 := Tryz.sizeOf20
  v20 := Tryz.zeroValue20
  t28 := Tryz.underlying39
  a28 := Tryz.isAgg39
  z28 := Tryz.sizeOf39
  v28 := Tryz.zeroValue39 }
open Go.Lib in
/-- slices.Max at []int: "Max returns the maximal value in x. It panics if x is empty.": OF A SLICE THAT IS NOT EMPTY IT RETURNS 'Lib.maxOf (the elements)'; the world is as it was. (Of an empty one it panics: no contract here.) (LAID: no walk: one application.) -/
theorem Tryz.slices_Max_int (b off n c : Nat) (zs : List Int) (w : World) (hn : 0 < n) (hz : n ≤ zs.length) (hbig : n ≤ 9223372036854775807) (hc : ∀ j, j < zs.length → w.cell? ⟨b, off + j, none⟩ = some (.int .i64 (zs.getD j 0))) :
    Calls Tryz.prog 60 #[.slice (some ⟨b, off, none⟩) n c] w fun e w' => e = .returned (.int .i64 (Lib.maxOf (zs.take n))) ∧ w' = w := Any.slices_Max_int Tryz.lays113 b off n c zs w hn hz hbig hc
def Tryz.lays114_ren : Go.Shelf.Ren := ⟨fun | 114 => 59 | n => n, fun | 28 => 39 | 3 => 3 | 4 => 4 | 9 => 9 | 20 => 20 | 0 => 0 | n => n, fun | n => n⟩
theorem Tryz.lays114 : Go.Proofs.Lays.n114 Tryz.prog Tryz.lays114_ren := {
  mixed := by kernel_rfl
  f114 := Tryz.func59.trans (congrArg some (by kernel_rfl))
  t0 := Tryz.underlying0
  a0 := Tryz.isAgg0
  z0 := Tryz.sizeOf0
  v0 := Tryz.zeroValue0
  t3 := Tryz.underlying3
  a3 := Tryz.isAgg3
  z3 := Tryz.sizeOf3
  v3 := Tryz.zeroValue3
  t4 := Tryz.underlying4
  a4 := Tryz.isAgg4
  z4 := Tryz.sizeOf4
  v4 := Tryz.zeroValue4
  t9 := Tryz.underlying9
  a9 := Tryz.isAgg9
  z9 := Tryz.sizeOf9
  v9 := Tryz.zeroValue9
  t20 := Tryz.underlying20
  a20 := Tryz.isAgg20
  z20 := Tryz.sizeOf20
  v20 := Tryz.zeroValue20
  t28 := Tryz.underlying39
  a28 := Tryz.isAgg39
  z28 := Tryz.sizeOf39
  v28 := Tryz.zeroValue39 }
open Go.Lib in
/-- slices.Min at []int: "Min returns the minimal value in x. It panics if x is empty.": OF A SLICE THAT IS NOT EMPTY IT RETURNS 'Lib.minOf (the elements)'; the world is as it was. (Of an empty one it panics: no contract here.) (LAID: no walk: one application.) -/
theorem Tryz.slices_Min_int (b off n c : Nat) (zs : List Int) (w : World) (hn : 0 < n) (hz : n ≤ zs.length) (hbig : n ≤ 9223372036854775807) (hc : ∀ j, j < zs.length → w.cell? ⟨b, off + j, none⟩ = some (.int .i64 (zs.getD j 0))) :
    Calls Tryz.prog 59 #[.slice (some ⟨b, off, none⟩) n c] w fun e w' => e = .returned (.int .i64 (Lib.minOf (zs.take n))) ∧ w' = w := Any.slices_Min_int Tryz.lays114 b off n c zs w hn hz hbig hc
def Tryz.laysSlH10_f43_ren : Go.Shelf.Ren := ⟨fun | 10 => 43 | 6 => 68 | n => n, fun | 22 => 39 | 23 => 3 | 25 => 93 | 3 => 3 | 4 => 4 | 0 => 0 | n => n, fun | n => n⟩
theorem Tryz.laysSlH10_f43 : Go.Proofs.SlLaysH.n10 Tryz.prog Tryz.laysSlH10_f43_ren := {
  mixed := by kernel_rfl
  f6 := ⟨Tryz.f68.name, by decide, Tryz.func68.trans (congrArg some (by kernel_rfl))⟩
  f10 := ⟨Tryz.f43.name, by decide, Tryz.func43.trans (congrArg some (by kernel_rfl))⟩
  t0 := Tryz.underlying0
  a0 := Tryz.isAgg0
  z0 := Tryz.sizeOf0
  v0 := Tryz.zeroValue0
  t3 := Tryz.underlying3
  a3 := Tryz.isAgg3
  z3 := Tryz.sizeOf3
  v3 := Tryz.zeroValue3
  t4 := Tryz.underlying4
  a4 := Tryz.isAgg4
  z4 := Tryz.sizeOf4
  v4 := Tryz.zeroValue4
  t22 := Tryz.underlying39
  a22 := Tryz.isAgg39
  z22 := Tryz.sizeOf39
  v22 := Tryz.zeroValue39
  a23 := Tryz.isAgg3
  z23 := Tryz.sizeOf3
  t25 := Tryz.underlying93
  a25 := Tryz.isAgg93
  z25 := Tryz.sizeOf93
  v25 := Tryz.zeroValue93 }
open Go.RowKit Go.Lib Go.Sort in
theorem Tryz.slices_DeleteFunc {α : Type} [Inhabited α] (enc : α → Value) (hO : OneCell enc) (p : α → Bool) (g : Nat) (lb : Array Value) (eg : ∀ args w, (callFunc g args).run Tryz.prog w = .ok (.enter g args) w) (zr : α) (v23 : ∀ w, (zeroValue 3).run Tryz.prog w = .ok (enc zr) w) (blk off cap : Nat) (d : Array α) (w : World) (hp : PredAt Tryz.prog g lb enc p w) (hpo : PredOver Tryz.prog g lb enc p blk off d.size w) (hH : Holds enc w blk off d) (hsz : d.size ≤ 9223372036854775807) (hcap : d.size ≤ cap) :
    Calls Tryz.prog 43 #[.slice (some ⟨blk, off, none⟩) d.size cap, .func (.func g) #[] lb] w fun e w' => e = .returned (.slice (some ⟨blk, off, none⟩) (d.toList.filter fun x => !p x).length cap) ∧ ∃ q, w' = putRow enc (Sort.ahead w q) blk off ((d.toList.filter fun x => !p x) ++ List.replicate (d.size - (d.toList.filter fun x => !p x).length) zr).toArray := AnyE.slices_DeleteFunc Tryz.laysSlH10_f43 enc hO p g lb eg zr v23 blk off cap d w hp hpo hH hsz hcap
end Go.Proofs

/- The likeliest numbers of dirty bags: two numbers compared. -/
namespace Go.Proofs.YtigdpohdihopjaaGreatDoor
set_option linter.unusedSimpArgs false
set_option linter.unusedVariables false
open Go.RowKit Go.Proofs.YtigdpohdihopjaaGreatDoor.ML Go.Proofs.YtigdpohdihopjaaGreatDoor.Samp

set_option maxRecDepth 100000 in
set_option maxHeartbeats 2000000 in
theorem like1_any (tb db hb mb kb cb : Nat) (N lo hi o f x y : Int) (w : World) (hH : Hold hb N lo hi mb kb cb w) (ht : w.cell? ⟨tb, 0, none⟩ = some (.pointer (some ⟨hb, 0, none⟩))) (hd0 : w.cell? ⟨db, 0, none⟩ = some (.int .i64 o)) (hd1 : w.cell? ⟨db, 1, none⟩ = some (.int .i64 f))
    (hN : N ≤ 36) (hx : 0 ≤ x ∧ x ≤ N) (hy : 0 ≤ y ∧ y ≤ N) (ho : 0 ≤ o ∧ o ≤ N) (hf : 0 ≤ f ∧ f ≤ o) :
    Calls Tryz.prog 41 #[.int .i64 x, .int .i64 y, .pointer (some ⟨tb, 0, none⟩), .pointer (some ⟨db, 0, none⟩)] w fun e w' => e = .returned (.int .i64 (Lib.compareInt (waysI N x o f) (waysI N y o f))) ∧ Kept mb w w' := by
  have n1 := hH.ctr.memo.ne ht
  have n2 := hH.ctr.memo.ne hd0
  have HH := Lib.hid (fun (W : World) (hW : Kept mb w W) => hH.kept hW)
  have FB : ∀ W, Kept mb w W → W.cell? ⟨tb, 0, none⟩ = some (.pointer (some ⟨hb, 0, none⟩)) ∧ W.cell? ⟨db, 0, none⟩ = some (.int .i64 o) ∧ W.cell? ⟨db, 1, none⟩ = some (.int .i64 f) := fun W hW => ⟨hW.cell ht n1, hW.cell hd0 n2, hW.cell hd1 n2⟩
  obtain ⟨p, hp⟩ : ∃ p, waysI N x o f = p := ⟨_, rfl⟩
  obtain ⟨q, hq⟩ : ∃ q, waysI N y o f = q := ⟨_, rfl⟩
  have HP := Lib.hid hp
  have HQ := Lib.hid hq
  rw [hp, hq]
  clear hp hq hH ht hd0 hd1 n1 n2
  go_enter Tryz.func41, Tryz.ntmps41
  go_wp2_with fail
  have hF : ∀ W, Kept mb w.drew W → Kept mb w W := fun W hW => ((Kept.refl mb w).drew).trans hW
  refine Free.wp_free (R := Kept mb) (by kernel_rfl) (by kernel_rfl) (Kept.refl mb) (fun _ _ _ => Kept.trans) ?_
  refine Free.Chain.ex ?_ [] [2] (by kernel_rfl) (by kernel_rfl) rfl (Kept.refl mb) ?_ ?_
  rotate_left
  · (intro ev W hb hR hO hD; have hS := hF W hR; obtain ⟨hb1, hb2, hb3⟩ := hb; simp only [Free.AllDeps, Free.AllOuts, Free.At, List.getElem?_cons_succ, List.getElem?_cons_zero, Array.getD_eq_getD_getElem?, List.getElem?_toArray, Option.getD_some, and_true] at hO hD; go_simp; rfl)
  simp only [List.nil_append, List.cons_append]
  refine Free.Chain.ex ?_ [] [0] (by kernel_rfl) (by kernel_rfl) rfl (Kept.refl mb) ?_ ?_
  rotate_left
  · (intro ev W hb hR hO hD; have hS := hF W hR; obtain ⟨hb1, hb2, hb3⟩ := hb; simp only [Free.AllDeps, Free.AllOuts, Free.At, List.getElem?_cons_succ, List.getElem?_cons_zero, Array.getD_eq_getD_getElem?, List.getElem?_toArray, Option.getD_some, and_true] at hO hD; go_simp; rfl)
  simp only [List.nil_append, List.cons_append]
  refine Free.Chain.ex ?_ [] [3] (by kernel_rfl) (by kernel_rfl) rfl (Kept.refl mb) ?_ ?_
  rotate_left
  · (intro ev W hb hR hO hD; have hS := hF W hR; obtain ⟨hb1, hb2, hb3⟩ := hb; simp only [Free.AllDeps, Free.AllOuts, Free.At, List.getElem?_cons_succ, List.getElem?_cons_zero, Array.getD_eq_getD_getElem?, List.getElem?_toArray, Option.getD_some, and_true] at hO hD; go_simp; rfl)
  simp only [List.nil_append, List.cons_append]
  refine Free.Chain.pr (fun v _ => v = .int .i64 p) [(0, 7), (1, 8), (2, 9)] [] (by kernel_rfl) (by kernel_rfl) rfl (fun _ _ _ _ h => h) ?_ ?_
  · (intro ev W hb hR hO hD; have hS := hF W hR; obtain ⟨hb1, hb2, hb3⟩ := hb; simp only [Free.AllDeps, Free.AllOuts, Free.At, List.getElem?_cons_succ, List.getElem?_cons_zero, Array.getD_eq_getD_getElem?, List.getElem?_toArray, Option.getD_some, and_true] at hO hD; go_simp; refine yields_enter ?_; (with_reducible refine (ways_any hb N lo hi x o f mb kb cb _ (HH.out _ hS) hN (by omega) (by omega) (by omega) (by omega)).mono ?_); rintro e W2 ⟨rfl, hB2⟩; exact ⟨_, rfl, hB2, by rw [HP.out]⟩)
  simp only [List.nil_append, List.cons_append]
  refine Free.Chain.ex ?_ [] [2] (by kernel_rfl) (by kernel_rfl) rfl (Kept.refl mb) ?_ ?_
  rotate_left
  · (intro ev W hb hR hO hD; have hS := hF W hR; obtain ⟨hb1, hb2, hb3⟩ := hb; simp only [Free.AllDeps, Free.AllOuts, Free.At, List.getElem?_cons_succ, List.getElem?_cons_zero, Array.getD_eq_getD_getElem?, List.getElem?_toArray, Option.getD_some, and_true] at hO hD; go_simp; rfl)
  simp only [List.nil_append, List.cons_append]
  refine Free.Chain.ex ?_ [] [1] (by kernel_rfl) (by kernel_rfl) rfl (Kept.refl mb) ?_ ?_
  rotate_left
  · (intro ev W hb hR hO hD; have hS := hF W hR; obtain ⟨hb1, hb2, hb3⟩ := hb; simp only [Free.AllDeps, Free.AllOuts, Free.At, List.getElem?_cons_succ, List.getElem?_cons_zero, Array.getD_eq_getD_getElem?, List.getElem?_toArray, Option.getD_some, and_true] at hO hD; go_simp; rfl)
  simp only [List.nil_append, List.cons_append]
  refine Free.Chain.ex ?_ [] [3] (by kernel_rfl) (by kernel_rfl) rfl (Kept.refl mb) ?_ ?_
  rotate_left
  · (intro ev W hb hR hO hD; have hS := hF W hR; obtain ⟨hb1, hb2, hb3⟩ := hb; simp only [Free.AllDeps, Free.AllOuts, Free.At, List.getElem?_cons_succ, List.getElem?_cons_zero, Array.getD_eq_getD_getElem?, List.getElem?_toArray, Option.getD_some, and_true] at hO hD; go_simp; rfl)
  simp only [List.nil_append, List.cons_append]
  refine Free.Chain.pr (fun v _ => v = .int .i64 q) [(4, 11), (5, 12), (6, 13), (3, 10)] [] (by kernel_rfl) (by kernel_rfl) rfl (fun _ _ _ _ h => h) ?_ ?_
  · (intro ev W hb hR hO hD; have hS := hF W hR; obtain ⟨hb1, hb2, hb3⟩ := hb; simp only [Free.AllDeps, Free.AllOuts, Free.At, List.getElem?_cons_succ, List.getElem?_cons_zero, Array.getD_eq_getD_getElem?, List.getElem?_toArray, Option.getD_some, and_true] at hO hD; go_simp; refine yields_enter ?_; (with_reducible refine (ways_any hb N lo hi y o f mb kb cb _ (HH.out _ hS) hN (by omega) (by omega) (by omega) (by omega)).mono ?_); rintro e W2 ⟨rfl, hB2⟩; exact ⟨_, rfl, hB2, by rw [HQ.out]⟩)
  simp only [List.nil_append, List.cons_append]
  refine Free.Chain.pr (fun v _ => v = .int .i64 (Lib.compareInt p q)) [(3, 10), (7, 14), (7, 14)] [] (by kernel_rfl) (by kernel_rfl) rfl (fun _ _ _ _ h => h) ?_ ?_
  · (intro ev W hb hR hO hD; have hS := hF W hR; obtain ⟨hb1, hb2, hb3⟩ := hb; simp only [Free.AllDeps, Free.AllOuts, Free.At, List.getElem?_cons_succ, List.getElem?_cons_zero, Array.getD_eq_getD_getElem?, List.getElem?_toArray, Option.getD_some, and_true] at hO hD; go_simp; refine yields_enter ?_; (with_reducible refine (Tryz.cmp_Compare_int p q _).mono ?_); rintro e W2 ⟨rfl, rfl⟩; exact ⟨_, rfl, Kept.refl _ _, rfl⟩)
  simp only [List.nil_append, List.cons_append]
  refine Free.Chain.ex ?_ [(8, 15), (8, 15), (0, 7), (1, 8), (2, 9), (3, 10), (4, 11), (5, 12), (6, 13), (7, 14), (8, 15)] [] (by kernel_rfl) (by kernel_rfl) rfl (Kept.refl mb) ?_ ?_
  rotate_left
  · (intro ev W hb hR hO hD; have hS := hF W hR; obtain ⟨hb1, hb2, hb3⟩ := hb; simp only [Free.AllDeps, Free.AllOuts, Free.At, List.getElem?_cons_succ, List.getElem?_cons_zero, Array.getD_eq_getD_getElem?, List.getElem?_toArray, Option.getD_some, and_true] at hO hD; go_simp; rfl)
  simp only [List.nil_append, List.cons_append]
  intro xs w2 hR hV
  simp only [Free.AllV, Free.At, List.length_cons, List.length_nil, Nat.reduceAdd, List.getElem?_cons_succ, List.getElem?_cons_zero, true_and] at hV
  simp only [Free.putsFrom, Act.put, Nat.zero_add, Nat.reduceAdd, hV, List.setIfInBounds_toArray, List.set_cons_succ, List.set_cons_zero]
  have HK := hF w2 hR
  clear hR hV hF
  go_wp2_with fail
  go_ret
  exact ⟨rfl, HK⟩
end Go.Proofs.YtigdpohdihopjaaGreatDoor

/- The likeliest numbers of dirty bags: slices.MaxFunc. -/
namespace Go.Proofs.YtigdpohdihopjaaGreatDoor
set_option linter.unusedSimpArgs false
set_option linter.unusedVariables false
open Go.RowKit

set_option maxRecDepth 100000 in
set_option maxHeartbeats 4000000 in
theorem maxfunc_any (tb db hb mb kb cb g cap : Nat) (L : List Int) (N lo hi o f : Int) (w : World) (hH : Hold hb N lo hi mb kb cb w) (ht : w.cell? ⟨tb, 0, none⟩ = some (.pointer (some ⟨hb, 0, none⟩))) (hd0 : w.cell? ⟨db, 0, none⟩ = some (.int .i64 o)) (hd1 : w.cell? ⟨db, 1, none⟩ = some (.int .i64 f))
    (hN : N ≤ 36) (ho : 0 ≤ o ∧ o ≤ N) (hf : 0 ≤ f ∧ f ≤ o) (hL0 : 0 < L.length) (hL : L.length ≤ 37) (hm : ∀ x ∈ L, 0 ≤ x ∧ x ≤ N) (hcl : ∀ j, j < L.length → w.cell? ⟨g, 0 + j, none⟩ = some (.int .i64 (L.getD j 0))) :
    Calls Tryz.prog 40 #[.slice (some ⟨g, 0, none⟩) L.length cap, .func (.func 41) #[] #[.pointer (some ⟨tb, 0, none⟩), .pointer (some ⟨db, 0, none⟩)]] w fun e w' =>
      (∃ m, e = .returned (.int .i64 m) ∧ m ∈ L ∧ ∀ y ∈ L, waysI N y o f ≤ waysI N m o f) ∧ Kept mb w w' := by
  have n1 := hH.ctr.memo.ne ht
  have n2 := hH.ctr.memo.ne hd0
  have n3 : g ≠ mb := hH.ctr.memo.ne (hcl 0 hL0)
  have HCL := Lib.hid (fun (W : World) (hW : Kept mb w W) (j : Nat) (hj : j < L.length) => (by have h := hW.cell (hcl j hj) n3; rwa [Nat.zero_add] at h : W.cell? ⟨g, j, none⟩ = some (.int .i64 (L.getD j 0))))
  have HG := Lib.hid (fun (j : Nat) (hj : j < L.length) => (by have := hm (L.getD j 0) (by simp [hj]); exact this : 0 ≤ L.getD j 0 ∧ L.getD j 0 ≤ N))
  have HH := Lib.hid (fun (W : World) (hW : Kept mb w W) => hH.kept hW)
  have FB : ∀ W, Kept mb w W → W.cell? ⟨tb, 0, none⟩ = some (.pointer (some ⟨hb, 0, none⟩)) ∧ W.cell? ⟨db, 0, none⟩ = some (.int .i64 o) ∧ W.cell? ⟨db, 1, none⟩ = some (.int .i64 f) := fun W hW => ⟨hW.cell ht n1, hW.cell hd0 n2, hW.cell hd1 n2⟩
  have HFB := Lib.hid FB
  have K0 : Kept mb w w := Kept.refl _ _
  have c0 := HCL.out w K0 0 hL0
  have HM := Lib.hid (fun (j : Nat) (hj : j < L.length) => (by simp [hj] : L.getD j 0 ∈ L))
  have HALL := Lib.hid (fun (m : Int) (h : ∀ j, j < L.length → waysI N (L.getD j 0) o f ≤ waysI N m o f) => (fun y hy => (by
    obtain ⟨j, hj, rfl⟩ := List.getElem_of_mem hy
    have := h j hj
    simpa [hj] using this) : ∀ y ∈ L, waysI N y o f ≤ waysI N m o f))
  have hLpos : (0 : Int) < L.length := by omega
  obtain ⟨x0, hx0⟩ : ∃ x0, L.getD 0 0 = x0 := ⟨_, rfl⟩
  rw [hx0] at c0
  have HX0 := Lib.hid hx0
  clear hx0 n1 n2 n3 hcl hH ht hd0 hd1 hm FB
  go_enter Tryz.func40, Tryz.ntmps40
  go_wp2_with fail
  go_loopw [5, 6] (fun b i wr => ∃ (k j : Nat), k ≤ L.length ∧ 1 ≤ k ∧ j < L.length ∧ b = .int .i64 (L.getD j 0) ∧ i = .int .i64 k ∧ Hid (∀ j', j' < k → waysI N (L.getD j' 0) o f ≤ waysI N (L.getD j 0) o f) ∧ Kept mb w wr) (fun _ i _ => L.length - (intOf i).toNat)
  case atStart => exact ⟨1, 0, by omega, by omega, hL0, by rw [HX0.out], rfl, fun j' h => (by rw [show j' = 0 by omega]; exact Int.le_refl _), K0⟩
  case round =>
    obtain ⟨k, j, hk, hk1, hj, rfl, rfl, hall, HK⟩ := hrel
    by_cases hlt : k < L.length
    · have ck := HCL.out wr HK k hlt
      have hxk := HG.out k hlt
      have hxj := HG.out j hj
      have hfb := HFB.out wr HK
      have hklt : (k : Int) < L.length := by omega
      obtain ⟨x, hx⟩ : ∃ x, L.getD k 0 = x := ⟨_, rfl⟩
      obtain ⟨y, hy⟩ : ∃ y, L.getD j 0 = y := ⟨_, rfl⟩
      have HXY := Lib.hid (And.intro hx hy)
      rw [hx] at ck hxk
      rw [hy] at hxj ⊢
      clear hx hy
      go_wp2_with fail
      refine (like1_any tb db hb mb kb cb N lo hi o f x y _ (HH.out _ HK) hfb.1 hfb.2.1 hfb.2.2 hN hxk hxj ho hf).mono ?_
      rintro e w3 ⟨rfl, hK3⟩
      have HK3 : Kept mb w w3 := HK.trans hK3
      obtain ⟨r, hr⟩ : ∃ r, Lib.compareInt (waysI N x o f) (waysI N y o f) = r := ⟨_, rfl⟩
      rw [hr]
      have HR := Lib.hid hr
      clear hr hK3
      have ck3 := HCL.out w3 HK3 k hlt
      rw [HXY.out.1] at ck3
      have HC := Lib.hid (show 0 < r ↔ waysI N y o f < waysI N x o f by
        rw [← HR.out]
        generalize waysI N x o f = p
        generalize waysI N y o f = q
        unfold Lib.compareInt
        split
        · constructor <;> intro <;> omega
        · split
          · constructor <;> intro <;> omega
          · constructor <;> intro <;> omega)
      by_cases hgt : 0 < r
      · go_wp2_with fail
        go_roundw
        case rel => exact ⟨k + 1, k, by omega, by omega, hlt, by rw [HXY.out.1], by go_num, fun j' h => (by
          have hc := HC.out.1 hgt
          rw [HXY.out.1]
          by_cases e : j' = k
          · rw [e, HXY.out.1]; exact Int.le_refl _
          · have := hall.out j' (by omega); rw [HXY.out.2] at this; omega), HK3⟩
        case measure => simp [intOf]; omega
      · go_wp2_with fail
        go_roundw
        case rel => exact ⟨k + 1, j, by omega, by omega, hj, by rw [HXY.out.2], by go_num, fun j' h => (by
          have hc := mt HC.out.2 (by omega)
          rw [HXY.out.2]
          by_cases e : j' = k
          · rw [e, HXY.out.1]; omega
          · have := hall.out j' (by omega); rw [HXY.out.2] at this; omega), HK3⟩
        case measure => simp [intOf]; omega
    · obtain rfl : k = L.length := by omega
      go_wp2_with fail
      go_ret
      exact ⟨⟨_, rfl, HM.out j hj, HALL.out _ hall.out⟩, HK⟩
end Go.Proofs.YtigdpohdihopjaaGreatDoor

/- The likeliest numbers of dirty bags: slices.IndexFunc. -/
namespace Go.Proofs.YtigdpohdihopjaaGreatDoor
set_option linter.unusedSimpArgs false
set_option linter.unusedVariables false
open Go.RowKit

end Go.Proofs.YtigdpohdihopjaaGreatDoor

/- The likeliest numbers of dirty bags: what is asked of each number. -/
namespace Go.Proofs.YtigdpohdihopjaaGreatDoor
set_option linter.unusedSimpArgs false
set_option linter.unusedVariables false
open Go.RowKit Go.Proofs.YtigdpohdihopjaaGreatDoor.ML

theorem T.uMapIB : Tryz.prog.underlying 91 = some (.map 3 4) := by kernel_rfl
theorem T.uIntKL : Tryz.prog.underlying 3 = some (.int .i64) := by kernel_rfl
theorem T.intKeysL : KeyL Tryz.prog 3 (Value.int .i64) := int_keys T.uIntKL
theorem T.zBoolL (w : World) : (zeroValue 4).run Tryz.prog w = .ok (.bool false) w := by kernel_rfl

set_option maxRecDepth 100000 in
set_option maxHeartbeats 2000000 in
theorem like2_any (tb b : Nat) (l : List (Int × Value)) (x : Int) (r : Bool) (w : World) (hb : w.cell? ⟨tb, 0, none⟩ = some (.map (some b))) (hl : MapIs (Value.int .i64) b l w) (hr : (ML.assoc x l).getD (.bool false) = .bool r) :
    Calls Tryz.prog 44 #[.int .i64 x, .pointer (some ⟨tb, 0, none⟩)] w fun e w' => e = .returned (.bool (!r)) ∧ w = w' := by
  have h1 := hl.lookup T.intKeysL T.uMapIB (T.zBoolL w) x
  rw [hr] at h1
  go_enter Tryz.func44, Tryz.ntmps44
  go_wp2_with fail
  go_ret
  exact ⟨rfl, rfl⟩
end Go.Proofs.YtigdpohdihopjaaGreatDoor

/- The likeliest numbers of dirty bags: slices.DeleteFunc, from the shelf. -/
namespace Go.Proofs
open Go.Shelf Go.RowKit Go.Lib Go.Sort
def Tryz.layDelF_ren : Go.Shelf.Ren := ⟨fun | 10 => 43 | 6 => 68 | n => n, fun | 22 => 39 | 23 => 3 | 25 => 93 | 3 => 3 | 4 => 4 | 0 => 0 | n => n, fun | n => n⟩
theorem Tryz.layDelF : Go.Proofs.SlLaysH.n10 Tryz.prog Tryz.layDelF_ren := {
  mixed := by kernel_rfl
  f6 := ⟨Tryz.f68.name, by decide, Tryz.func68.trans (congrArg some (by kernel_rfl))⟩
  f10 := ⟨Tryz.f43.name, by decide, Tryz.func43.trans (congrArg some (by kernel_rfl))⟩
  t0 := Tryz.underlying0
  a0 := Tryz.isAgg0
  z0 := Tryz.sizeOf0
  v0 := Tryz.zeroValue0
  t3 := Tryz.underlying3
  a3 := Tryz.isAgg3
  z3 := Tryz.sizeOf3
  v3 := Tryz.zeroValue3
  t4 := Tryz.underlying4
  a4 := Tryz.isAgg4
  z4 := Tryz.sizeOf4
  v4 := Tryz.zeroValue4
  t22 := Tryz.underlying39
  a22 := Tryz.isAgg39
  z22 := Tryz.sizeOf39
  v22 := Tryz.zeroValue39
  a23 := Tryz.isAgg3
  z23 := Tryz.sizeOf3
  t25 := Tryz.underlying93
  a25 := Tryz.isAgg93
  z25 := Tryz.sizeOf93
  v25 := Tryz.zeroValue93 }
end Go.Proofs

/- The likeliest numbers of dirty bags: slices.DeleteFunc with the closure that asks the map. -/
namespace Go.Proofs.YtigdpohdihopjaaGreatDoor
set_option linter.unusedSimpArgs false
set_option linter.unusedVariables false
open Go.RowKit Go.Proofs.YtigdpohdihopjaaGreatDoor.ML Go.Shelf Go.Lib Go.Sort

theorem like2_gives (tb b : Nat) (l : List (Int × Value)) (x : Int) (r : Bool) (W : World) (hb : W.cell? ⟨tb, 0, none⟩ = some (.map (some b))) (hl : MapIs (Value.int .i64) b l W) (hr : (ML.assoc x l).getD (.bool false) = .bool (!r)) :
    FnGives Tryz.prog 44 #[.pointer (some ⟨tb, 0, none⟩)] #[.int .i64 x] (.bool r) W :=
  (like2_any tb b l x (!r) W hb hl hr).mono fun e w' ⟨h1, h2⟩ => ⟨by rw [h1]; simp, 0, by rw [← h2]; rfl⟩
theorem like2_at (tb b : Nat) (l : List (Int × Value)) (p : Int → Bool) (w : World) (hb : w.cell? ⟨tb, 0, none⟩ = some (.map (some b))) (hl : MapIs (Value.int .i64) b l w) (hr : ∀ x, (ML.assoc x l).getD (.bool false) = .bool (!p x)) :
    PredAt Tryz.prog 44 #[.pointer (some ⟨tb, 0, none⟩)] (Value.int .i64) p w := fun W x h =>
  like2_gives tb b l x (p x) W (keepsB h hb) (hl.of_block (h.block b hl.lt)) (hr x)
theorem sortWorld_heap (w : World) (blk off n b : Nat) (dk : Array Int) (os : Array Obj) (hb : b < w.heap.size) (hne : b ≠ blk) : (sortWorld (Value.int .i64) w blk off n dk os).heap[b]? = w.heap[b]? := by
  unfold sortWorld
  have hm : b < (w.heap.modify blk (onCells (putCells (Value.int .i64) off dk))).size := by simpa using hb
  have h1 : (w.heap.modify blk (onCells (putCells (Value.int .i64) off dk)))[b]? = w.heap[b]? := by
    rw [Array.getElem?_modify, if_neg (fun e => hne e.symm)]
  show ((w.heap.modify blk (onCells (putCells (Value.int .i64) off dk))) ++ os)[b]? = w.heap[b]?
  rw [Array.getElem?_append_left hm, h1]
theorem like2_over (tb b blk off size : Nat) (l : List (Int × Value)) (p : Int → Bool) (w : World) (hb : w.cell? ⟨tb, 0, none⟩ = some (.map (some b))) (hl : MapIs (Value.int .i64) b l w) (hr : ∀ x, (ML.assoc x l).getD (.bool false) = .bool (!p x)) (h1 : tb ≠ blk) (h2 : b ≠ blk) :
    PredOver Tryz.prog 44 #[.pointer (some ⟨tb, 0, none⟩)] (Value.int .i64) p blk off size w := fun n os dk x _ =>
  like2_gives tb b l x (p x) _ ((World.cell?_of_block (w := w) (a := ⟨tb, 0, none⟩) (sortWorld_heap w blk off n tb dk os (lt_of_cell hb) h1)).trans hb) (hl.of_block (sortWorld_heap w blk off n b dk os hl.lt h2)) (hr x)
end Go.Proofs.YtigdpohdihopjaaGreatDoor

/- The likeliest numbers of dirty bags: who is left out is left out. -/
namespace Go.Proofs.YtigdpohdihopjaaGreatDoor
set_option linter.unusedSimpArgs false
set_option linter.unusedVariables false
open Go.RowKit Go.Proofs.YtigdpohdihopjaaGreatDoor.ML Go.Shelf Go.Lib Go.Sort

theorem delfunc_any (tb b g cap : Nat) (l : List (Int × Value)) (p : Int → Bool) (L : List Int) (w : World) (hb : w.cell? ⟨tb, 0, none⟩ = some (.map (some b))) (hl : MapIs (Value.int .i64) b l w) (hr : ∀ x, (ML.assoc x l).getD (.bool false) = .bool (!p x)) (h1 : tb ≠ g) (h2 : b ≠ g)
    (hH : Holds (Value.int .i64) w g 0 L.toArray) (hL : L.length ≤ 37) (hcap : L.length ≤ cap) :
    Calls Tryz.prog 43 #[.slice (some ⟨g, 0, none⟩) L.length cap, .func (.func 44) #[] #[.pointer (some ⟨tb, 0, none⟩)]] w fun e w' =>
      e = .returned (.slice (some ⟨g, 0, none⟩) (L.filter fun x => !p x).length cap) ∧ (∀ j, (h : j < (L.filter fun x => !p x).length) → w'.cell? ⟨g, 0 + j, none⟩ = some (.int .i64 (L.filter fun x => !p x)[j])) ∧ Below g w w' := by
  have h := AnyE.slices_DeleteFunc Tryz.layDelF (Value.int .i64) (fun _ => rfl) p 44 #[.pointer (some ⟨tb, 0, none⟩)] (enters_of Tryz.func44 (by kernel_rfl) rfl) 0 T.zInt g 0 cap L.toArray w
    (like2_at tb b l p w hb hl hr) (like2_over tb b g 0 _ l p w hb hl hr h1 h2) hH (by simp; omega) (by simpa using hcap)
  change Calls Tryz.prog 43 _ _ _ at h
  simp only [List.size_toArray] at h
  refine h.mono ?_
  rintro e w' ⟨rfl, q, rfl⟩
  have hF : (L.filter fun x => !p x).length ≤ L.length := List.length_filter_le _ _
  refine ⟨rfl, fun j hj => ?_, ⟨rfl, rfl, rfl, by simp [putRow, mapBlock, Sort.ahead], fun k hk => ?_⟩⟩
  · have hs : ((L.filter fun x => !p x) ++ List.replicate (L.length - (L.filter fun x => !p x).length) 0).toArray.size = L.toArray.size := by simp; omega
    have := cell?_putRow (Value.int .i64) (Sort.ahead w q) g 0 L.toArray ((L.filter fun x => !p x) ++ List.replicate (L.length - (L.filter fun x => !p x).length) 0).toArray hH hs j (by simp; omega)
    rw [this]
    congr 2
    rw [getElem!_pos _ _ (by simp; omega)]
    simp [List.getElem_append, hj]
  · show (w.heap.modify g _)[k]? = w.heap[k]?
    rw [Array.getElem?_modify, if_neg (by omega)]
end Go.Proofs.YtigdpohdihopjaaGreatDoor

/- The reference of layer 1: cargoes, draws, and what is asked of them. -/
namespace Go.Proofs.YtigdpohdihopjaaGreatDoor
set_option linter.unusedSimpArgs false
set_option linter.unusedVariables false
open Go.RowKit Go.Proofs.YtigdpohdihopjaaGreatDoor.ML Go.Proofs.YtigdpohdihopjaaGreatDoor.Samp

theorem KeptR.of_below {mb rb : Nat} {xs : List Value} {a b : World} (h : Below a.heap.size a b) (hlt : rb < a.heap.size) : KeptR mb rb xs a b :=
  have hb := h.block rb hlt
  ⟨h.os, h.tape, h.output, h.size, fun k hk _ _ => h.block k hk, (Kept.of_below (mb := mb) h).memo, fun o => World.frozen?_of_block (w := a) (a := ⟨rb, o, none⟩) hb,
    fun o hs => by rw [World.cell?_of_block (w := a) (a := ⟨rb, o, none⟩) hb]; exact hs, .inl fun o => World.cell?_of_block (w := a) (a := ⟨rb, o, none⟩) hb⟩
end Go.Proofs.YtigdpohdihopjaaGreatDoor

/- The reference of layer 1: rules, chances, risks. -/
namespace Go.Proofs.YtigdpohdihopjaaGreatDoor
set_option linter.unusedSimpArgs false
set_option linter.unusedVariables false
open Go.RowKit Go.Proofs.YtigdpohdihopjaaGreatDoor.ML Go.Proofs.YtigdpohdihopjaaGreatDoor.Samp

/-- Whether a chance is valid. -/
def givenB (n d : Int) : Bool := inB 1 1000 [d] && inB 0 d [n]
theorem givenB_iff (n d : Int) : givenB n d = true ↔ 1 ≤ d ∧ d ≤ 1000 ∧ 0 ≤ n ∧ n ≤ d := by simp [givenB, inB]; omega
end Go.Proofs.YtigdpohdihopjaaGreatDoor

/- Chances that are given: the error of a list of them. -/
namespace Go.Proofs.YtigdpohdihopjaaGreatDoor
set_option linter.unusedSimpArgs false
set_option linter.unusedVariables false
open Go.RowKit Go.Proofs.YtigdpohdihopjaaGreatDoor.ML Go.Proofs.YtigdpohdihopjaaGreatDoor.Samp

def encP (x : Int × Int) : Value := .agg #[.int .i64 x.1, .int .i64 x.2]
def idxP (p : Int × Int → Bool) (xs : List (Int × Int)) : Int := match xs.findIdx? p with | some i => (i : Int) | none => -1

set_option maxRecDepth 100000 in
set_option maxHeartbeats 1000000 in
theorem indexP_any (g : Nat) (caps : Array Value) (p : Int × Int → Bool) (xs : List (Int × Int)) (b off cap : Nat) (w : World)
    (hm : xs.length ≤ maxLen)
    (hc : ∀ k, (h : k < xs.length) → w.cell? ⟨b, off + k * 2, none⟩ = some (.int .i64 xs[k].1) ∧ w.cell? ⟨b, off + k * 2 + 1, none⟩ = some (.int .i64 xs[k].2))
    (hg : Asks g caps encP p w) :
    Calls Tryz.prog 80 #[.slice (some ⟨b, off, none⟩) xs.length cap, .func (.func g) #[] caps] w
      fun e w' => e = .returned (.int .i64 (idxP p xs)) ∧ Below w.heap.size w w' := by
  unfold maxLen at hm
  have HG := Lib.hid hg
  have HC := Lib.hid hc
  clear hg hc
  go_enter Tryz.func80, Tryz.ntmps80
  go_wp2
  go_loopw [8] (fun i wr => ∃ k : Nat, k ≤ xs.length ∧ i = .int .i64 k ∧ (∀ x ∈ xs.take k, p x = false) ∧ Below w.heap.size w wr) (fun i _ => xs.length - (intOf i).toNat)
  case atStart => exact ⟨0, Nat.zero_le _, rfl, by simp, Below.refl _ _⟩
  case round =>
    obtain ⟨k, hk, rfl, hno, hB⟩ := hrel
    by_cases hlt : k < xs.length
    · have hcell : wr.cell? ⟨b, off + k * 2, none⟩ = some (.int .i64 xs[k].1) := keepsB hB (HC.out k hlt).1
      have hcell2 : wr.cell? ⟨b, off + k * 2 + 1, none⟩ = some (.int .i64 xs[k].2) := keepsB hB (HC.out k hlt).2
      have hent := HG.out.1
      have hcall := Lib.hid (HG.out.2 wr xs[k] hB)
      have hget : Hid (xs[k]? = some xs[k]) := List.getElem?_eq_getElem hlt
      generalize xs[k] = x at *
      obtain ⟨x1, x2⟩ := x
      simp only [encP] at hcall
      simp only at hcell hcell2
      have HNO := Lib.hid hno
      clear hno
      cases hp : p (x1, x2)
      · have hp' := Lib.hid hp
        rw [hp] at hcall
        clear hp
        go_wp2_with fail
        refine hcall.out.mono ?_
        rintro e W1 ⟨rfl, hB1⟩
        have hB2 := hB.trans (hB1.mono hB.size)
        go_wp2_with fail
        go_roundw
        case rel =>
          refine ⟨k + 1, by omega, by go_num, ?_, hB2⟩
          rw [List.take_add_one, hget.out]
          intro y hy
          simp at hy
          rcases hy with hy | rfl
          · exact HNO.out y hy
          · exact hp'.out
        case measure => simp [intOf]; omega
      · have hp' := Lib.hid hp
        rw [hp] at hcall
        clear hp
        go_wp2_with fail
        refine hcall.out.mono ?_
        rintro e W1 ⟨rfl, hB1⟩
        have hB2 := hB.trans (hB1.mono hB.size)
        go_wp2_with fail
        go_ret
        refine ⟨?_, hB2⟩
        have : xs.findIdx? p = some k := by
          rw [List.findIdx?_eq_some_iff_getElem]
          refine ⟨hlt, ?_, ?_⟩
          · have := hget.out; rw [List.getElem?_eq_getElem hlt] at this; rw [Option.some.inj this]; exact hp'.out
          · intro j hj
            have := HNO.out xs[j] (by rw [List.mem_take_iff_getElem]; exact ⟨j, by omega, rfl⟩)
            simp [this]
        simp [idxP, this]
    · obtain rfl : k = xs.length := by omega
      go_wp2_with fail
      go_ret
      refine ⟨?_, hB⟩
      have : xs.findIdx? p = none := by
        rw [List.findIdx?_eq_none_iff]
        exact fun x hx => hno x (by rw [List.take_length]; exact hx)
      simp [idxP, this]

theorem containsP_any (g : Nat) (caps : Array Value) (p : Int × Int → Bool) (xs : List (Int × Int)) (b off cap : Nat) (w : World)
    (hm : xs.length ≤ maxLen)
    (hc : ∀ k, (h : k < xs.length) → w.cell? ⟨b, off + k * 2, none⟩ = some (.int .i64 xs[k].1) ∧ w.cell? ⟨b, off + k * 2 + 1, none⟩ = some (.int .i64 xs[k].2))
    (hg : Asks g caps encP p w) :
    Calls Tryz.prog 69 #[.slice (some ⟨b, off, none⟩) xs.length cap, .func (.func g) #[] caps] w
      fun e w' => e = .returned (.bool (xs.any p)) ∧ Below w.heap.size w w' := by
  have H := Lib.hid (indexP_any g caps p xs b off cap w hm hc hg)
  have hv : xs.any p = decide (0 ≤ idxP p xs) := by
    unfold idxP
    cases h : xs.findIdx? p with
    | none =>
      rw [List.findIdx?_eq_none_iff] at h
      have : xs.any p = false := by rw [List.any_eq_false]; intro x hx; simp [h x hx]
      rw [this]; rfl
    | some i =>
      rw [List.findIdx?_eq_some_iff_getElem] at h
      obtain ⟨hi, hp, _⟩ := h
      have : xs.any p = true := by rw [List.any_eq_true]; exact ⟨xs[i], List.getElem_mem hi, hp⟩
      rw [this]; simp
  rw [hv]
  generalize idxP p xs = v at *
  clear hc hg hv
  go_enter Tryz.func69, Tryz.ntmps69
  go_wp2_with fail
  refine H.out.mono ?_
  rintro e W1 ⟨rfl, hB1⟩
  go_wp2_with fail
  go_ret
  exact ⟨rfl, hB1⟩


set_option maxRecDepth 100000 in
set_option maxHeartbeats 2000000 in
theorem given1_a (n d : Int) (w : World) (H1 : Hid (inB 1 1000 [d] = false)) :
    Calls Tryz.prog 70 #[.agg #[.int .i64 n, .int .i64 d]] w fun e w' => e = .returned (.bool true) ∧ Below w.heap.size w w' := by
  have hB0 : Below w.heap.size w (w.alloc (.cells #[.int .i64 n, .int .i64 d] 31)) := (Below.refl _ w).alloc (Nat.le_refl _) _
  have c0 : (w.alloc (.cells #[.int .i64 n, .int .i64 d] 31)).cell? ⟨w.heap.size, 0, none⟩ = some (.int .i64 n) := by simp [go_sem]
  have c1 : (w.alloc (.cells #[.int .i64 n, .int .i64 d] 31)).cell? ⟨w.heap.size, 1, none⟩ = some (.int .i64 d) := by simp [go_sem]
  have HC := Lib.hid (And.intro c0 c1)
  have HB0 := Lib.hid hB0
  clear hB0 c0 c1
  have s1 := Lib.hid (fun (W : World) (h : Below (w.alloc (.cells #[.int .i64 n, .int .i64 d] 31)).heap.size (w.alloc (.cells #[.int .i64 n, .int .i64 d] 31)) W) => And.intro (keepsB h HC.out.1) (keepsB h HC.out.2))
  go_enter Tryz.func70, Tryz.ntmps70
  go_wp2_with fail
  refine (in_one 1 1000 d false _ _ H1.out (by simp [go_sem])).mono ?_
  rintro e w1 ⟨rfl, hB1⟩
  have hB2 := Below.trans (belAlloc _ _) (hB1.mono (by simp))
  have hc := s1.out w1 hB2
  have HB2 := Lib.hid (HB0.out.trans (hB2.mono HB0.out.size))
  clear hB1 hB2
  obtain ⟨e0, e1⟩ := hc
  go_wp2_with fail
  go_ret
  exact ⟨by simp, HB2.out⟩

set_option maxRecDepth 100000 in
set_option maxHeartbeats 2000000 in
theorem given1_b (n d : Int) (q2 : Bool) (w : World) (H1 : Hid (inB 1 1000 [d] = true)) (H2 : Hid (inB 0 d [n] = q2)) :
    Calls Tryz.prog 70 #[.agg #[.int .i64 n, .int .i64 d]] w fun e w' => e = .returned (.bool (!q2)) ∧ Below w.heap.size w w' := by
  have hB0 : Below w.heap.size w (w.alloc (.cells #[.int .i64 n, .int .i64 d] 31)) := (Below.refl _ w).alloc (Nat.le_refl _) _
  have c0 : (w.alloc (.cells #[.int .i64 n, .int .i64 d] 31)).cell? ⟨w.heap.size, 0, none⟩ = some (.int .i64 n) := by simp [go_sem]
  have c1 : (w.alloc (.cells #[.int .i64 n, .int .i64 d] 31)).cell? ⟨w.heap.size, 1, none⟩ = some (.int .i64 d) := by simp [go_sem]
  have HC := Lib.hid (And.intro c0 c1)
  have HB0 := Lib.hid hB0
  clear hB0 c0 c1
  have s1 := Lib.hid (fun (W : World) (h : Below (w.alloc (.cells #[.int .i64 n, .int .i64 d] 31)).heap.size (w.alloc (.cells #[.int .i64 n, .int .i64 d] 31)) W) => And.intro (keepsB h HC.out.1) (keepsB h HC.out.2))
  go_enter Tryz.func70, Tryz.ntmps70
  go_wp2_with fail
  refine (in_one 1 1000 d true _ _ H1.out (by simp [go_sem])).mono ?_
  rintro e w1 ⟨rfl, hB1⟩
  have hB2 := Below.trans (belAlloc _ _) (hB1.mono (by simp))
  have hc := s1.out w1 hB2
  have HB2 := Lib.hid (HB0.out.trans (hB2.mono HB0.out.size))
  clear hB1 hB2
  obtain ⟨e0, e1⟩ := hc
  go_wp2_with fail
  refine (in_one 0 d n q2 _ _ H2.out (by simp [go_sem])).mono ?_
  rintro e w2 ⟨rfl, hB3⟩
  have HB3 := Lib.hid (HB2.out.trans ((Below.trans (belAlloc _ _) (hB3.mono (by simp))).mono HB2.out.size))
  clear hB3
  go_wp2_with fail
  go_ret
  exact ⟨by simp, HB3.out⟩

theorem given1_any (n d : Int) (w : World) :
    Calls Tryz.prog 70 #[encP (n, d)] w fun e w' => e = .returned (.bool (!givenB n d)) ∧ Below w.heap.size w w' := by
  cases h1 : inB 1 1000 [d]
  · simpa [givenB, h1, encP] using given1_a n d w h1
  · simpa [givenB, h1, encP] using given1_b n d _ w h1 rfl

theorem given_any (xs : List (Int × Int)) (r : Int) (b off cap : Nat) (w : World) (hr : unlessV (xs.all fun x => givenB x.1 x.2) 12 = r)
    (hm : xs.length ≤ maxLen)
    (hc : ∀ k, (h : k < xs.length) → w.cell? ⟨b, off + k * 2, none⟩ = some (.int .i64 xs[k].1) ∧ w.cell? ⟨b, off + k * 2 + 1, none⟩ = some (.int .i64 xs[k].2)) :
    Calls Tryz.prog 45 #[.slice (some ⟨b, off, none⟩) xs.length cap] w fun e w' => e = .returned (.int .i64 r) ∧ Below w.heap.size w w' := by
  have H := Lib.hid (containsP_any 70 #[] (fun x => !givenB x.1 x.2) xs b off cap w hm hc
    ⟨Go.Proofs.enters_of Tryz.func70 (by kernel_rfl) rfl, fun W x _ => by simpa using given1_any x.1 x.2 W⟩)
  have hv : (xs.all fun x => givenB x.1 x.2) = !(xs.any fun x => !givenB x.1 x.2) := by
    rw [Bool.eq_iff_iff]; simp [List.all_eq_true, List.any_eq_false]
  rw [hv] at hr
  generalize (xs.any fun x => !givenB x.1 x.2) = v at *
  have HR := Lib.hid hr
  clear hc hv hr
  go_enter Tryz.func45, Tryz.ntmps45
  go_wp2_with fail
  refine H.out.mono ?_
  rintro e W1 ⟨rfl, hB1⟩
  have HB1 := Lib.hid hB1
  clear hB1
  go_wp2_with fail
  refine (unless_any _ _ r _ HR.out).mono ?_
  rintro e W2 ⟨rfl, rfl⟩
  go_wp2_with fail
  go_ret
  exact ⟨rfl, HB1.out⟩
end Go.Proofs.YtigdpohdihopjaaGreatDoor

/- Rules: the reference's comparison of lists of fractions. -/
namespace Go.Proofs.YtigdpohdihopjaaGreatDoor
set_option linter.unusedSimpArgs false
set_option linter.unusedVariables false
open Go.RowKit Go.Proofs.YtigdpohdihopjaaGreatDoor.ML Go.Proofs.YtigdpohdihopjaaGreatDoor.Samp

/-- A slice that holds this list of fractions. -/
def PL (xs : List (Int × Int)) (v : Value) (w : World) : Prop := ∃ p cap, v = .slice p xs.length cap ∧ xs.length ≤ maxLen ∧ (xs ≠ [] → ∃ b off, p = some ⟨b, off, none⟩ ∧ ∀ k, (h : k < xs.length) → w.cell? ⟨b, off + k * 2, none⟩ = some (.int .i64 xs[k].1) ∧ w.cell? ⟨b, off + k * 2 + 1, none⟩ = some (.int .i64 xs[k].2))
theorem PL.nil (w : World) : PL [] (.slice none 0 0) w := ⟨none, 0, rfl, by simp, fun h => absurd rfl h⟩
theorem PL.keeps {xs : List (Int × Int)} {v : Value} {w w' : World} (h : PL xs v w) (hB : Below w.heap.size w w') : PL xs v w' :=
  let ⟨p, cap, h1, h2, h3⟩ := h
  ⟨p, cap, h1, h2, fun hx => let ⟨b, off, h4, h5⟩ := h3 hx; ⟨b, off, h4, fun k hk => ⟨keepsB hB (h5 k hk).1, keepsB hB (h5 k hk).2⟩⟩⟩

set_option maxRecDepth 100000 in
set_option maxHeartbeats 2000000 in
theorem same_any (xs : List (Int × Int)) (u v : Value) (w : World) (hu : PL xs u w) (hv : PL xs v w) :
    Calls Tryz.prog 20 #[u, v] w fun e w' => e = .returned (.bool true) ∧ Below w.heap.size w w' := by
  obtain ⟨p, cp, rfl, hm, hp⟩ := hu
  obtain ⟨q, cq, rfl, _, hq⟩ := hv
  unfold maxLen at hm
  have HP := Lib.hid hp
  have HQ := Lib.hid hq
  clear hp hq
  go_enter Tryz.func20, Tryz.ntmps20
  go_wp2_with fail
  go_loopw [5] (fun i wr => ∃ k : Nat, k ≤ xs.length ∧ i = .int .i64 k ∧ Below w.heap.size w wr) (fun i _ => xs.length - (intOf i).toNat)
  case atStart => exact ⟨0, Nat.zero_le _, rfl, Below.refl _ _⟩
  case round =>
    obtain ⟨k, hk, rfl, hB⟩ := hrel
    by_cases hlt : k < xs.length
    · have hx : xs ≠ [] := by intro e; simp [e] at hlt
      obtain ⟨b, off, rfl, hcp⟩ := HP.out hx
      obtain ⟨b2, off2, rfl, hcq⟩ := HQ.out hx
      have e1 := keepsB hB (hcp k hlt).1
      have e2 := keepsB hB (hcp k hlt).2
      have e3 := keepsB hB (hcq k hlt).1
      have e4 := keepsB hB (hcq k hlt).2
      have HC := Lib.hid (And.intro e1 (And.intro e2 (And.intro e3 e4)))
      have hklt : (k : Int) < xs.length := by omega
      generalize xs[k] = x at *
      obtain ⟨x1, x2⟩ := x
      clear hcp hcq
      go_wp2_with fail
      have hF : ∀ W, Free.Bel wr.drew W → W.cell? ⟨b, off + k * 2, none⟩ = some (.int .i64 x1) ∧ W.cell? ⟨b, off + k * 2 + 1, none⟩ = some (.int .i64 x2) ∧ W.cell? ⟨b2, off2 + k * 2, none⟩ = some (.int .i64 x1) ∧ W.cell? ⟨b2, off2 + k * 2 + 1, none⟩ = some (.int .i64 x2) :=
        fun W hW => ⟨keepsB (Free.Bel.first hW) HC.out.1, keepsB (Free.Bel.first hW) HC.out.2.1, keepsB (Free.Bel.first hW) HC.out.2.2.1, keepsB (Free.Bel.first hW) HC.out.2.2.2⟩
      refine Free.wp_free (R := Free.Bel) (by kernel_rfl) (by kernel_rfl) Free.Bel.refl Free.Bel.trans ?_
      refine Free.Chain.ex ?_ [] [0] (by kernel_rfl) (by kernel_rfl) rfl Free.Bel.refl ?_ ?_
      rotate_left
      · (intro ev W hb hR hO hD; have hS := hF W hR; obtain ⟨hb1, hb2, hb3⟩ := hb; simp only [Free.AllDeps, Free.AllOuts, Free.At, List.getElem?_cons_succ, List.getElem?_cons_zero, Array.getD_eq_getD_getElem?, List.getElem?_toArray, Option.getD_some, and_true] at hO hD; go_simp; rfl)
      simp only [List.nil_append, List.cons_append]
      refine Free.Chain.ex ?_ [] [5] (by kernel_rfl) (by kernel_rfl) rfl Free.Bel.refl ?_ ?_
      rotate_left
      · (intro ev W hb hR hO hD; have hS := hF W hR; obtain ⟨hb1, hb2, hb3⟩ := hb; simp only [Free.AllDeps, Free.AllOuts, Free.At, List.getElem?_cons_succ, List.getElem?_cons_zero, Array.getD_eq_getD_getElem?, List.getElem?_toArray, Option.getD_some, and_true] at hO hD; go_simp; rfl)
      simp only [List.nil_append, List.cons_append]
      refine Free.Chain.ex ?_ [(0, 17), (1, 18)] [] (by kernel_rfl) (by kernel_rfl) rfl Free.Bel.refl ?_ ?_
      rotate_left
      · (intro ev W hb hR hO hD; have hS := hF W hR; obtain ⟨hb1, hb2, hb3⟩ := hb; simp only [Free.AllDeps, Free.AllOuts, Free.At, List.getElem?_cons_succ, List.getElem?_cons_zero, Array.getD_eq_getD_getElem?, List.getElem?_toArray, Option.getD_some, and_true] at hO hD; go_simp; rfl)
      simp only [List.nil_append, List.cons_append]
      refine Free.Chain.ex ?_ [(2, 19)] [] (by kernel_rfl) (by kernel_rfl) rfl Free.Bel.refl ?_ ?_
      rotate_left
      · (intro ev W hb hR hO hD; have hS := hF W hR; obtain ⟨hb1, hb2, hb3⟩ := hb; simp only [Free.AllDeps, Free.AllOuts, Free.At, List.getElem?_cons_succ, List.getElem?_cons_zero, Array.getD_eq_getD_getElem?, List.getElem?_toArray, Option.getD_some, and_true] at hO hD; go_simp; rfl)
      simp only [List.nil_append, List.cons_append]
      refine Free.Chain.ex ?_ [] [1] (by kernel_rfl) (by kernel_rfl) rfl Free.Bel.refl ?_ ?_
      rotate_left
      · (intro ev W hb hR hO hD; have hS := hF W hR; obtain ⟨hb1, hb2, hb3⟩ := hb; simp only [Free.AllDeps, Free.AllOuts, Free.At, List.getElem?_cons_succ, List.getElem?_cons_zero, Array.getD_eq_getD_getElem?, List.getElem?_toArray, Option.getD_some, and_true] at hO hD; go_simp; rfl)
      simp only [List.nil_append, List.cons_append]
      refine Free.Chain.ex ?_ [] [5] (by kernel_rfl) (by kernel_rfl) rfl Free.Bel.refl ?_ ?_
      rotate_left
      · (intro ev W hb hR hO hD; have hS := hF W hR; obtain ⟨hb1, hb2, hb3⟩ := hb; simp only [Free.AllDeps, Free.AllOuts, Free.At, List.getElem?_cons_succ, List.getElem?_cons_zero, Array.getD_eq_getD_getElem?, List.getElem?_toArray, Option.getD_some, and_true] at hO hD; go_simp; rfl)
      simp only [List.nil_append, List.cons_append]
      refine Free.Chain.ex ?_ [(4, 21), (5, 22)] [] (by kernel_rfl) (by kernel_rfl) rfl Free.Bel.refl ?_ ?_
      rotate_left
      · (intro ev W hb hR hO hD; have hS := hF W hR; obtain ⟨hb1, hb2, hb3⟩ := hb; simp only [Free.AllDeps, Free.AllOuts, Free.At, List.getElem?_cons_succ, List.getElem?_cons_zero, Array.getD_eq_getD_getElem?, List.getElem?_toArray, Option.getD_some, and_true] at hO hD; go_simp; rfl)
      simp only [List.nil_append, List.cons_append]
      refine Free.Chain.ex ?_ [(6, 23)] [] (by kernel_rfl) (by kernel_rfl) rfl Free.Bel.refl ?_ ?_
      rotate_left
      · (intro ev W hb hR hO hD; have hS := hF W hR; obtain ⟨hb1, hb2, hb3⟩ := hb; simp only [Free.AllDeps, Free.AllOuts, Free.At, List.getElem?_cons_succ, List.getElem?_cons_zero, Array.getD_eq_getD_getElem?, List.getElem?_toArray, Option.getD_some, and_true] at hO hD; go_simp; rfl)
      simp only [List.nil_append, List.cons_append]
      refine Free.Chain.ex ?_ [(3, 20), (7, 24)] [] (by kernel_rfl) (by kernel_rfl) rfl Free.Bel.refl ?_ ?_
      rotate_left
      · (intro ev W hb hR hO hD; have hS := hF W hR; obtain ⟨hb1, hb2, hb3⟩ := hb; simp only [Free.AllDeps, Free.AllOuts, Free.At, List.getElem?_cons_succ, List.getElem?_cons_zero, Array.getD_eq_getD_getElem?, List.getElem?_toArray, Option.getD_some, and_true] at hO hD; go_simp; rfl)
      simp only [List.nil_append, List.cons_append]
      intro xs w' hR hV
      simp only [Free.AllV, Free.At, List.length_cons, List.length_nil, Nat.reduceAdd, List.getElem?_cons_succ, List.getElem?_cons_zero, true_and] at hV
      simp only [Free.putsFrom, Act.put, hV, List.setIfInBounds_toArray, List.set_cons_succ, List.set_cons_zero]
      have HB2 := Lib.hid (hB.trans ((Free.Bel.first hR).mono hB.size))
      clear hR hV hF
      go_wp2_with fail
      go_roundw
      case rel => exact ⟨k + 1, by omega, by go_num, HB2.out⟩
      case measure => simp [intOf]; omega
    · obtain rfl : k = xs.length := by omega
      go_wp2_with fail
      go_ret
      exact ⟨rfl, hB⟩
end Go.Proofs.YtigdpohdihopjaaGreatDoor

/- Terms: agreed. -/
namespace Go.Proofs.YtigdpohdihopjaaGreatDoor
set_option linter.unusedSimpArgs false
set_option linter.unusedVariables false
open Go.RowKit Go.Proofs.YtigdpohdihopjaaGreatDoor.ML Go.Proofs.YtigdpohdihopjaaGreatDoor.Samp

/-- Whether terms rise, behind one from f on of p pence. -/
def agreedFrom (f p : Int) : List (Int × Int) → Bool
  | [] => true
  | x :: r => inB (f + 1) 100 [x.1] && (inB p 1000000 [x.2] && agreedFrom x.1 x.2 r)
/-- The error of terms. -/
def agreedE (xs : List (Int × Int)) : Int := if agreedFrom 0 0 xs = false then 14 else unlessV (decide ((xs.length : Int) ≤ 5)) 14

theorem Two.bel {b : Nat} {x y : Value} {w w' : World} (h : Two b x y w) (hB : Free.Bel w w') : Two b x y w' := h.of_block (hB.block b (lt_of_cell h.c0))

set_option maxRecDepth 100000 in
set_option maxHeartbeats 4000000 in
theorem agreed_v (xs : List (Int × Int)) (v : Value) (w : World) (hv : PL xs v w) (r : Int) (hr : Hid (agreedE xs = r)) :
    Calls Tryz.prog 52 #[v] w fun e w' => e = .returned (.int .i64 r) ∧ Below w.heap.size w w' := by
  obtain ⟨pp, cap, rfl, hm, hcells⟩ := hv
  unfold maxLen at hm
  have HC := Lib.hid hcells
  clear hcells
  have hB0 : Below w.heap.size w (w.alloc (.cells #[.int .i64 0, .int .i64 0] 73)) := (Below.refl _ w).alloc (Nat.le_refl _) _
  have hT0 := two_alloc (.int .i64 0) (.int .i64 0) 73 w
  go_enter Tryz.func52, Tryz.ntmps52
  go_wp2
  obtain ⟨bb, hbb⟩ : ∃ bb, w.heap.size = bb := ⟨_, rfl⟩
  have HBB := Lib.hid hbb
  rw [hbb]
  rw [hbb] at hB0 hT0
  clear hbb
  go_loopw [9] (fun i wr => ∃ (k : Nat) (f p : Int), k ≤ xs.length ∧ i = .int .i64 k ∧ 0 ≤ f ∧ f ≤ 100 ∧ 0 ≤ p ∧ p ≤ 1000000 ∧ Hid (agreedFrom 0 0 xs = agreedFrom f p (xs.drop k)) ∧ Hid (Two bb (.int .i64 f) (.int .i64 p) wr) ∧ Below bb w wr) (fun i _ => xs.length - (intOf i).toNat)
  case atStart => exact ⟨0, 0, 0, Nat.zero_le _, rfl, by omega, by omega, by omega, by omega, rfl, hT0, hB0⟩
  case round =>
    obtain ⟨k, f, p, hk, rfl, hf0, hf1, hp0, hp1, hag, hT, hB⟩ := hrel
    have t0 := hT.out.c0
    have t1 := hT.out.c1
    have t2 := hT.out.f0
    have t3 := hT.out.f1
    have hbl := lt_of_cell t0
    have HT := Lib.hid hT.out
    clear hT hB0 hT0
    by_cases hlt : k < xs.length
    · obtain ⟨b, off, rfl, hcs⟩ := HC.out (by intro h; rw [h] at hlt; simp at hlt)
      obtain ⟨e0, e1⟩ := hcs k hlt
      have hbw : b < bb := by have := lt_of_cell e0; have := HBB.out; simp at *; omega
      have c0 : wr.cell? ⟨b, off + k * 2, none⟩ = some (.int .i64 xs[k].1) := (hB.cell (p := ⟨b, off + k * 2, none⟩) hbw).trans e0
      have c1 : wr.cell? ⟨b, off + k * 2 + 1, none⟩ = some (.int .i64 xs[k].2) := (hB.cell (p := ⟨b, off + k * 2 + 1, none⟩) hbw).trans e1
      have hdrop : Hid (xs.drop k = xs[k] :: xs.drop (k + 1)) := List.drop_eq_getElem_cons hlt
      have hst : Hid (agreedFrom 0 0 xs = (inB (f + 1) 100 [xs[k].1] && (inB p 1000000 [xs[k].2] && agreedFrom xs[k].1 xs[k].2 (xs.drop (k + 1))))) := by show _ = _; rw [hag.out, hdrop.out]; rfl
      clear hcs e0 e1 hag hdrop
      generalize xs[k].1 = x at *
      generalize xs[k].2 = y at *
      have HB := Lib.hid hB
      clear hB
      cases h1 : inB (f + 1) 100 [x]
      · have H1 := Lib.hid h1
        have hres : r = 14 := by rw [← hr.out, agreedE, if_pos (by rw [hst.out, h1]; rfl)]
        subst hres
        clear h1
        go_wp2_with fail
        refine (in_one _ _ x false _ _ H1.out (by simp [go_sem])).mono ?_
        rintro e w1 ⟨rfl, hB1⟩
        go_wp2_with fail
        go_ret
        have hbb := HBB.out
        subst hbb
        exact ⟨rfl, (HB.out.alloc (by omega) _).trans (Below.trans ((Below.refl _ _).alloc (by simp; omega) _) (hB1.mono (by simp; omega)))⟩
      · have H1 := Lib.hid h1
        have hx : f + 1 ≤ x ∧ x ≤ 100 := by simpa [inB] using h1
        clear h1
        go_wp2_with fail
        refine (in_one _ _ x true _ _ H1.out (by simp [go_sem])).mono ?_
        rintro e w1 ⟨rfl, hB1⟩
        have K1 : Free.Bel wr w1 := by
          refine Free.Bel.trans _ _ _ ?_ hB1
          repeat (first | exact Free.Bel.refl _ | refine Bel.allocT ?_ _ | refine Bel.drewT ?_)
        have T1 := HT.out.bel K1
        have q1 := T1.c1
        have y0 : w1.cell? ⟨wr.heap.size, 0, none⟩ = some (.int .i64 x) := keepsB hB1 (by simp [go_sem])
        have y1 : w1.cell? ⟨wr.heap.size, 1, none⟩ = some (.int .i64 y) := keepsB hB1 (by simp [go_sem])
        have hsz1 := K1.size
        cases h2 : inB p 1000000 [y]
        · have H2 := Lib.hid h2
          have hres : r = 14 := by rw [← hr.out, agreedE, if_pos (by rw [hst.out, H1.out, h2]; rfl)]
          subst hres
          clear h2 hB1 T1
          go_wp2_with fail
          refine (in_one _ _ y false _ _ H2.out (by simp [go_sem])).mono ?_
          rintro e w2 ⟨rfl, hB2⟩
          go_wp2_with fail
          go_ret
          have hbb := HBB.out
          subst hbb
          exact ⟨rfl, HB.out.trans (((Free.Bel.trans _ _ _ (Bel.allocT K1 _) hB2)).mono (by omega))⟩
        · have H2 := Lib.hid h2
          have hy : p ≤ y ∧ y ≤ 1000000 := by simpa [inB] using h2
          clear h2 hB1 T1
          go_wp2_with fail
          refine (in_one _ _ y true _ _ H2.out (by simp [go_sem])).mono ?_
          rintro e w2 ⟨rfl, hB2⟩
          have K12 : Free.Bel w1 w2 := Free.Bel.trans _ _ _ (belAlloc _ _) hB2
          have K2 : Free.Bel wr w2 := Free.Bel.trans _ _ _ K1 K12
          have T2 := HT.out.bel K2
          have z0 := T2.c0
          have z1 := T2.c1
          have z2 := T2.f0
          have z3 := T2.f1
          have z4 := keepsB K12 y0
          have z5 := keepsB K12 y1
          have TS := Lib.hid (T2.store (mb := bb + 1) (x := .int .i64 x) (y := .int .i64 y) (by omega)).1
          have HB2 := Lib.hid (((HB.out.trans (K2.mono (by omega))).setCell (p := ⟨bb, 0, none⟩) (Nat.le_refl _) (.int .i64 x)).setCell (p := ⟨bb, 1, none⟩) (Nat.le_refl _) (.int .i64 y))
          have hst2 : Hid (agreedFrom 0 0 xs = agreedFrom x y (xs.drop (k + 1))) := by show _ = _; rw [hst.out, H1.out, H2.out]; rfl
          clear hB2 K1 K12 K2 T2 q1 y0 y1
          go_wp2_with fail
          go_roundw
          case rel => exact ⟨k + 1, x, y, by omega, by go_num, by omega, by omega, by omega, by omega, hst2.out, TS.out, HB2.out⟩
          case measure => simp [intOf]; omega
    · have hag2 : Hid (agreedFrom 0 0 xs = true) := by show _ = _; rw [hag.out, List.drop_of_length_le (by omega)]; rfl
      have hr2 : Hid (unlessV (decide ((xs.length : Int) ≤ 5)) 14 = r) := by show _ = _; rw [← hr.out, agreedE, if_neg (by rw [hag2.out]; simp)]
      have HB := Lib.hid hB
      clear hB hag
      go_wp2_with fail
      refine (unless_any _ 14 r _ hr2.out).mono ?_
      rintro e w2 ⟨rfl, rfl⟩
      go_wp2_with fail
      go_ret
      have hbb := HBB.out
      subst hbb
      exact ⟨rfl, HB.out⟩
end Go.Proofs.YtigdpohdihopjaaGreatDoor

/- slices.Backward at terms: the iterator; what terms take off. -/
namespace Go.Proofs.YtigdpohdihopjaaGreatDoor
set_option linter.unusedSimpArgs false
set_option linter.unusedVariables false
open Go.RowKit Go.Shelf
attribute [local go_sem] Oper.semAt_some

/-- A list backward, each with its index. -/
def revT (xs : List (Int × Int)) : Nat → List (Int × Int × Int)
  | 0 => []
  | k + 1 => revT xs k ++ [(((xs.length - (k + 1) : Nat) : Int), (xs.getD (xs.length - (k + 1)) (0, 0)).1, (xs.getD (xs.length - (k + 1)) (0, 0)).2)]
theorem revT_prefix (xs : List (Int × Int)) {j : Nat} : ∀ {k : Nat}, j ≤ k → revT xs j <+: revT xs k
  | 0, h => by obtain rfl : j = 0 := by omega
               exact List.prefix_refl _
  | k + 1, h => by
    by_cases e : j = k + 1
    · rw [e]; exact List.prefix_refl _
    · exact (revT_prefix xs (j := j) (k := k) (by omega)).trans (List.prefix_append _ _)
abbrev encT (x : Int × Int × Int) : Array Value := #[.int .i64 x.1, .agg #[.int .i64 x.2.1, .int .i64 x.2.2]]

set_option maxRecDepth 100000 in
set_option maxHeartbeats 2000000 in
theorem backT1_in (n l Bs n0 : Nat) (v : Value) (xs : List (Int × Int)) (hn : 1 ≤ n) (w0 W : World) (hv : PL xs v w0) (h0n : w0.heap.size ≤ n0) (hB0 : Below w0.heap.size w0 W) (hBs : W.cell? ⟨Bs, 0, none⟩ = some v) (hBl : Bs < n0) (J Jx : List (Int × Int × Int) → World → Prop)
    (hY : ∀ pre x W1, pre ++ [x] <+: revT xs xs.length → J pre W1 → YieldAt Fence.wide (n - 1) Tryz.prog l (encT x) W1 fun e W' =>
      (e = .returned (.bool true) ∧ J (pre ++ [x]) W' ∧ Below n0 W1 W') ∨ (e = .returned (.bool false) ∧ Jx (pre ++ [x]) W'))
    (hJ0 : J [] W) :
    CallsIn Fence.wide n Tryz.prog 81 (#[.func (.yield l) #[] #[]] ++ #[.pointer (some ⟨Bs, 0, none⟩)]) W fun e W' => (∃ v, e = .returned v) ∧
      (J (revT xs xs.length) W' ∨ (∃ pre, pre <+: revT xs xs.length ∧ Jx pre W')) := by
  obtain ⟨p, cap, rfl, hm, hcells⟩ := hv
  unfold maxLen at hm
  have HC := Lib.hid hcells
  have HBs := Lib.hid hBs
  have HB0 := Lib.hid hB0
  have HY := Lib.hid hY
  clear hcells hB0 hY
  have hFB : ∀ W', Below n0 W W' → W'.cell? ⟨Bs, 0, none⟩ = some (.slice p xs.length cap) := fun W' h => (h.cell (p := ⟨Bs, 0, none⟩) hBl).trans HBs.out
  have hWW : Below n0 W W := Below.refl _ _
  refine callsIn_of_wp Tryz.func81 rfl trivial ?_ rfl
  simp only [Tryz.ntmps81, List.size_toArray, List.length_cons, List.length_nil, Nat.reduceAdd, Nat.reduceSub, Array.replicate_succ, Array.replicate_zero, List.push_toArray, List.append_toArray, List.nil_append, List.cons_append]
  gi_wp2
  clear hBs
  gi_loopw [3] (fun i wr => ∃ m : Nat, m ≤ xs.length ∧ i = .int .i64 ((m : Int) - 1) ∧ Hid (J (revT xs (xs.length - m)) wr) ∧ Below n0 W wr) (fun i _ => (intOf i + 1).toNat)
  case atStart => exact ⟨xs.length, Nat.le_refl _, rfl, by show J _ _; rw [Nat.sub_self]; exact hJ0, hWW⟩
  case round =>
    obtain ⟨m, hk, rfl, hJs, HK⟩ := hrel
    clear hWW
    rcases m with _ | j
    · have hz : ((0 : Nat) : Int) - 1 = -1 := by omega
      rw [hz]
      clear hz
      gi_wp2
      go_end0
      exact ⟨⟨_, rfl⟩, .inl (by have := hJs.out; rwa [Nat.sub_zero] at this)⟩
    · have hz : (((j + 1 : Nat) : Int) - 1) = (j : Int) := by omega
      rw [hz]
      clear hz
      obtain ⟨b, off, rfl, hcs⟩ := HC.out (by intro h; rw [h] at hk; simp at hk)
      obtain ⟨e0, e1⟩ := hcs j (by omega)
      have l0 := lt_of_cell e0
      simp at l0
      have c0 : wr.cell? ⟨b, off + j * 2, none⟩ = some (.int .i64 xs[j].1) := (HK.cell (p := ⟨b, off + j * 2, none⟩) (by simp <;> omega)).trans (keepsB HB0.out e0)
      have c1 : wr.cell? ⟨b, off + j * 2 + 1, none⟩ = some (.int .i64 xs[j].2) := (HK.cell (p := ⟨b, off + j * 2 + 1, none⟩) (by simp <;> omega)).trans (keepsB HB0.out e1)
      have hstep : Hid (revT xs (xs.length - j) = revT xs (xs.length - (j + 1)) ++ [((j : Int), xs[j].1, xs[j].2)]) := by
        show _ = _
        rw [show xs.length - j = (xs.length - (j + 1)) + 1 by omega, revT, show xs.length - (xs.length - (j + 1) + 1) = j by omega]
        simp [List.getD_eq_getElem?_getD, show j < xs.length by omega]
      have hpx : Hid (revT xs (xs.length - (j + 1)) ++ [((j : Int), xs[j].1, xs[j].2)] <+: revT xs xs.length) := by
        show _ <+: _
        rw [← hstep.out]; exact revT_prefix xs (by omega)
      obtain ⟨x, hx⟩ : ∃ x, xs[j].1 = x := ⟨_, rfl⟩
      obtain ⟨y, hy⟩ : ∃ y, xs[j].2 = y := ⟨_, rfl⟩
      rw [hx] at c0 hstep hpx
      rw [hy] at c1 hstep hpx
      clear hx hy hcs e0 e1
      obtain ⟨fn, tmps, assign, body, hyy, hR⟩ := HY.out _ ((j : Int), x, y) wr hpx.out hJs.out
      dsimp only [encT] at hyy
      gi_wp2
      refine hR.mono ?_
      rintro e W3 (⟨rfl, hJ3, hk3⟩ | ⟨rfl, hJx3⟩)
      · have HK3 : Below n0 W W3 := HK.trans hk3
        have HJ3 := Lib.hid hJ3
        clear hJ3 HK hk3
        gi_wp2
        go_roundw
        case rel => exact ⟨j, by omega, by simp, by show J _ _; rw [hstep.out]; exact HJ3.out, HK3⟩
        case measure => simp [intOf] <;> omega
      · gi_wp2
        refine bodyPost_ret (results_none rfl _ _ _) rfl ?_
        exact ⟨⟨_, rfl⟩, .inr ⟨_, hpx.out, hJx3⟩⟩
end Go.Proofs.YtigdpohdihopjaaGreatDoor

/- slices.Backward at numbers: the iterator, where the loop's body may turn the memo. -/
namespace Go.Proofs.YtigdpohdihopjaaGreatDoor
set_option linter.unusedSimpArgs false
set_option linter.unusedVariables false
open Go.RowKit Go.Shelf
attribute [local go_sem] Oper.semAt_some

/-- A list backward, each with its index. -/
def revI (xs : List Int) : Nat → List (Int × Int)
  | 0 => []
  | k + 1 => revI xs k ++ [(((xs.length - (k + 1) : Nat) : Int), xs.getD (xs.length - (k + 1)) 0)]
theorem revI_prefix (xs : List Int) {j : Nat} : ∀ {k : Nat}, j ≤ k → revI xs j <+: revI xs k
  | 0, h => by obtain rfl : j = 0 := by omega
               exact List.prefix_refl _
  | k + 1, h => by
    by_cases e : j = k + 1
    · rw [e]; exact List.prefix_refl _
    · exact (revI_prefix xs (j := j) (k := k) (by omega)).trans (List.prefix_append _ _)
theorem revI_mem (xs : List Int) : ∀ k, k ≤ xs.length → ∀ x ∈ revI xs k, x.2 ∈ xs
  | 0, _, x, h => by simp [revI] at h
  | k + 1, hk, x, h => by
    rcases List.mem_append.1 h with h | h
    · exact revI_mem xs k (by omega) x h
    · simp at h
      subst h
      have : xs.length - (k + 1) < xs.length := by omega
      simp only [List.getD_eq_getElem?_getD, List.getElem?_eq_getElem this, Option.getD_some]
      exact List.getElem_mem this
abbrev encI2 (x : Int × Int) : Array Value := #[.int .i64 x.1, .int .i64 x.2]

set_option maxRecDepth 100000 in
set_option maxHeartbeats 1000000 in
theorem backI_any (p : Option Addr) (n cap : Nat) (w : World) :
    Calls Tryz.prog 61 #[.slice p n cap] w fun e w' => e = .returned (.func (.func 76) #[] #[.pointer (some ⟨w.heap.size, 0, none⟩)]) ∧ w.alloc (.cells #[.slice p n cap] 39) = w' := by
  go_enter Tryz.func61, Tryz.ntmps61
  go_wp2_with fail
  go_ret
  exact ⟨rfl, rfl⟩

set_option maxRecDepth 100000 in
set_option maxHeartbeats 2000000 in
theorem backI1_in (n l Bs n0 mb g cap : Nat) (xs : List Int) (hn : 1 ≤ n) (W : World) (hm : xs.length ≤ 37) (hcells : ∀ j, j < xs.length → W.cell? ⟨g, 0 + j, none⟩ = some (.int .i64 (xs.getD j 0))) (hg : g < n0) (hgm : g ≠ mb)
    (hBs : W.cell? ⟨Bs, 0, none⟩ = some (.slice (some ⟨g, 0, none⟩) xs.length cap)) (hBl : Bs < n0) (hBm : Bs ≠ mb) (J Jx : List (Int × Int) → World → Prop)
    (hY : ∀ pre x W1, pre ++ [x] <+: revI xs xs.length → J pre W1 → YieldAt Fence.wide (n - 1) Tryz.prog l (encI2 x) W1 fun e W' =>
      (e = .returned (.bool true) ∧ J (pre ++ [x]) W' ∧ KeptB n0 mb W1 W') ∨ (e = .returned (.bool false) ∧ Jx (pre ++ [x]) W'))
    (hJ0 : J [] W) (hK0 : KeptB n0 mb W W) :
    CallsIn Fence.wide n Tryz.prog 76 (#[.func (.yield l) #[] #[]] ++ #[.pointer (some ⟨Bs, 0, none⟩)]) W fun e W' => (∃ v, e = .returned v) ∧
      (J (revI xs xs.length) W' ∨ (∃ pre, pre <+: revI xs xs.length ∧ Jx pre W')) := by
  have HC := Lib.hid hcells
  have HBs := Lib.hid hBs
  have HY := Lib.hid hY
  clear hcells hY
  have hFB : ∀ W', KeptB n0 mb W W' → W'.cell? ⟨Bs, 0, none⟩ = some (.slice (some ⟨g, 0, none⟩) xs.length cap) := fun W' h => h.cell HBs.out hBl hBm
  refine callsIn_of_wp Tryz.func76 rfl trivial ?_ rfl
  simp only [Tryz.ntmps76, List.size_toArray, List.length_cons, List.length_nil, Nat.reduceAdd, Nat.reduceSub, Array.replicate_succ, Array.replicate_zero, List.push_toArray, List.append_toArray, List.nil_append, List.cons_append]
  gi_wp2
  clear hBs
  gi_loopw [3] (fun i wr => ∃ m : Nat, m ≤ xs.length ∧ i = .int .i64 ((m : Int) - 1) ∧ Hid (J (revI xs (xs.length - m)) wr) ∧ KeptB n0 mb W wr) (fun i _ => (intOf i + 1).toNat)
  case atStart => exact ⟨xs.length, Nat.le_refl _, rfl, by show J _ _; rw [Nat.sub_self]; exact hJ0, hK0⟩
  case round =>
    obtain ⟨m, hk, rfl, hJs, HK⟩ := hrel
    clear hK0
    rcases m with _ | j
    · have hz : ((0 : Nat) : Int) - 1 = -1 := by omega
      rw [hz]
      clear hz
      gi_wp2
      go_end0
      exact ⟨⟨_, rfl⟩, .inl (by have := hJs.out; rwa [Nat.sub_zero] at this)⟩
    · have hz : (((j + 1 : Nat) : Int) - 1) = (j : Int) := by omega
      rw [hz]
      clear hz
      have c0 : wr.cell? ⟨g, j, none⟩ = some (.int .i64 (xs.getD j 0)) := by
        have h := HK.cell (HC.out j (by omega)) hg hgm
        rwa [Nat.zero_add] at h
      have hstep : Hid (revI xs (xs.length - j) = revI xs (xs.length - (j + 1)) ++ [((j : Int), xs.getD j 0)]) := by
        show _ = _
        rw [show xs.length - j = (xs.length - (j + 1)) + 1 by omega, revI, show xs.length - (xs.length - (j + 1) + 1) = j by omega]
      have hpx : Hid (revI xs (xs.length - (j + 1)) ++ [((j : Int), xs.getD j 0)] <+: revI xs xs.length) := by
        show _ <+: _
        rw [← hstep.out]; exact revI_prefix xs (by omega)
      obtain ⟨x, hx⟩ : ∃ x, xs.getD j 0 = x := ⟨_, rfl⟩
      rw [hx] at c0 hstep hpx
      clear hx
      obtain ⟨fn, tmps, assign, body, hyy, hR⟩ := HY.out _ ((j : Int), x) wr hpx.out hJs.out
      dsimp only [encI2] at hyy
      gi_wp2
      refine hR.mono ?_
      rintro e W3 (⟨rfl, hJ3, hk3⟩ | ⟨rfl, hJx3⟩)
      · have HK3 : KeptB n0 mb W W3 := HK.trans hk3
        have HJ3 := Lib.hid hJ3
        clear hJ3 HK hk3
        gi_wp2
        go_roundw
        case rel => exact ⟨j, by omega, by simp, by show J _ _; rw [hstep.out]; exact HJ3.out, HK3⟩
        case measure => simp [intOf] <;> omega
      · gi_wp2
        refine bodyPost_ret (results_none rfl _ _ _) rfl ?_
        exact ⟨⟨_, rfl⟩, .inr ⟨_, hpx.out, hJx3⟩⟩
end Go.Proofs.YtigdpohdihopjaaGreatDoor

/- How many bags can be dirty: Can. -/
namespace Go.Proofs.YtigdpohdihopjaaGreatDoor
set_option linter.unusedSimpArgs false
set_option linter.unusedVariables false
open Go.RowKit Go.Proofs.YtigdpohdihopjaaGreatDoor.ML Go.Proofs.YtigdpohdihopjaaGreatDoor.Samp

/-- What Can returns. -/
def canR (N lo hi o f : Int) : Value :=
  if cargoB N lo hi = false then .tuple #[.agg #[.int .i64 0, .int .i64 0], .int .i64 10] else
  if drawB N o f = false then .tuple #[.agg #[.int .i64 0, .int .i64 0], .int .i64 11] else
  if ableL N lo hi o f = [] then .tuple #[.agg #[.int .i64 0, .int .i64 0], .int .i64 8] else
  .tuple #[.agg #[.int .i64 (Lib.minOf (ableL N lo hi o f)), .int .i64 (Lib.maxOf (ableL N lo hi o f))], .int .i64 0]
theorem row_ints {base : Nat} {e : TypeId} {v : Value} {L : List Int} {w : World} (h : w.ownsRow base e 1 v L.length (L.map (Value.int .i64))) (hne : L ≠ []) :
    ∃ g cap, v = .slice (some ⟨g, 0, none⟩) L.length cap ∧ base ≤ g ∧ (∀ j, j < L.length → w.cell? ⟨g, 0 + j, none⟩ = some (.int .i64 (L.getD j 0))) ∧ ∃ cur, w.heap[g]? = some (.cells cur e (0, 0)) := by
  rcases h.2 with ⟨rfl, h0⟩ | ⟨g, cap, cur, rfl, hb, hg, _⟩
  · exact absurd (List.eq_nil_of_length_eq_zero h0) hne
  · refine ⟨g, cap, rfl, hb, fun j hj => ?_, cur, hg⟩
    have := h.cells (g := g) rfl j (.int .i64 L[j]) (by simp [hj])
    by_cases h0 : j = 0
    · subst h0; simpa [Addr.add, hj] using this
    · simpa [Addr.add, hj, h0] using this

set_option maxRecDepth 100000 in
set_option maxHeartbeats 4000000 in
theorem can_any (N lo hi o f : Int) (w : World) :
    Calls Tryz.prog 25 #[.agg #[.int .i64 N, .int .i64 lo, .int .i64 hi], .agg #[.int .i64 o, .int .i64 f]] w fun e w' => e = .returned (canR N lo hi o f) ∧ Below w.heap.size w w' := by
  have hB0 : Below w.heap.size w (((w.alloc (.cells #[.int .i64 N, .int .i64 lo, .int .i64 hi] 28)).alloc (.cells #[.int .i64 o, .int .i64 f] 37)).alloc (.cells #[.int .i64 0, .int .i64 0] 26)) := (((Below.refl _ w).alloc (Nat.le_refl _) _).alloc (by simp) _).alloc (by simp; omega) _
  have c0_0 : (((w.alloc (.cells #[.int .i64 N, .int .i64 lo, .int .i64 hi] 28)).alloc (.cells #[.int .i64 o, .int .i64 f] 37)).alloc (.cells #[.int .i64 0, .int .i64 0] 26)).cell? ⟨w.heap.size, 0, none⟩ = some (.int .i64 N) := by simp [go_sem]
  have c0_1 : (((w.alloc (.cells #[.int .i64 N, .int .i64 lo, .int .i64 hi] 28)).alloc (.cells #[.int .i64 o, .int .i64 f] 37)).alloc (.cells #[.int .i64 0, .int .i64 0] 26)).cell? ⟨w.heap.size, 1, none⟩ = some (.int .i64 lo) := by simp [go_sem]
  have c0_2 : (((w.alloc (.cells #[.int .i64 N, .int .i64 lo, .int .i64 hi] 28)).alloc (.cells #[.int .i64 o, .int .i64 f] 37)).alloc (.cells #[.int .i64 0, .int .i64 0] 26)).cell? ⟨w.heap.size, 2, none⟩ = some (.int .i64 hi) := by simp [go_sem]
  have c1_0 : (((w.alloc (.cells #[.int .i64 N, .int .i64 lo, .int .i64 hi] 28)).alloc (.cells #[.int .i64 o, .int .i64 f] 37)).alloc (.cells #[.int .i64 0, .int .i64 0] 26)).cell? ⟨w.heap.size + 1, 0, none⟩ = some (.int .i64 o) := by simp [go_sem]
  have c1_1 : (((w.alloc (.cells #[.int .i64 N, .int .i64 lo, .int .i64 hi] 28)).alloc (.cells #[.int .i64 o, .int .i64 f] 37)).alloc (.cells #[.int .i64 0, .int .i64 0] 26)).cell? ⟨w.heap.size + 1, 1, none⟩ = some (.int .i64 f) := by simp [go_sem]
  have c2_0 : (((w.alloc (.cells #[.int .i64 N, .int .i64 lo, .int .i64 hi] 28)).alloc (.cells #[.int .i64 o, .int .i64 f] 37)).alloc (.cells #[.int .i64 0, .int .i64 0] 26)).cell? ⟨w.heap.size + 1 + 1, 0, none⟩ = some (.int .i64 0) := by simp [go_sem]
  have c2_1 : (((w.alloc (.cells #[.int .i64 N, .int .i64 lo, .int .i64 hi] 28)).alloc (.cells #[.int .i64 o, .int .i64 f] 37)).alloc (.cells #[.int .i64 0, .int .i64 0] 26)).cell? ⟨w.heap.size + 1 + 1, 1, none⟩ = some (.int .i64 0) := by simp [go_sem]
  have f2_0 : (((w.alloc (.cells #[.int .i64 N, .int .i64 lo, .int .i64 hi] 28)).alloc (.cells #[.int .i64 o, .int .i64 f] 37)).alloc (.cells #[.int .i64 0, .int .i64 0] 26)).frozen? ⟨w.heap.size + 1 + 1, 0, none⟩ = false := by simp [go_sem]
  have f2_1 : (((w.alloc (.cells #[.int .i64 N, .int .i64 lo, .int .i64 hi] 28)).alloc (.cells #[.int .i64 o, .int .i64 f] 37)).alloc (.cells #[.int .i64 0, .int .i64 0] 26)).frozen? ⟨w.heap.size + 1 + 1, 1, none⟩ = false := by simp [go_sem]
  cases hc : cargoB N lo hi
  · have HV := Lib.hid (show canR N lo hi o f = .tuple #[.agg #[.int .i64 0, .int .i64 0], .int .i64 10] by rw [canR, if_pos hc])
    rw [HV.out]
    go_enter Tryz.func25, Tryz.ntmps25
    go_wp2_with fail
    refine (known_a N lo hi o f 0 _ hc).mono ?_
    rintro e w1 ⟨rfl, hB1⟩
    have K_w1 : Free.Bel (((w.alloc (.cells #[.int .i64 N, .int .i64 lo, .int .i64 hi] 28)).alloc (.cells #[.int .i64 o, .int .i64 f] 37)).alloc (.cells #[.int .i64 0, .int .i64 0] 26)) w1 := by
      refine Free.Bel.trans _ _ _ ?_ hB1
      repeat (first | exact Free.Bel.refl _ | refine Bel.allocT ?_ _ | refine Bel.drewT ?_)
    clear hB1
    have hq : w.heap.size + 3 = (((w.alloc (.cells #[.int .i64 N, .int .i64 lo, .int .i64 hi] 28)).alloc (.cells #[.int .i64 o, .int .i64 f] 37)).alloc (.cells #[.int .i64 0, .int .i64 0] 26)).heap.size := by simp
    generalize (((w.alloc (.cells #[.int .i64 N, .int .i64 lo, .int .i64 hi] 28)).alloc (.cells #[.int .i64 o, .int .i64 f] 37)).alloc (.cells #[.int .i64 0, .int .i64 0] 26)) = W0 at *
    generalize hbb : w.heap.size = bb at *
    have HBB := Lib.hid hbb
    clear hbb
    have HB0 := Lib.hid hB0
    have hq0 : bb + 3 ≤ W0.heap.size := by omega
    clear hB0 hq
    have FA : ∀ W, Free.Bel W0 W → W.cell? ⟨bb, 0, none⟩ = some (.int .i64 N) ∧ W.cell? ⟨bb, 1, none⟩ = some (.int .i64 lo) ∧ W.cell? ⟨bb, 2, none⟩ = some (.int .i64 hi) ∧ W.cell? ⟨bb + 1, 0, none⟩ = some (.int .i64 o) ∧ W.cell? ⟨bb + 1, 1, none⟩ = some (.int .i64 f) ∧ W.cell? ⟨bb + 1 + 1, 0, none⟩ = some (.int .i64 0) ∧ W.cell? ⟨bb + 1 + 1, 1, none⟩ = some (.int .i64 0) ∧ W.frozen? ⟨bb + 1 + 1, 0, none⟩ = false ∧ W.frozen? ⟨bb + 1 + 1, 1, none⟩ = false ∧ bb + 3 ≤ W.heap.size := fun W hW => ⟨keepsB hW c0_0, keepsB hW c0_1, keepsB hW c0_2, keepsB hW c1_0, keepsB hW c1_1, keepsB hW c2_0, keepsB hW c2_1, (hW.frozen (p := ⟨bb + 1 + 1, 0, none⟩) (by simp; omega)).trans f2_0, (hW.frozen (p := ⟨bb + 1 + 1, 1, none⟩) (by simp; omega)).trans f2_1, Nat.le_trans hq0 hW.size⟩
    clear c0_0 c0_1 c0_2 c1_0 c1_1 c2_0 c2_1 f2_0 f2_1
    go_wp2_with fail
    have hz := FA w1 K_w1
    have n2 := noop2 (w := w1) (b := bb + 1 + 1) (x := .int .i64 0) (y := .int .i64 0) (by simp [hz]) (by simp [hz])
    rw [n2]
    have hbb := HBB.out
    subst hbb
    exact bodyPost_ret (v := .tuple #[.agg #[.int .i64 0, .int .i64 0], .int .i64 10]) (by simp [results, Tryz.results25, go_sem, hz]) rfl ⟨rfl, HB0.out.trans (K_w1.mono (by omega))⟩
  · cases hd : drawB N o f
    · have HV := Lib.hid (show canR N lo hi o f = .tuple #[.agg #[.int .i64 0, .int .i64 0], .int .i64 11] by rw [canR, if_neg (by simp [hc]), if_pos hd])
      rw [HV.out]
      go_enter Tryz.func25, Tryz.ntmps25
      go_wp2_with fail
      refine (known_b N lo hi o f 0 _ hc 11 11 (by simp [Hid, hd]) (by simp [Hid, firstE]) rfl).mono ?_
      rintro e w1 ⟨rfl, hB1⟩
      have K_w1 : Free.Bel (((w.alloc (.cells #[.int .i64 N, .int .i64 lo, .int .i64 hi] 28)).alloc (.cells #[.int .i64 o, .int .i64 f] 37)).alloc (.cells #[.int .i64 0, .int .i64 0] 26)) w1 := by
        refine Free.Bel.trans _ _ _ ?_ hB1
        repeat (first | exact Free.Bel.refl _ | refine Bel.allocT ?_ _ | refine Bel.drewT ?_)
      clear hB1
      have hq : w.heap.size + 3 = (((w.alloc (.cells #[.int .i64 N, .int .i64 lo, .int .i64 hi] 28)).alloc (.cells #[.int .i64 o, .int .i64 f] 37)).alloc (.cells #[.int .i64 0, .int .i64 0] 26)).heap.size := by simp
      generalize (((w.alloc (.cells #[.int .i64 N, .int .i64 lo, .int .i64 hi] 28)).alloc (.cells #[.int .i64 o, .int .i64 f] 37)).alloc (.cells #[.int .i64 0, .int .i64 0] 26)) = W0 at *
      generalize hbb : w.heap.size = bb at *
      have HBB := Lib.hid hbb
      clear hbb
      have HB0 := Lib.hid hB0
      have hq0 : bb + 3 ≤ W0.heap.size := by omega
      clear hB0 hq
      have FA : ∀ W, Free.Bel W0 W → W.cell? ⟨bb, 0, none⟩ = some (.int .i64 N) ∧ W.cell? ⟨bb, 1, none⟩ = some (.int .i64 lo) ∧ W.cell? ⟨bb, 2, none⟩ = some (.int .i64 hi) ∧ W.cell? ⟨bb + 1, 0, none⟩ = some (.int .i64 o) ∧ W.cell? ⟨bb + 1, 1, none⟩ = some (.int .i64 f) ∧ W.cell? ⟨bb + 1 + 1, 0, none⟩ = some (.int .i64 0) ∧ W.cell? ⟨bb + 1 + 1, 1, none⟩ = some (.int .i64 0) ∧ W.frozen? ⟨bb + 1 + 1, 0, none⟩ = false ∧ W.frozen? ⟨bb + 1 + 1, 1, none⟩ = false ∧ bb + 3 ≤ W.heap.size := fun W hW => ⟨keepsB hW c0_0, keepsB hW c0_1, keepsB hW c0_2, keepsB hW c1_0, keepsB hW c1_1, keepsB hW c2_0, keepsB hW c2_1, (hW.frozen (p := ⟨bb + 1 + 1, 0, none⟩) (by simp; omega)).trans f2_0, (hW.frozen (p := ⟨bb + 1 + 1, 1, none⟩) (by simp; omega)).trans f2_1, Nat.le_trans hq0 hW.size⟩
      clear c0_0 c0_1 c0_2 c1_0 c1_1 c2_0 c2_1 f2_0 f2_1
      go_wp2_with fail
      have hz := FA w1 K_w1
      have n2 := noop2 (w := w1) (b := bb + 1 + 1) (x := .int .i64 0) (y := .int .i64 0) (by simp [hz]) (by simp [hz])
      rw [n2]
      have hbb := HBB.out
      subst hbb
      exact bodyPost_ret (v := .tuple #[.agg #[.int .i64 0, .int .i64 0], .int .i64 11]) (by simp [results, Tryz.results25, go_sem, hz]) rfl ⟨rfl, HB0.out.trans (K_w1.mono (by omega))⟩
    · by_cases hL : ableL N lo hi o f = []
      · have HV := Lib.hid (show canR N lo hi o f = .tuple #[.agg #[.int .i64 0, .int .i64 0], .int .i64 8] by rw [canR, if_neg (by simp [hc]), if_neg (by simp [hd]), if_pos hL])
        rw [HV.out]
        have HE := Lib.hid (show unlessV (decide (0 < ((ableL N lo hi o f).length : Int))) 8 = 8 by rw [hL]; rfl)
        clear hL
        go_enter Tryz.func25, Tryz.ntmps25
        go_wp2_with fail
        refine (known_c N lo hi o f 0 _ hc hd rfl).mono ?_
        rintro e w1 ⟨hb, mb, kb, cb, base, v, rfl, hH, hrow, h1, h2, h3, h4, h5, hB1⟩
        rw [HE.out]
        have K_w1 : Free.Bel (((w.alloc (.cells #[.int .i64 N, .int .i64 lo, .int .i64 hi] 28)).alloc (.cells #[.int .i64 o, .int .i64 f] 37)).alloc (.cells #[.int .i64 0, .int .i64 0] 26)) w1 := by
          refine Free.Bel.trans _ _ _ ?_ hB1
          repeat (first | exact Free.Bel.refl _ | refine Bel.allocT ?_ _ | refine Bel.drewT ?_)
        clear hB1 hH hrow h1 h2 h3 h4 h5
        have hq : w.heap.size + 3 = (((w.alloc (.cells #[.int .i64 N, .int .i64 lo, .int .i64 hi] 28)).alloc (.cells #[.int .i64 o, .int .i64 f] 37)).alloc (.cells #[.int .i64 0, .int .i64 0] 26)).heap.size := by simp
        generalize (((w.alloc (.cells #[.int .i64 N, .int .i64 lo, .int .i64 hi] 28)).alloc (.cells #[.int .i64 o, .int .i64 f] 37)).alloc (.cells #[.int .i64 0, .int .i64 0] 26)) = W0 at *
        generalize hbb : w.heap.size = bb at *
        have HBB := Lib.hid hbb
        clear hbb
        have HB0 := Lib.hid hB0
        have hq0 : bb + 3 ≤ W0.heap.size := by omega
        clear hB0 hq
        have FA : ∀ W, Free.Bel W0 W → W.cell? ⟨bb, 0, none⟩ = some (.int .i64 N) ∧ W.cell? ⟨bb, 1, none⟩ = some (.int .i64 lo) ∧ W.cell? ⟨bb, 2, none⟩ = some (.int .i64 hi) ∧ W.cell? ⟨bb + 1, 0, none⟩ = some (.int .i64 o) ∧ W.cell? ⟨bb + 1, 1, none⟩ = some (.int .i64 f) ∧ W.cell? ⟨bb + 1 + 1, 0, none⟩ = some (.int .i64 0) ∧ W.cell? ⟨bb + 1 + 1, 1, none⟩ = some (.int .i64 0) ∧ W.frozen? ⟨bb + 1 + 1, 0, none⟩ = false ∧ W.frozen? ⟨bb + 1 + 1, 1, none⟩ = false ∧ bb + 3 ≤ W.heap.size := fun W hW => ⟨keepsB hW c0_0, keepsB hW c0_1, keepsB hW c0_2, keepsB hW c1_0, keepsB hW c1_1, keepsB hW c2_0, keepsB hW c2_1, (hW.frozen (p := ⟨bb + 1 + 1, 0, none⟩) (by simp; omega)).trans f2_0, (hW.frozen (p := ⟨bb + 1 + 1, 1, none⟩) (by simp; omega)).trans f2_1, Nat.le_trans hq0 hW.size⟩
        clear c0_0 c0_1 c0_2 c1_0 c1_1 c2_0 c2_1 f2_0 f2_1
        go_wp2_with fail
        have hz := FA w1 K_w1
        have n2 := noop2 (w := w1) (b := bb + 1 + 1) (x := .int .i64 0) (y := .int .i64 0) (by simp [hz]) (by simp [hz])
        rw [n2]
        have hbb := HBB.out
        subst hbb
        exact bodyPost_ret (v := .tuple #[.agg #[.int .i64 0, .int .i64 0], .int .i64 8]) (by simp [results, Tryz.results25, go_sem, hz]) rfl ⟨rfl, HB0.out.trans (K_w1.mono (by omega))⟩
      · have HV := Lib.hid (show canR N lo hi o f = .tuple #[.agg #[.int .i64 (Lib.minOf (ableL N lo hi o f)), .int .i64 (Lib.maxOf (ableL N lo hi o f))], .int .i64 0] by rw [canR, if_neg (by simp [hc]), if_neg (by simp [hd]), if_neg hL])
        rw [HV.out]
        have hpos : 0 < (ableL N lo hi o f).length := List.length_pos_iff.2 hL
        have HE := Lib.hid (show unlessV (decide (0 < ((ableL N lo hi o f).length : Int))) 8 = 0 by rw [decide_eq_true (by omega)]; rfl)
        have HL := Lib.hid hL
        have hN := (cargoB_iff N lo hi).1 hc
        have hL37 : (ableL N lo hi o f).length ≤ 37 := by have := ableK_length N lo o f (hi - lo + 1).toNat; unfold ableL; omega
        clear hL
        go_enter Tryz.func25, Tryz.ntmps25
        go_wp2_with fail
        refine (known_c N lo hi o f 0 _ hc hd rfl).mono ?_
        rintro e w1 ⟨hb, mb, kb, cb, base, v, rfl, hH, hrow, h1, h2, h3, h4, h5, hB1⟩
        rw [HE.out]
        obtain ⟨g, cap, rfl, hbg, hcells, cur, hcur⟩ := row_ints hrow HL.out
        have HCELL := Lib.hid hcells
        have K_w1 : Free.Bel (((w.alloc (.cells #[.int .i64 N, .int .i64 lo, .int .i64 hi] 28)).alloc (.cells #[.int .i64 o, .int .i64 f] 37)).alloc (.cells #[.int .i64 0, .int .i64 0] 26)) w1 := by
          refine Free.Bel.trans _ _ _ ?_ hB1
          repeat (first | exact Free.Bel.refl _ | refine Bel.allocT ?_ _ | refine Bel.drewT ?_)
        clear hB1 hH hrow h1 h2 h3 h4 h5 hcells hcur hbg
        have hq : w.heap.size + 3 = (((w.alloc (.cells #[.int .i64 N, .int .i64 lo, .int .i64 hi] 28)).alloc (.cells #[.int .i64 o, .int .i64 f] 37)).alloc (.cells #[.int .i64 0, .int .i64 0] 26)).heap.size := by simp
        generalize (((w.alloc (.cells #[.int .i64 N, .int .i64 lo, .int .i64 hi] 28)).alloc (.cells #[.int .i64 o, .int .i64 f] 37)).alloc (.cells #[.int .i64 0, .int .i64 0] 26)) = W0 at *
        generalize hbb : w.heap.size = bb at *
        have HBB := Lib.hid hbb
        clear hbb
        have HB0 := Lib.hid hB0
        have hq0 : bb + 3 ≤ W0.heap.size := by omega
        clear hB0 hq
        have FA : ∀ W, Free.Bel W0 W → W.cell? ⟨bb, 0, none⟩ = some (.int .i64 N) ∧ W.cell? ⟨bb, 1, none⟩ = some (.int .i64 lo) ∧ W.cell? ⟨bb, 2, none⟩ = some (.int .i64 hi) ∧ W.cell? ⟨bb + 1, 0, none⟩ = some (.int .i64 o) ∧ W.cell? ⟨bb + 1, 1, none⟩ = some (.int .i64 f) ∧ W.cell? ⟨bb + 1 + 1, 0, none⟩ = some (.int .i64 0) ∧ W.cell? ⟨bb + 1 + 1, 1, none⟩ = some (.int .i64 0) ∧ W.frozen? ⟨bb + 1 + 1, 0, none⟩ = false ∧ W.frozen? ⟨bb + 1 + 1, 1, none⟩ = false ∧ bb + 3 ≤ W.heap.size := fun W hW => ⟨keepsB hW c0_0, keepsB hW c0_1, keepsB hW c0_2, keepsB hW c1_0, keepsB hW c1_1, keepsB hW c2_0, keepsB hW c2_1, (hW.frozen (p := ⟨bb + 1 + 1, 0, none⟩) (by simp; omega)).trans f2_0, (hW.frozen (p := ⟨bb + 1 + 1, 1, none⟩) (by simp; omega)).trans f2_1, Nat.le_trans hq0 hW.size⟩
        clear c0_0 c0_1 c0_2 c1_0 c1_1 c2_0 c2_1 f2_0 f2_1
        obtain ⟨L, hLe⟩ : ∃ L, ableL N lo hi o f = L := ⟨_, rfl⟩
        rw [hLe] at hpos hL37 HCELL ⊢
        have HLE := Lib.hid hLe
        clear hLe
        go_wp2_with fail
        refine (Tryz.slices_Min_int g 0 L.length cap L w1 hpos (Nat.le_refl _) (by omega) HCELL.out).mono ?_
        rintro e w2 ⟨rfl, hw2⟩
        obtain rfl : w2 = w1 := hw2
        go_wp2_with fail
        refine (Tryz.slices_Max_int g 0 L.length cap L w2 hpos (Nat.le_refl _) (by omega) HCELL.out).mono ?_
        rintro e w3 ⟨rfl, hw3⟩
        obtain rfl : w3 = w2 := hw3
        rw [List.take_length]
        obtain ⟨mn, hmn⟩ : ∃ mn, Lib.minOf L = mn := ⟨_, rfl⟩
        obtain ⟨mx, hmx⟩ : ∃ mx, Lib.maxOf L = mx := ⟨_, rfl⟩
        have HMX := Lib.hid (And.intro hmn hmx)
        rw [hmn, hmx]
        clear hmn hmx
        have hz := FA w3 K_w1
        have ts := two_stores (w := w3) (b := bb + 1 + 1) (x := .int .i64 0) (y := .int .i64 0) (.int .i64 mn) (.int .i64 mx) (by simp [hz]) (by simp [hz])
        have hBB : Below bb W0 ((w3.setCell ⟨bb + 1 + 1, 0, none⟩ (.int .i64 mn)).setCell ⟨bb + 1 + 1, 1, none⟩ (.int .i64 mx)) := ((K_w1.mono (by omega)).setCell (p := ⟨bb + 1 + 1, 0, none⟩) (by simp; omega) _).setCell (p := ⟨bb + 1 + 1, 1, none⟩) (by simp; omega) _
        have r0 := ts.1
        have r1 := ts.2
        have HBB2 := Lib.hid hBB
        clear hz ts hBB
        go_wp2_with fail
        have hbb := HBB.out
        subst hbb
        exact bodyPost_ret (v := .tuple #[.agg #[.int .i64 mn, .int .i64 mx], .int .i64 0]) (by simp [results, Tryz.results25, go_sem, r0, r1]) rfl ⟨by rw [HLE.out, HMX.out.1, HMX.out.2], HB0.out.trans HBB2.out⟩
end Go.Proofs.YtigdpohdihopjaaGreatDoor

/- Rules: the errors of risks; whether a rule is good. -/
namespace Go.Proofs.YtigdpohdihopjaaGreatDoor
set_option linter.unusedSimpArgs false
set_option linter.unusedVariables false
open Go.RowKit Go.Proofs.YtigdpohdihopjaaGreatDoor.ML Go.Proofs.YtigdpohdihopjaaGreatDoor.Samp

/-- A slice of fractions. -/
def SlP (xs : List (Int × Int)) (v : Value) (w : World) : Prop := ∃ b, v = .slice (some ⟨b, 0, none⟩) xs.length xs.length ∧ ∀ k, (h : k < xs.length) → w.cell? ⟨b, 0 + k * 2, none⟩ = some (.int .i64 xs[k].1) ∧ w.cell? ⟨b, 0 + k * 2 + 1, none⟩ = some (.int .i64 xs[k].2)
theorem SlP.keeps {xs : List (Int × Int)} {v : Value} {w w' : World} (h : SlP xs v w) (hB : Below w.heap.size w w') : SlP xs v w' :=
  let ⟨b, h1, h2⟩ := h
  ⟨b, h1, fun k hk => ⟨keepsB hB (h2 k hk).1, keepsB hB (h2 k hk).2⟩⟩
theorem SlP.stable (xs : List (Int × Int)) : Free.Stable Free.Bel (SlP xs) := fun v w w' hB h => h.keeps hB
theorem SlP.two (a b c d : Int) (t : TypeId) (w : World) : SlP [(a, b), (c, d)] (.slice (some ⟨w.heap.size, 0, none⟩) 2 2) (w.alloc (.cells #[.int .i64 a, .int .i64 b, .int .i64 c, .int .i64 d] t)) :=
  ⟨_, rfl, fun k hk => by match k, hk with | 0, _ => simp [go_sem] | 1, _ => simp [go_sem]⟩
theorem SlP.one (a b : Int) (t : TypeId) (w : World) : SlP [(a, b)] (.slice (some ⟨w.heap.size, 0, none⟩) 1 1) (w.alloc (.cells #[.int .i64 a, .int .i64 b] t)) :=
  ⟨_, rfl, fun k hk => by match k, hk with | 0, _ => simp [go_sem]⟩
theorem given_sl (xs : List (Int × Int)) (r : Int) (v : Value) (w : World) (hm : xs.length ≤ maxLen) (hr : unlessV (xs.all fun x => givenB x.1 x.2) 12 = r) (h : SlP xs v w) :
    Calls Tryz.prog 45 #[v] w fun e w' => e = .returned (.int .i64 r) ∧ Below w.heap.size w w' := by
  obtain ⟨b, rfl, hc⟩ := h
  exact given_any xs r b 0 xs.length w hr hm hc
def riskedE (lo hi g b sn sd bn bd : Int) : Int := firstE [unlessV (inB lo hi [g, b]) 2, unlessV ([(sn, sd), (bn, bd)].all fun x => givenB x.1 x.2) 12, unlessV (decide (g < b)) 2]

set_option maxRecDepth 100000 in
set_option maxHeartbeats 2000000 in
theorem risked_any (hb : Nat) (lo hi g b sn sd bn bd : Int) (x y z r : Int) (w : World) (h1 : w.cell? ⟨hb, 1, none⟩ = some (.int .i64 lo)) (h2 : w.cell? ⟨hb, 2, none⟩ = some (.int .i64 hi))
    (hx : Hid (unlessV (inB lo hi [g, b]) 2 = x)) (hy : Hid (unlessV ([(sn, sd), (bn, bd)].all fun x => givenB x.1 x.2) 12 = y)) (hz : Hid (unlessV (decide (g < b)) 2 = z)) (hr : Hid (firstE [x, y, z] = r)) :
    Calls Tryz.prog 50 #[.pointer (some ⟨hb, 0, none⟩), .int .i64 g, .int .i64 b, .agg #[.int .i64 sn, .int .i64 sd], .agg #[.int .i64 bn, .int .i64 bd]] w fun e w' => e = .returned (.int .i64 r) ∧ Below w.heap.size w w' := by
  have hB0 : Below w.heap.size w ((w.alloc (.cells #[.int .i64 sn, .int .i64 sd] 31)).alloc (.cells #[.int .i64 bn, .int .i64 bd] 31)) := ((Below.refl _ w).alloc (Nat.le_refl _) _).alloc (by simp) _
  have c0 : ((w.alloc (.cells #[.int .i64 sn, .int .i64 sd] 31)).alloc (.cells #[.int .i64 bn, .int .i64 bd] 31)).cell? ⟨w.heap.size, 0, none⟩ = some (.int .i64 sn) := by simp [go_sem]
  have c1 : ((w.alloc (.cells #[.int .i64 sn, .int .i64 sd] 31)).alloc (.cells #[.int .i64 bn, .int .i64 bd] 31)).cell? ⟨w.heap.size, 1, none⟩ = some (.int .i64 sd) := by simp [go_sem]
  have c2 : ((w.alloc (.cells #[.int .i64 sn, .int .i64 sd] 31)).alloc (.cells #[.int .i64 bn, .int .i64 bd] 31)).cell? ⟨w.heap.size + 1, 0, none⟩ = some (.int .i64 bn) := by simp [go_sem]
  have c3 : ((w.alloc (.cells #[.int .i64 sn, .int .i64 sd] 31)).alloc (.cells #[.int .i64 bn, .int .i64 bd] 31)).cell? ⟨w.heap.size + 1, 1, none⟩ = some (.int .i64 bd) := by simp [go_sem]
  have HC := Lib.hid (And.intro c0 (And.intro c1 (And.intro c2 (And.intro c3 (And.intro (keepsB hB0 h1) (keepsB hB0 h2))))))
  have HB0 := Lib.hid hB0
  clear hB0 c0 c1 c2 c3 h1 h2
  go_enter Tryz.func50, Tryz.ntmps50
  go_wp2_with fail
  generalize ((w.alloc (.cells #[.int .i64 sn, .int .i64 sd] 31)).alloc (.cells #[.int .i64 bn, .int .i64 bd] 31)) = W0 at *
  generalize hbb : w.heap.size = bb at *
  have HBB := Lib.hid hbb
  clear hbb
  have hF : ∀ W, Free.Bel W0.drew W → W.cell? ⟨bb, 0, none⟩ = some (.int .i64 sn) ∧ W.cell? ⟨bb, 1, none⟩ = some (.int .i64 sd) ∧ W.cell? ⟨bb + 1, 0, none⟩ = some (.int .i64 bn) ∧ W.cell? ⟨bb + 1, 1, none⟩ = some (.int .i64 bd) ∧ W.cell? ⟨hb, 1, none⟩ = some (.int .i64 lo) ∧ W.cell? ⟨hb, 2, none⟩ = some (.int .i64 hi) :=
    fun W hW => ⟨keepsB hW HC.out.1, keepsB hW HC.out.2.1, keepsB hW HC.out.2.2.1, keepsB hW HC.out.2.2.2.1, keepsB hW HC.out.2.2.2.2.1, keepsB hW HC.out.2.2.2.2.2⟩
  refine Free.wp_free (R := Free.Bel) (by kernel_rfl) (by kernel_rfl) Free.Bel.refl Free.Bel.trans ?_
  refine Free.Chain.ex ?_ [] [0] (by kernel_rfl) (by kernel_rfl) rfl Free.Bel.refl ?_ ?_
  rotate_left
  · (intro ev W hb hR hO hD; have hS := hF W hR; obtain ⟨hb1, hb2, hb3⟩ := hb; simp only [Free.AllDeps, Free.AllOuts, Free.At, List.getElem?_cons_succ, List.getElem?_cons_zero, Array.getD_eq_getD_getElem?, List.getElem?_toArray, Option.getD_some, and_true] at hO hD; go_simp; rfl)
  simp only [List.nil_append, List.cons_append]
  refine Free.Chain.ex ?_ [] [1] (by kernel_rfl) (by kernel_rfl) rfl Free.Bel.refl ?_ ?_
  rotate_left
  · (intro ev W hb hR hO hD; have hS := hF W hR; obtain ⟨hb1, hb2, hb3⟩ := hb; simp only [Free.AllDeps, Free.AllOuts, Free.At, List.getElem?_cons_succ, List.getElem?_cons_zero, Array.getD_eq_getD_getElem?, List.getElem?_toArray, Option.getD_some, and_true] at hO hD; go_simp; rfl)
  simp only [List.nil_append, List.cons_append]
  refine Free.Chain.ex ?_ [] [2] (by kernel_rfl) (by kernel_rfl) rfl Free.Bel.refl ?_ ?_
  rotate_left
  · (intro ev W hb hR hO hD; have hS := hF W hR; obtain ⟨hb1, hb2, hb3⟩ := hb; simp only [Free.AllDeps, Free.AllOuts, Free.At, List.getElem?_cons_succ, List.getElem?_cons_zero, Array.getD_eq_getD_getElem?, List.getElem?_toArray, Option.getD_some, and_true] at hO hD; go_simp; rfl)
  simp only [List.nil_append, List.cons_append]
  refine Free.Chain.pr (SlI [g, b]) [(1, 12), (2, 13)] [] (by kernel_rfl) (by kernel_rfl) rfl (SlI.stable _) ?_ ?_
  · (intro ev W hb hR hO hD; have hS := hF W hR; obtain ⟨hb1, hb2, hb3⟩ := hb; simp only [Free.AllDeps, Free.AllOuts, Free.At, List.getElem?_cons_succ, List.getElem?_cons_zero, Array.getD_eq_getD_getElem?, List.getElem?_toArray, Option.getD_some, and_true] at hO hD; go_simp; exact ⟨belAlloc _ _, SlI.two _ _ _ _⟩)
  simp only [List.nil_append, List.cons_append]
  refine Free.Chain.pr (fun v _ => v = .int .i64 x) [(0, 11), (3, 14)] [] (by kernel_rfl) (by kernel_rfl) rfl (fun _ _ _ _ h => h) ?_ ?_
  · (intro ev W hb hR hO hD; have hS := hF W hR; obtain ⟨hb1, hb2, hb3⟩ := hb; simp only [Free.AllDeps, Free.AllOuts, Free.At, List.getElem?_cons_succ, List.getElem?_cons_zero, Array.getD_eq_getD_getElem?, List.getElem?_toArray, Option.getD_some, and_true] at hO hD; go_simp; refine (may_any hb lo hi [g, b] _ x _ (by simp [maxLen]) hS.2.2.2.2.1 hS.2.2.2.2.2 hD.2 hx.out).mono ?_; rintro e W1 ⟨rfl, hB1⟩; exact ⟨_, rfl, hB1, rfl⟩)
  simp only [List.nil_append, List.cons_append]
  refine Free.Chain.ex ?_ [] [8] (by kernel_rfl) (by kernel_rfl) rfl Free.Bel.refl ?_ ?_
  rotate_left
  · (intro ev W hb hR hO hD; have hS := hF W hR; obtain ⟨hb1, hb2, hb3⟩ := hb; simp only [Free.AllDeps, Free.AllOuts, Free.At, List.getElem?_cons_succ, List.getElem?_cons_zero, Array.getD_eq_getD_getElem?, List.getElem?_toArray, Option.getD_some, and_true] at hO hD; go_simp; rfl)
  simp only [List.nil_append, List.cons_append]
  refine Free.Chain.ex ?_ [] [9] (by kernel_rfl) (by kernel_rfl) rfl Free.Bel.refl ?_ ?_
  rotate_left
  · (intro ev W hb hR hO hD; have hS := hF W hR; obtain ⟨hb1, hb2, hb3⟩ := hb; simp only [Free.AllDeps, Free.AllOuts, Free.At, List.getElem?_cons_succ, List.getElem?_cons_zero, Array.getD_eq_getD_getElem?, List.getElem?_toArray, Option.getD_some, and_true] at hO hD; go_simp; rfl)
  simp only [List.nil_append, List.cons_append]
  refine Free.Chain.pr (SlP [(sn, sd), (bn, bd)]) [(5, 16), (6, 17)] [] (by kernel_rfl) (by kernel_rfl) rfl (SlP.stable _) ?_ ?_
  · (intro ev W hb hR hO hD; have hS := hF W hR; obtain ⟨hb1, hb2, hb3⟩ := hb; simp only [Free.AllDeps, Free.AllOuts, Free.At, List.getElem?_cons_succ, List.getElem?_cons_zero, Array.getD_eq_getD_getElem?, List.getElem?_toArray, Option.getD_some, and_true] at hO hD; go_simp; exact ⟨belAlloc _ _, SlP.two _ _ _ _ _ _⟩)
  simp only [List.nil_append, List.cons_append]
  refine Free.Chain.pr (fun v _ => v = .int .i64 y) [(7, 18), (4, 15)] [] (by kernel_rfl) (by kernel_rfl) rfl (fun _ _ _ _ h => h) ?_ ?_
  · (intro ev W hb hR hO hD; have hS := hF W hR; obtain ⟨hb1, hb2, hb3⟩ := hb; simp only [Free.AllDeps, Free.AllOuts, Free.At, List.getElem?_cons_succ, List.getElem?_cons_zero, Array.getD_eq_getD_getElem?, List.getElem?_toArray, Option.getD_some, and_true] at hO hD; go_simp; refine (given_sl [(sn, sd), (bn, bd)] y _ _ (by simp [maxLen]) hy.out hD.1).mono ?_; rintro e W1 ⟨rfl, hB1⟩; exact ⟨_, rfl, hB1, rfl⟩)
  simp only [List.nil_append, List.cons_append]
  refine Free.Chain.ex ?_ [] [1] (by kernel_rfl) (by kernel_rfl) rfl Free.Bel.refl ?_ ?_
  rotate_left
  · (intro ev W hb hR hO hD; have hS := hF W hR; obtain ⟨hb1, hb2, hb3⟩ := hb; simp only [Free.AllDeps, Free.AllOuts, Free.At, List.getElem?_cons_succ, List.getElem?_cons_zero, Array.getD_eq_getD_getElem?, List.getElem?_toArray, Option.getD_some, and_true] at hO hD; go_simp; rfl)
  simp only [List.nil_append, List.cons_append]
  refine Free.Chain.ex ?_ [] [2] (by kernel_rfl) (by kernel_rfl) rfl Free.Bel.refl ?_ ?_
  rotate_left
  · (intro ev W hb hR hO hD; have hS := hF W hR; obtain ⟨hb1, hb2, hb3⟩ := hb; simp only [Free.AllDeps, Free.AllOuts, Free.At, List.getElem?_cons_succ, List.getElem?_cons_zero, Array.getD_eq_getD_getElem?, List.getElem?_toArray, Option.getD_some, and_true] at hO hD; go_simp; rfl)
  simp only [List.nil_append, List.cons_append]
  refine Free.Chain.ex ?_ [(9, 20), (10, 21)] [] (by kernel_rfl) (by kernel_rfl) rfl Free.Bel.refl ?_ ?_
  rotate_left
  · (intro ev W hb hR hO hD; have hS := hF W hR; obtain ⟨hb1, hb2, hb3⟩ := hb; simp only [Free.AllDeps, Free.AllOuts, Free.At, List.getElem?_cons_succ, List.getElem?_cons_zero, Array.getD_eq_getD_getElem?, List.getElem?_toArray, Option.getD_some, and_true] at hO hD; go_simp; rfl)
  simp only [List.nil_append, List.cons_append]
  refine Free.Chain.pr (fun v _ => v = .int .i64 z) [(11, 22), (8, 19)] [] (by kernel_rfl) (by kernel_rfl) rfl (fun _ _ _ _ h => h) ?_ ?_
  · (intro ev W hb hR hO hD; have hS := hF W hR; obtain ⟨hb1, hb2, hb3⟩ := hb; simp only [Free.AllDeps, Free.AllOuts, Free.At, List.getElem?_cons_succ, List.getElem?_cons_zero, Array.getD_eq_getD_getElem?, List.getElem?_toArray, Option.getD_some, and_true] at hO hD; go_simp; refine (unless_any _ _ z _ hz.out).mono ?_; rintro e W1 ⟨rfl, rfl⟩; exact ⟨_, rfl, Free.Bel.refl _, rfl⟩)
  simp only [List.nil_append, List.cons_append]
  refine Free.Chain.pr (SlI [x, y, z]) [(4, 15), (8, 19), (12, 23)] [] (by kernel_rfl) (by kernel_rfl) rfl (SlI.stable _) ?_ ?_
  · (intro ev W hb hR hO hD; have hS := hF W hR; obtain ⟨hb1, hb2, hb3⟩ := hb; simp only [Free.AllDeps, Free.AllOuts, Free.At, List.getElem?_cons_succ, List.getElem?_cons_zero, Array.getD_eq_getD_getElem?, List.getElem?_toArray, Option.getD_some, and_true] at hO hD; go_simp; exact ⟨belAlloc _ _, SlI.three _ _ _ _ _⟩)
  simp only [List.nil_append, List.cons_append]
  refine Free.Chain.pr (fun v _ => v = .int .i64 r) [(13, 24), (12, 23)] [] (by kernel_rfl) (by kernel_rfl) rfl (fun _ _ _ _ h => h) ?_ ?_
  · (intro ev W hb hR hO hD; have hS := hF W hR; obtain ⟨hb1, hb2, hb3⟩ := hb; simp only [Free.AllDeps, Free.AllOuts, Free.At, List.getElem?_cons_succ, List.getElem?_cons_zero, Array.getD_eq_getD_getElem?, List.getElem?_toArray, Option.getD_some, and_true] at hO hD; go_simp; refine (first_sl [x, y, z] r _ _ (by simp [maxLen]) hr.out hD.1).mono ?_; rintro e W1 ⟨rfl, rfl⟩; exact ⟨_, rfl, Free.Bel.refl _, rfl⟩)
  simp only [List.nil_append, List.cons_append]
  refine Free.Chain.ex ?_ [(14, 25), (14, 25), (0, 11), (1, 12), (2, 13), (3, 14), (4, 15), (5, 16), (6, 17), (7, 18), (8, 19), (9, 20), (10, 21), (11, 22), (12, 23), (13, 24), (14, 25)] [] (by kernel_rfl) (by kernel_rfl) rfl Free.Bel.refl ?_ ?_
  rotate_left
  · (intro ev W hb hR hO hD; have hS := hF W hR; obtain ⟨hb1, hb2, hb3⟩ := hb; simp only [Free.AllDeps, Free.AllOuts, Free.At, List.getElem?_cons_succ, List.getElem?_cons_zero, Array.getD_eq_getD_getElem?, List.getElem?_toArray, Option.getD_some, and_true] at hO hD; go_simp; rfl)
  simp only [List.nil_append, List.cons_append]
  intro xs w' hR hV
  simp only [Free.AllV, Free.At, List.length_cons, List.length_nil, Nat.reduceAdd, List.getElem?_cons_succ, List.getElem?_cons_zero, true_and] at hV
  simp only [Free.putsFrom, Act.put, hV, List.setIfInBounds_toArray, List.set_cons_succ, List.set_cons_zero]
  go_wp2_with fail
  have hbb := HBB.out
  subst hbb
  go_ret
  exact ⟨rfl, HB0.out.drew.trans (hR.mono (by have := HB0.out.size; simp; omega))⟩
end Go.Proofs.YtigdpohdihopjaaGreatDoor

/- Rules: the chance that a rule accepts. -/
namespace Go.Proofs.YtigdpohdihopjaaGreatDoor
set_option linter.unusedSimpArgs false
set_option linter.unusedVariables false
open Go.RowKit Go.Proofs.YtigdpohdihopjaaGreatDoor.ML Go.Proofs.YtigdpohdihopjaaGreatDoor.Samp

set_option maxRecDepth 100000 in
set_option maxHeartbeats 2000000 in
theorem accepts_any (hb : Nat) (N lo hi D o f : Int) (mb kb cb : Nat) (w : World) (v : Value) (hv : mostV N D o f = v) (hH : Hold hb N lo hi mb kb cb w) (hN : N ≤ 36) (h0 : 0 ≤ D) (h1 : D ≤ N) (ho : 0 ≤ o ∧ o ≤ N) :
    Calls Tryz.prog 49 #[.pointer (some ⟨hb, 0, none⟩), .agg #[.int .i64 o, .int .i64 f], .int .i64 D] w fun e w' => e = .returned v ∧ Kept mb w w' := by
  have K0 : Kept mb w ((w.alloc (.cells #[.int .i64 o, .int .i64 f] 47)).alloc (.cells #[.int .i64 0, .int .i64 0] 31)) := ((Kept.refl _ w).alloc _).alloc _
  have c0 : ((w.alloc (.cells #[.int .i64 o, .int .i64 f] 47)).alloc (.cells #[.int .i64 0, .int .i64 0] 31)).cell? ⟨w.heap.size, 0, none⟩ = some (.int .i64 o) := by simp [go_sem]
  have c1 : ((w.alloc (.cells #[.int .i64 o, .int .i64 f] 47)).alloc (.cells #[.int .i64 0, .int .i64 0] 31)).cell? ⟨w.heap.size, 1, none⟩ = some (.int .i64 f) := by simp [go_sem]
  have hT : Two (w.heap.size + 1) (.int .i64 0) (.int .i64 0) ((w.alloc (.cells #[.int .i64 o, .int .i64 f] 47)).alloc (.cells #[.int .i64 0, .int .i64 0] 31)) := ⟨by simp [go_sem], by simp [go_sem], by simp [go_sem], by simp [go_sem]⟩
  have H0 := hH.kept K0
  obtain ⟨px, py, hp⟩ : ∃ px py : Int, mostV N D o f = .agg #[.int .i64 px, .int .i64 py] := ⟨_, _, rfl⟩
  have hmost := Lib.hid (most_any hb N lo hi D o f mb kb cb ((w.alloc (.cells #[.int .i64 o, .int .i64 f] 47)).alloc (.cells #[.int .i64 0, .int .i64 0] 31)) H0 hN h0 h1 ho)
  rw [hp] at hmost hv
  subst hv
  have hne := H0.ctr.memo.ne hT.c0
  have HT := Lib.hid (And.intro hT hne)
  have HK0 := Lib.hid K0
  clear hT hne H0 K0 hH hp
  go_enter Tryz.func49, Tryz.ntmps49
  go_wp2_with fail
  refine hmost.out.mono ?_
  rintro e w5 ⟨rfl, hK5⟩
  have T5 := HT.out.1.kept hK5 HT.out.2
  have r0 := T5.c0
  have r1 := T5.c1
  have r2 := T5.f0
  have r3 := T5.f1
  have hne := HT.out.2
  have hst := Lib.hid (KeptR.store2 (mb := mb) (x := .int .i64 px) (y := .int .i64 py) (by simpa using hne) r0 r1)
  have HK5 := Lib.hid (HK0.out.trans hK5)
  clear hK5 hne T5
  go_wp2_with fail
  have hcell := hst.out.2
  refine bodyPost_ret (v := .agg #[.int .i64 px, .int .i64 py]) ?_ rfl ⟨rfl, ?_⟩
  · simp [results, Tryz.results49, go_sem, hcell]
  · exact KeptR.kept HK5.out hst.out.1 (by omega)

/-- The error of a rule and a number of dirty bags. -/
def ruledE (N lo hi D o f : Int) : Int := firstE [unlessV (drawB N o f) 13, unlessV (inB lo hi [D]) 2]

set_option maxRecDepth 100000 in
set_option maxHeartbeats 2000000 in
theorem accept_a (N lo hi D o f : Int) (w : World) (hc : cargoB N lo hi = false) :
    Calls Tryz.prog 13 #[.agg #[.int .i64 N, .int .i64 lo, .int .i64 hi], .agg #[.int .i64 o, .int .i64 f], .int .i64 D] w fun e w' => e = .returned (.tuple #[.agg #[.int .i64 0, .int .i64 0], .int .i64 10]) ∧ Below w.heap.size w w' := by
  have hB0 : Below w.heap.size w (((w.alloc (.cells #[.int .i64 N, .int .i64 lo, .int .i64 hi] 28)).alloc (.cells #[.int .i64 o, .int .i64 f] 47)).alloc (.cells #[.int .i64 0, .int .i64 0] 31)) := (((Below.refl _ w).alloc (Nat.le_refl _) _).alloc (by simp) _).alloc (by simp; omega) _
  have d0 : (((w.alloc (.cells #[.int .i64 N, .int .i64 lo, .int .i64 hi] 28)).alloc (.cells #[.int .i64 o, .int .i64 f] 47)).alloc (.cells #[.int .i64 0, .int .i64 0] 31)).cell? ⟨w.heap.size + 1, 0, none⟩ = some (.int .i64 o) := by simp [go_sem]
  have d1 : (((w.alloc (.cells #[.int .i64 N, .int .i64 lo, .int .i64 hi] 28)).alloc (.cells #[.int .i64 o, .int .i64 f] 47)).alloc (.cells #[.int .i64 0, .int .i64 0] 31)).cell? ⟨w.heap.size + 1, 1, none⟩ = some (.int .i64 f) := by simp [go_sem]
  have hT : Two (w.heap.size + 1 + 1) (.int .i64 0) (.int .i64 0) (((w.alloc (.cells #[.int .i64 N, .int .i64 lo, .int .i64 hi] 28)).alloc (.cells #[.int .i64 o, .int .i64 f] 47)).alloc (.cells #[.int .i64 0, .int .i64 0] 31)) := ⟨by simp [go_sem], by simp [go_sem], by simp [go_sem], by simp [go_sem]⟩
  have HT := Lib.hid (And.intro hT (And.intro d0 d1))
  have HB0 := Lib.hid hB0
  clear hT hB0 d0 d1
  go_enter Tryz.func13, Tryz.ntmps13
  go_wp2_with fail
  generalize (((w.alloc (.cells #[.int .i64 N, .int .i64 lo, .int .i64 hi] 28)).alloc (.cells #[.int .i64 o, .int .i64 f] 47)).alloc (.cells #[.int .i64 0, .int .i64 0] 31)) = W0 at *
  generalize hbb : w.heap.size = bb at *
  have HBB := Lib.hid hbb
  clear hbb
  have hs0 : bb + 1 + 1 < W0.heap.size := lt_of_cell HT.out.1.c0
  refine (begun_bad N lo hi _ hc).mono ?_
  rintro e w1 ⟨rfl, hB1⟩
  have T1 := HT.out.1.keeps hB1
  have HB1 := Lib.hid (HB0.out.trans (hB1.mono (by omega)))
  clear hB1
  have r0 := T1.c0
  have r1 := T1.c1
  have r2 := T1.f0
  have r3 := T1.f1
  obtain ⟨s0, s1⟩ := two_stores (w := w1) (b := bb + 1 + 1) (.int .i64 0) (.int .i64 0) r0 r1
  have hB9 := Lib.hid ((HB1.out.setCell (p := ⟨bb + 1 + 1, 0, none⟩) (by show bb ≤ bb + 1 + 1; omega) (.int .i64 0)).setCell (p := ⟨bb + 1 + 1, 1, none⟩) (by show bb ≤ bb + 1 + 1; omega) (.int .i64 0))
  go_wp2_with fail
  refine bodyPost_ret (v := .tuple #[.agg #[.int .i64 0, .int .i64 0], .int .i64 10]) ?_ rfl ⟨rfl, ?_⟩
  · simp [results, Tryz.results13, go_sem, s0, s1]
  · have hbb := HBB.out
    subst hbb
    exact hB9.out

set_option maxRecDepth 100000 in
set_option maxHeartbeats 2000000 in
theorem accept_b (N lo hi D o f : Int) (w : World) (hc : cargoB N lo hi = true) (x y z : Int) (hx : Hid (unlessV (drawB N o f) 13 = x)) (hy : Hid (unlessV (inB lo hi [D]) 2 = y)) (hz : Hid (firstE [x, y] = z)) (hz0 : (z != 0) = true) :
    Calls Tryz.prog 13 #[.agg #[.int .i64 N, .int .i64 lo, .int .i64 hi], .agg #[.int .i64 o, .int .i64 f], .int .i64 D] w fun e w' => e = .returned (.tuple #[.agg #[.int .i64 0, .int .i64 0], .int .i64 z]) ∧ Below w.heap.size w w' := by
  have hB0 : Below w.heap.size w (((w.alloc (.cells #[.int .i64 N, .int .i64 lo, .int .i64 hi] 28)).alloc (.cells #[.int .i64 o, .int .i64 f] 47)).alloc (.cells #[.int .i64 0, .int .i64 0] 31)) := (((Below.refl _ w).alloc (Nat.le_refl _) _).alloc (by simp) _).alloc (by simp; omega) _
  have d0 : (((w.alloc (.cells #[.int .i64 N, .int .i64 lo, .int .i64 hi] 28)).alloc (.cells #[.int .i64 o, .int .i64 f] 47)).alloc (.cells #[.int .i64 0, .int .i64 0] 31)).cell? ⟨w.heap.size + 1, 0, none⟩ = some (.int .i64 o) := by simp [go_sem]
  have d1 : (((w.alloc (.cells #[.int .i64 N, .int .i64 lo, .int .i64 hi] 28)).alloc (.cells #[.int .i64 o, .int .i64 f] 47)).alloc (.cells #[.int .i64 0, .int .i64 0] 31)).cell? ⟨w.heap.size + 1, 1, none⟩ = some (.int .i64 f) := by simp [go_sem]
  have hT : Two (w.heap.size + 1 + 1) (.int .i64 0) (.int .i64 0) (((w.alloc (.cells #[.int .i64 N, .int .i64 lo, .int .i64 hi] 28)).alloc (.cells #[.int .i64 o, .int .i64 f] 47)).alloc (.cells #[.int .i64 0, .int .i64 0] 31)) := ⟨by simp [go_sem], by simp [go_sem], by simp [go_sem], by simp [go_sem]⟩
  have HT := Lib.hid (And.intro hT (And.intro d0 d1))
  have HB0 := Lib.hid hB0
  clear hT hB0 d0 d1
  go_enter Tryz.func13, Tryz.ntmps13
  go_wp2_with fail
  generalize (((w.alloc (.cells #[.int .i64 N, .int .i64 lo, .int .i64 hi] 28)).alloc (.cells #[.int .i64 o, .int .i64 f] 47)).alloc (.cells #[.int .i64 0, .int .i64 0] 31)) = W0 at *
  generalize hbb : w.heap.size = bb at *
  have HBB := Lib.hid hbb
  clear hbb
  have hs0 : bb + 1 + 1 < W0.heap.size := lt_of_cell HT.out.1.c0
  refine (begun_ok N lo hi _ hc).mono ?_
  rintro e w1 ⟨hb, mb, kb, cb, rfl, hH, hmb, hhb, hB1⟩
  have HB1 := Lib.hid (HB0.out.trans (hB1.mono (by omega)))
  have HH := Lib.hid (And.intro hH (And.intro hmb hhb))
  have T1 := HT.out.1.keeps hB1
  have e0 := keepsB hB1 HT.out.2.1
  have e1 := keepsB hB1 HT.out.2.2
  have hs1 := hB1.size
  have b0 := hH.bags
  have b1 := hH.lo
  have b2 := hH.hi
  have HT1 := Lib.hid T1
  clear hB1 hH hmb hhb T1
  go_wp2_with fail
  refine (rule_any hb N o f x _ b0 hx.out).mono ?_
  rintro e w2 ⟨rfl, hB2⟩
  have HB2 := Lib.hid (HB1.out.trans (hB2.mono (by omega)))
  have HH2 := Lib.hid (HH.out.1.kept (.of_below hB2))
  have e0 := keepsB hB2 e0
  have e1 := keepsB hB2 e1
  have b1 := keepsB hB2 b1
  have b2 := keepsB hB2 b2
  have HT2 := Lib.hid (HT1.out.keeps hB2)
  have hs2 := hB2.size
  clear hB2 HT1
  go_wp2_with fail
  refine (may_any hb lo hi [D] _ y _ (by simp [maxLen]) (keepsB (belAlloc _ _) b1) (keepsB (belAlloc _ _) b2) (SlI.one _ _ _) hy.out).mono ?_
  rintro e w3 ⟨rfl, hB3⟩
  have hB3 := Below.trans (belAlloc w2 _) (hB3.mono (by simp))
  have HB3 := Lib.hid (HB2.out.trans (hB3.mono (by omega)))
  have HH3 := Lib.hid (HH2.out.kept (.of_below hB3))
  have e0 := keepsB hB3 e0
  have e1 := keepsB hB3 e1
  have HT3 := Lib.hid (HT2.out.keeps hB3)
  have hs3 := hB3.size
  clear hB3 HT2 b0 b1 b2
  go_wp2_with fail
  refine (first_sl [x, y] z _ _ (by simp [maxLen]) hz.out (SlI.two _ _ _ _)).mono ?_
  rintro e w4 ⟨rfl, rfl⟩
  have T1 := HT3.out.keeps (belAlloc w3 (.cells #[.int .i64 x, .int .i64 y] 22))
  have HB1 := Lib.hid (HB3.out.alloc (by omega) (.cells #[.int .i64 x, .int .i64 y] 22))
  have r0 := T1.c0
  have r1 := T1.c1
  have r2 := T1.f0
  have r3 := T1.f1
  obtain ⟨s0, s1⟩ := two_stores (w := w3.alloc (.cells #[.int .i64 x, .int .i64 y] 22)) (b := bb + 1 + 1) (.int .i64 0) (.int .i64 0) r0 r1
  have hB9 := Lib.hid ((HB1.out.setCell (p := ⟨bb + 1 + 1, 0, none⟩) (by show bb ≤ bb + 1 + 1; omega) (.int .i64 0)).setCell (p := ⟨bb + 1 + 1, 1, none⟩) (by show bb ≤ bb + 1 + 1; omega) (.int .i64 0))
  go_wp2_with fail
  refine bodyPost_ret (v := .tuple #[.agg #[.int .i64 0, .int .i64 0], .int .i64 z]) ?_ rfl ⟨rfl, ?_⟩
  · simp [results, Tryz.results13, go_sem, s0, s1]
  · have hbb := HBB.out
    subst hbb
    exact hB9.out

set_option maxRecDepth 100000 in
set_option maxHeartbeats 2000000 in
theorem accept_c (N lo hi D o f : Int) (w : World) (hc : cargoB N lo hi = true) (hd : drawB N o f = true) (hm : inB lo hi [D] = true) :
    Calls Tryz.prog 13 #[.agg #[.int .i64 N, .int .i64 lo, .int .i64 hi], .agg #[.int .i64 o, .int .i64 f], .int .i64 D] w fun e w' => e = .returned (.tuple #[mostV N D o f, .int .i64 0]) ∧ Below w.heap.size w w' := by
  have hN := (cargoB_iff N lo hi).1 hc
  have hD := (drawB_iff N o f).1 hd
  have hM : lo ≤ D ∧ D ≤ hi := by simpa [inB] using hm
  have hx : Hid (unlessV (drawB N o f) 13 = 0) := by simp [Hid, unlessV, hd]
  have hy : Hid (unlessV (inB lo hi [D]) 2 = 0) := by simp [Hid, unlessV, hm]
  have hz : Hid (firstE [0, 0] = 0) := by simp [Hid, firstE]
  have hB0 : Below w.heap.size w (((w.alloc (.cells #[.int .i64 N, .int .i64 lo, .int .i64 hi] 28)).alloc (.cells #[.int .i64 o, .int .i64 f] 47)).alloc (.cells #[.int .i64 0, .int .i64 0] 31)) := (((Below.refl _ w).alloc (Nat.le_refl _) _).alloc (by simp) _).alloc (by simp; omega) _
  have d0 : (((w.alloc (.cells #[.int .i64 N, .int .i64 lo, .int .i64 hi] 28)).alloc (.cells #[.int .i64 o, .int .i64 f] 47)).alloc (.cells #[.int .i64 0, .int .i64 0] 31)).cell? ⟨w.heap.size + 1, 0, none⟩ = some (.int .i64 o) := by simp [go_sem]
  have d1 : (((w.alloc (.cells #[.int .i64 N, .int .i64 lo, .int .i64 hi] 28)).alloc (.cells #[.int .i64 o, .int .i64 f] 47)).alloc (.cells #[.int .i64 0, .int .i64 0] 31)).cell? ⟨w.heap.size + 1, 1, none⟩ = some (.int .i64 f) := by simp [go_sem]
  have hT : Two (w.heap.size + 1 + 1) (.int .i64 0) (.int .i64 0) (((w.alloc (.cells #[.int .i64 N, .int .i64 lo, .int .i64 hi] 28)).alloc (.cells #[.int .i64 o, .int .i64 f] 47)).alloc (.cells #[.int .i64 0, .int .i64 0] 31)) := ⟨by simp [go_sem], by simp [go_sem], by simp [go_sem], by simp [go_sem]⟩
  have HT := Lib.hid (And.intro hT (And.intro d0 d1))
  have HB0 := Lib.hid hB0
  clear hT hB0 d0 d1
  go_enter Tryz.func13, Tryz.ntmps13
  go_wp2_with fail
  generalize (((w.alloc (.cells #[.int .i64 N, .int .i64 lo, .int .i64 hi] 28)).alloc (.cells #[.int .i64 o, .int .i64 f] 47)).alloc (.cells #[.int .i64 0, .int .i64 0] 31)) = W0 at *
  generalize hbb : w.heap.size = bb at *
  have HBB := Lib.hid hbb
  clear hbb
  have hs0 : bb + 1 + 1 < W0.heap.size := lt_of_cell HT.out.1.c0
  refine (begun_ok N lo hi _ hc).mono ?_
  rintro e w1 ⟨hb, mb, kb, cb, rfl, hH, hmb, hhb, hB1⟩
  have HB1 := Lib.hid (HB0.out.trans (hB1.mono (by omega)))
  have HH := Lib.hid (And.intro hH (And.intro hmb hhb))
  have T1 := HT.out.1.keeps hB1
  have e0 := keepsB hB1 HT.out.2.1
  have e1 := keepsB hB1 HT.out.2.2
  have hs1 := hB1.size
  have b0 := hH.bags
  have b1 := hH.lo
  have b2 := hH.hi
  have HT1 := Lib.hid T1
  clear hB1 hH hmb hhb T1
  go_wp2_with fail
  refine (rule_any hb N o f 0 _ b0 hx.out).mono ?_
  rintro e w2 ⟨rfl, hB2⟩
  have HB2 := Lib.hid (HB1.out.trans (hB2.mono (by omega)))
  have HH2 := Lib.hid (HH.out.1.kept (.of_below hB2))
  have e0 := keepsB hB2 e0
  have e1 := keepsB hB2 e1
  have b1 := keepsB hB2 b1
  have b2 := keepsB hB2 b2
  have HT2 := Lib.hid (HT1.out.keeps hB2)
  have hs2 := hB2.size
  clear hB2 HT1
  go_wp2_with fail
  refine (may_any hb lo hi [D] _ 0 _ (by simp [maxLen]) (keepsB (belAlloc _ _) b1) (keepsB (belAlloc _ _) b2) (SlI.one _ _ _) hy.out).mono ?_
  rintro e w3 ⟨rfl, hB3⟩
  have hB3 := Below.trans (belAlloc w2 _) (hB3.mono (by simp))
  have HB3 := Lib.hid (HB2.out.trans (hB3.mono (by omega)))
  have HH3 := Lib.hid (HH2.out.kept (.of_below hB3))
  have e0 := keepsB hB3 e0
  have e1 := keepsB hB3 e1
  have HT3 := Lib.hid (HT2.out.keeps hB3)
  have hs3 := hB3.size
  clear hB3 HT2 b0 b1 b2
  go_wp2_with fail
  refine (first_sl [0, 0] 0 _ _ (by simp [maxLen]) hz.out (SlI.two _ _ _ _)).mono ?_
  rintro e w4 ⟨rfl, rfl⟩
  obtain ⟨px, py, hp⟩ : ∃ px py : Int, mostV N D o f = .agg #[.int .i64 px, .int .i64 py] := ⟨_, _, rfl⟩
  have HP := Lib.hid hp
  clear hp
  have HK4 : Kept mb w3 (w3.alloc (.cells #[.int .i64 0, .int .i64 0] 22)) := (Kept.refl _ _).alloc _
  have HT4 := HT3.out.keeps (belAlloc w3 (.cells #[.int .i64 0, .int .i64 0] 22))
  have HB4 := Lib.hid (HB3.out.alloc (by omega) (.cells #[.int .i64 0, .int .i64 0] 22))
  have HH4 := Lib.hid (HH3.out.kept HK4)
  have e0 := HK4.cell e0 (HH3.out.ctr.memo.ne e0)
  have e1 := HK4.cell e1 (HH3.out.ctr.memo.ne e1)
  have g0 := HH4.out.bags
  have g3 := HH4.out.sets
  have nes : Hid (bb + 1 + 1 ≠ mb ∧ kb ≠ bb + 1 + 1 ∧ cb ≠ bb + 1 + 1 ∧ hb ≠ bb + 1 + 1 ∧ bb + 1 ≠ mb) := by
    have m := HH4.out.ctr.memo
    refine ⟨m.ne HT4.c0, ?_, ?_, ?_, m.ne e0⟩
    · intro e; have := HT4.c0; rw [← e, HH4.out.ctr.known] at this; cases this
    · intro e; have := HT4.c0; rw [← e, HH4.out.ctr.count] at this; cases this
    · have := HH.out.2.2; omega
  have hs4 : bb + 1 + 1 < (w3.alloc (.cells #[.int .i64 0, .int .i64 0] 22)).heap.size := lt_of_cell HT4.c0
  have HT5 := Lib.hid HT4
  clear HK4 HT4
  go_wp2_with fail
  have hmost : Hid (Calls Tryz.prog 49 #[.pointer (some ⟨hb, 0, none⟩), .agg #[.int .i64 o, .int .i64 f], .int .i64 D] (w3.alloc (.cells #[.int .i64 0, .int .i64 0] 22)) fun e w' => e = .returned (.agg #[.int .i64 px, .int .i64 py]) ∧ Kept mb (w3.alloc (.cells #[.int .i64 0, .int .i64 0] 22)) w') := by
    exact accepts_any hb N lo hi D o f mb kb cb _ _ HP.out HH4.out (by omega) (by omega) (by omega) (by omega)
  refine hmost.out.mono ?_
  rintro e w5 ⟨rfl, hK5⟩
  have T5 := HT5.out.kept hK5 nes.out.1
  have r0 := T5.c0
  have r1 := T5.c1
  have r2 := T5.f0
  have r3 := T5.f1
  have hst := Lib.hid (KeptR.store2 (mb := mb) (x := .int .i64 px) (y := .int .i64 py) nes.out.1 r0 r1)
  have HK5 := Lib.hid hK5
  clear hK5
  go_wp2_with fail
  have hcell := hst.out.2
  refine bodyPost_ret (v := .tuple #[.agg #[.int .i64 px, .int .i64 py], .int .i64 0]) ?_ rfl ⟨?_, ?_⟩
  · simp [results, Tryz.results13, go_sem, hcell]
  · rw [HP.out]
  · have hbb := HBB.out
    subst hbb
    have hR := hst.out.1
    have hsz := HB4.out.size
    have hsz5 := HK5.out.size
    have hm := HH.out.2.1
    exact ⟨hR.os.trans (HK5.out.os.trans HB4.out.os), hR.tape.trans (HK5.out.tape.trans HB4.out.tape), hR.output.trans (HK5.out.output.trans HB4.out.output), by have := hR.size; omega, fun k hk => (hR.block k (by omega) (by omega) (by omega)).trans ((HK5.out.block k (by omega) (by omega)).trans (HB4.out.block k hk))⟩

theorem accept_any (N lo hi D o f : Int) (w : World) :
    Calls Tryz.prog 13 #[.agg #[.int .i64 N, .int .i64 lo, .int .i64 hi], .agg #[.int .i64 o, .int .i64 f], .int .i64 D] w fun e w' => e = .returned (.tuple (if cargoB N lo hi = false then #[zeroPart, .int .i64 10] else if ruledE N lo hi D o f ≠ 0 then #[zeroPart, .int .i64 (ruledE N lo hi D o f)] else #[mostV N D o f, .int .i64 0])) ∧ Below w.heap.size w w' := by
  cases hc : cargoB N lo hi
  · simpa [zeroPart] using accept_a N lo hi D o f w hc
  · by_cases hz : ruledE N lo hi D o f = 0
    · have hd : drawB N o f = true := by
        cases h : drawB N o f
        · simp [ruledE, h, unlessV, firstE] at hz
        · rfl
      have hm : inB lo hi [D] = true := by
        cases h : inB lo hi [D]
        · simp [ruledE, hd, h, unlessV, firstE] at hz
        · rfl
      simpa [hz] using accept_c N lo hi D o f w hc hd hm
    · rw [if_neg (by simp), if_pos hz]
      exact accept_b N lo hi D o f w hc _ _ _ rfl rfl rfl (by show (ruledE N lo hi D o f != 0) = true; simpa using hz)

end Go.Proofs.YtigdpohdihopjaaGreatDoor

/- Rules: whether a rule is good. -/
namespace Go.Proofs.YtigdpohdihopjaaGreatDoor
set_option linter.unusedSimpArgs false
set_option linter.unusedVariables false
open Go.RowKit Go.Proofs.YtigdpohdihopjaaGreatDoor.ML Go.Proofs.YtigdpohdihopjaaGreatDoor.Samp

/-- Whether a rule is good. -/
def fineB (N g b o a sn sd bn bd : Int) : Bool := decide ((chI N o - mostI N g o a) * sd ≤ chI N o * sn) && decide (mostI N b o a * bd ≤ chI N o * bn)

theorem lowest_spec (n d : Nat) (hd : 0 < d) : ∃ c : Nat, 0 < c ∧ n = c * (lowest n d).1 ∧ d = c * (lowest n d).2 :=
  ⟨Nat.gcd n d, Nat.gcd_pos_of_pos_right n hd, (Nat.mul_div_cancel' (Nat.gcd_dvd_left n d)).symm, (Nat.mul_div_cancel' (Nat.gcd_dvd_right n d)).symm⟩
theorem mostI_bound (N D o f : Int) (hN : N ≤ 36) (h0 : 0 ≤ D) (h1 : D ≤ N) (ho : 0 ≤ o ∧ o ≤ N) : 0 ≤ mostI N D o f ∧ mostI N D o f ≤ 2542620639232 := by
  have key : ∀ n : Nat, 0 ≤ midI N D o (oneTo f) n ∧ midI N D o (oneTo f) n ≤ n * 68719476736 := by
    intro n
    induction n with
    | zero => simp [midI]
    | succ n ih =>
      have hw := waysI_bound N D o n hN h0 h1
      have h01 : oneTo f n = 0 ∨ oneTo f n = 1 := by unfold oneTo; split <;> simp
      rw [midI]
      rcases h01 with h | h
      · rw [h, Int.zero_mul]; omega
      · rw [h, Int.one_mul]; omega
  have := key (o + 1).toNat
  unfold mostI
  omega
/-- The chance that a rule accepts, as a fraction that is the given one. -/
theorem mostV_spec (N D o f : Int) (hN : N ≤ 36) (h0 : 0 ≤ D) (h1 : D ≤ N) (ho : 0 ≤ o ∧ o ≤ N) : ∃ c p q : Int, mostV N D o f = .agg #[.int .i64 p, .int .i64 q] ∧ 0 < c ∧ mostI N D o f = c * p ∧ chI N o = c * q ∧ 0 ≤ p ∧ p ≤ 2542620639232 ∧ 1 ≤ q ∧ q ≤ 68719476736 := by
  have hA := chI_pos N o (by omega) hN ho.1 ho.2
  have hM := mostI_bound N D o f hN h0 h1 ho
  obtain ⟨c, hc, e1, e2⟩ := lowest_spec (mostI N D o f).toNat (chI N o).toNat (by omega)
  refine ⟨c, _, _, rfl, by omega, ?_, ?_, by omega, ?_, ?_, ?_⟩
  · have : ((mostI N D o f).toNat : Int) = mostI N D o f := Int.toNat_of_nonneg hM.1
    rw [← this]; exact_mod_cast e1
  · have : ((chI N o).toNat : Int) = chI N o := Int.toNat_of_nonneg (by omega)
    rw [← this]; exact_mod_cast e2
  · have : (lowest (mostI N D o f).toNat (chI N o).toNat).1 ≤ (mostI N D o f).toNat := by
      conv => rhs; rw [e1]
      exact Nat.le_mul_of_pos_left _ hc
    omega
  · have : (lowest (mostI N D o f).toNat (chI N o).toNat).2 ≠ 0 := by
      intro e; rw [e] at e2; omega
    omega
  · have : (lowest (mostI N D o f).toNat (chI N o).toNat).2 ≤ (chI N o).toNat := by
      conv => rhs; rw [e2]
      exact Nat.le_mul_of_pos_left _ hc
    omega
theorem refuse_eq (c p q sn sd : Int) (hc : 0 < c) : decide ((c * q - c * p) * sd ≤ c * q * sn) = decide ((q - p) * sd ≤ sn * q) := by
  rw [show (c * q - c * p) * sd = c * ((q - p) * sd) by rw [← Int.mul_sub, Int.mul_assoc], show c * q * sn = c * (sn * q) by rw [Int.mul_assoc, Int.mul_comm q sn], decide_eq_decide]
  exact Int.mul_le_mul_left hc
theorem accept_eq (c p q bn bd : Int) (hc : 0 < c) : decide (c * p * bd ≤ c * q * bn) = decide (p * bd ≤ bn * q) := by
  rw [show c * p * bd = c * (p * bd) by rw [Int.mul_assoc], show c * q * bn = c * (bn * q) by rw [Int.mul_assoc, Int.mul_comm q bn], decide_eq_decide]
  exact Int.mul_le_mul_left hc
theorem bigI (x y B : Int) (hx : 0 - B ≤ x ∧ x ≤ B) (hy : 0 ≤ y ∧ y ≤ 1000) (hB : 0 ≤ B ∧ B ≤ 3000000000000) : -3000000000000000 ≤ x * y ∧ x * y ≤ 3000000000000000 := by
  obtain ⟨k, rfl⟩ := Int.eq_ofNat_of_zero_le hy.1
  have h1 : x * k ≤ B * k := Int.mul_le_mul_of_nonneg_right hx.2 (by omega)
  have h2 : (0 - B) * k ≤ x * k := Int.mul_le_mul_of_nonneg_right hx.1 (by omega)
  have h3 : B * k ≤ B * 1000 := Int.mul_le_mul_of_nonneg_left hy.2 hB.1
  have h4 : (0 - B) * k = - (B * k) := by rw [Int.sub_mul]; omega
  omega

set_option maxRecDepth 100000 in
set_option maxHeartbeats 2000000 in
theorem fine_any (hb : Nat) (N lo hi g b o a sn sd bn bd : Int) (mb kb cb : Nat) (r : Bool) (w : World) (hH : Hold hb N lo hi mb kb cb w) (hN : N ≤ 36) (hg : 0 ≤ g ∧ g ≤ N) (hb' : 0 ≤ b ∧ b ≤ N) (ho : 0 ≤ o ∧ o ≤ N)
    (hs : givenB sn sd = true) (hq : givenB bn bd = true) (hr : fineB N g b o a sn sd bn bd = r) :
    Calls Tryz.prog 51 #[.pointer (some ⟨hb, 0, none⟩), .agg #[.int .i64 o, .int .i64 a], .int .i64 g, .int .i64 b, .agg #[.int .i64 sn, .int .i64 sd], .agg #[.int .i64 bn, .int .i64 bd]] w fun e w' => e = .returned (.bool r) ∧ Kept mb w w' := by
  obtain ⟨c1, p1, q1, hv1, hc1, e1, e2, b1, b2, b3, b4⟩ := mostV_spec N g o a hN hg.1 hg.2 ho
  obtain ⟨c2, p2, q2, hv2, hc2, e3, e4, b5, b6, b7, b8⟩ := mostV_spec N b o a hN hb'.1 hb'.2 ho
  have hr' : (decide ((q1 - p1) * sd ≤ sn * q1) && decide (p2 * bd ≤ bn * q2)) = r := by
    rw [← hr, fineB, ← refuse_eq c1 p1 q1 sn sd hc1, ← accept_eq c2 p2 q2 bn bd hc2, ← e1, ← e2, ← e3, ← e4]
  have hG := (givenB_iff sn sd).1 hs
  have hG2 := (givenB_iff bn bd).1 hq
  have m1 := Lib.hid (bigI (q1 - p1) sd 3000000000000 (by omega) (by omega) (by omega))
  have m2 := Lib.hid (show -3000000000000000 ≤ sn * q1 ∧ sn * q1 ≤ 3000000000000000 by rw [Int.mul_comm]; exact bigI q1 sn 3000000000000 (by omega) (by omega) (by omega))
  have m3 := Lib.hid (bigI p2 bd 3000000000000 (by omega) (by omega) (by omega))
  have m4 := Lib.hid (show -3000000000000000 ≤ bn * q2 ∧ bn * q2 ≤ 3000000000000000 by rw [Int.mul_comm]; exact bigI q2 bn 3000000000000 (by omega) (by omega) (by omega))
  have BQ := Lib.hid (And.intro b1 (And.intro b2 (And.intro b3 b4)))
  have HR := Lib.hid hr'
  have HV := Lib.hid (And.intro hv1 hv2)
  have K0 : Kept mb w (((w.alloc (.cells #[.int .i64 o, .int .i64 a] 47)).alloc (.cells #[.int .i64 sn, .int .i64 sd] 31)).alloc (.cells #[.int .i64 bn, .int .i64 bd] 31)) := (((Kept.refl _ w).alloc _).alloc _).alloc _
  have H0 := hH.kept K0
  have d0 : (((w.alloc (.cells #[.int .i64 o, .int .i64 a] 47)).alloc (.cells #[.int .i64 sn, .int .i64 sd] 31)).alloc (.cells #[.int .i64 bn, .int .i64 bd] 31)).cell? ⟨w.heap.size, 0, none⟩ = some (.int .i64 o) := by simp [go_sem]
  have d1 : (((w.alloc (.cells #[.int .i64 o, .int .i64 a] 47)).alloc (.cells #[.int .i64 sn, .int .i64 sd] 31)).alloc (.cells #[.int .i64 bn, .int .i64 bd] 31)).cell? ⟨w.heap.size, 1, none⟩ = some (.int .i64 a) := by simp [go_sem]
  have d2 : (((w.alloc (.cells #[.int .i64 o, .int .i64 a] 47)).alloc (.cells #[.int .i64 sn, .int .i64 sd] 31)).alloc (.cells #[.int .i64 bn, .int .i64 bd] 31)).cell? ⟨w.heap.size + 1, 0, none⟩ = some (.int .i64 sn) := by simp [go_sem]
  have d3 : (((w.alloc (.cells #[.int .i64 o, .int .i64 a] 47)).alloc (.cells #[.int .i64 sn, .int .i64 sd] 31)).alloc (.cells #[.int .i64 bn, .int .i64 bd] 31)).cell? ⟨w.heap.size + 1, 1, none⟩ = some (.int .i64 sd) := by simp [go_sem]
  have d4 : (((w.alloc (.cells #[.int .i64 o, .int .i64 a] 47)).alloc (.cells #[.int .i64 sn, .int .i64 sd] 31)).alloc (.cells #[.int .i64 bn, .int .i64 bd] 31)).cell? ⟨w.heap.size + 1 + 1, 0, none⟩ = some (.int .i64 bn) := by simp [go_sem]
  have d5 : (((w.alloc (.cells #[.int .i64 o, .int .i64 a] 47)).alloc (.cells #[.int .i64 sn, .int .i64 sd] 31)).alloc (.cells #[.int .i64 bn, .int .i64 bd] 31)).cell? ⟨w.heap.size + 1 + 1, 1, none⟩ = some (.int .i64 bd) := by simp [go_sem]
  have HC := Lib.hid (And.intro d0 (And.intro d1 (And.intro d2 (And.intro d3 (And.intro d4 d5)))))
  have HNE := Lib.hid (And.intro (H0.ctr.memo.ne d0) (And.intro (H0.ctr.memo.ne d2) (H0.ctr.memo.ne d4)))
  have HK0 := Lib.hid K0
  have HH0 := Lib.hid H0
  have HRG := Lib.hid (And.intro hN (And.intro hg (And.intro hb' ho)))
  clear hv1 hv2 e1 e2 e3 e4 hc1 hc2 hr hr' hs hq hG hG2 b1 b2 b3 b4 b5 b6 b7 b8 K0 H0 d0 d1 d2 d3 d4 d5 hH hN hg hb' ho
  go_enter Tryz.func51, Tryz.ntmps51
  go_wp2_with fail
  generalize (((w.alloc (.cells #[.int .i64 o, .int .i64 a] 47)).alloc (.cells #[.int .i64 sn, .int .i64 sd] 31)).alloc (.cells #[.int .i64 bn, .int .i64 bd] 31)) = W0 at *
  generalize hbb : w.heap.size = bb at *
  have HBB := Lib.hid hbb
  clear hbb
  have hF : ∀ W, KeptB W0.heap.size mb W0.drew W → Hold hb N lo hi mb kb cb W ∧ W.cell? ⟨bb, 0, none⟩ = some (.int .i64 o) ∧ W.cell? ⟨bb, 1, none⟩ = some (.int .i64 a) ∧ W0.heap.size ≤ W.heap.size ∧ mb < W.heap.size := fun W hW => by
    have hK : Kept mb W0.drew W := hW.kept (Nat.le_refl _)
    have hH : Hold hb N lo hi mb kb cb W := (HH0.out.kept (Kept.drew (Kept.refl _ _))).kept hK
    obtain ⟨l, hl, _⟩ := hH.ctr.memo
    exact ⟨hH, hK.cell HC.out.1 HNE.out.1, hK.cell HC.out.2.1 HNE.out.1, hW.size, hl.lt⟩
  refine Free2.wp_free (R := KeptB W0.heap.size mb) (J := J2 mb W0.heap.size 8 10 9 11 (.int .i64 0) (.int .i64 0) (.int .i64 p1) (.int .i64 q1) (.int .i64 p2) (.int .i64 q2)) (by kernel_rfl) (by kernel_rfl) (KeptB.refl _ _) (fun _ _ _ => KeptB.trans) J2.start ?_
  refine Free2.Chain.ex ?_ 0 rfl [] [0] (by kernel_rfl) (by kernel_rfl) rfl (KeptB.refl _ _) (fun X W v h => J2.skip h 0 v (show (0 : Nat) ≠ 8 by decide) (show (0 : Nat) ≠ 10 by decide) (show (0 : Nat) ≠ 9 by decide) (show (0 : Nat) ≠ 11 by decide)) ?_ ?_
  rotate_left
  · (intro ev W hb hR hO hD; have hS := hF W hR; obtain ⟨hb1, hb2, hb3⟩ := hb; simp only [Free.AllDeps, Free.AllOuts, Free.At, List.getElem?_cons_succ, List.getElem?_cons_zero, Array.getD_eq_getD_getElem?, List.getElem?_toArray, Option.getD_some, and_true] at hO hD; go_simp; rfl)
  simp only [List.nil_append, List.cons_append]
  refine Free2.Chain.ex ?_ 1 rfl [] [7] (by kernel_rfl) (by kernel_rfl) rfl (KeptB.refl _ _) (fun X W v h => J2.skip h 1 v (show (1 : Nat) ≠ 8 by decide) (show (1 : Nat) ≠ 10 by decide) (show (1 : Nat) ≠ 9 by decide) (show (1 : Nat) ≠ 11 by decide)) ?_ ?_
  rotate_left
  · (intro ev W hb hR hO hD; have hS := hF W hR; obtain ⟨hb1, hb2, hb3⟩ := hb; simp only [Free.AllDeps, Free.AllOuts, Free.At, List.getElem?_cons_succ, List.getElem?_cons_zero, Array.getD_eq_getD_getElem?, List.getElem?_toArray, Option.getD_some, and_true] at hO hD; go_simp; rfl)
  simp only [List.nil_append, List.cons_append]
  refine Free2.Chain.ex ?_ 2 rfl [] [2] (by kernel_rfl) (by kernel_rfl) rfl (KeptB.refl _ _) (fun X W v h => J2.skip h 2 v (show (2 : Nat) ≠ 8 by decide) (show (2 : Nat) ≠ 10 by decide) (show (2 : Nat) ≠ 9 by decide) (show (2 : Nat) ≠ 11 by decide)) ?_ ?_
  rotate_left
  · (intro ev W hb hR hO hD; have hS := hF W hR; obtain ⟨hb1, hb2, hb3⟩ := hb; simp only [Free.AllDeps, Free.AllOuts, Free.At, List.getElem?_cons_succ, List.getElem?_cons_zero, Array.getD_eq_getD_getElem?, List.getElem?_toArray, Option.getD_some, and_true] at hO hD; go_simp; rfl)
  simp only [List.nil_append, List.cons_append]
  refine Free2.Chain.pr (fun v _ => v = .agg #[.int .i64 p1, .int .i64 q1]) 3 rfl [(0, 15), (1, 16), (2, 17)] [] (by kernel_rfl) (by kernel_rfl) rfl (fun _ _ _ _ h => h) ?_ ?_
  · (intro ev W X hb hR hO hD hj hx hax; have hS := hF W hR; obtain ⟨hb1, hb2, hb3⟩ := hb; simp only [Free.AllDeps, Free.AllOuts, Free.At, List.getElem?_cons_succ, List.getElem?_cons_zero, Array.getD_eq_getD_getElem?, List.getElem?_toArray, Option.getD_some, and_true] at hO hD; simp only [Free2.AllX, and_true] at hax; go_simp; refine (accepts_any hb N lo hi g o a mb kb cb _ _ HV.out.1 hS.1 HRG.out.1 HRG.out.2.1.1 HRG.out.2.1.2 HRG.out.2.2.2).mono ?_; rintro e W1 ⟨rfl, hK1⟩; exact ⟨_, rfl, KeptB.of_kept hK1 hS.2.2.2.1, rfl, (hj.kept hK1).skip 3 _ (show (3 : Nat) ≠ 8 by decide) (show (3 : Nat) ≠ 10 by decide) (show (3 : Nat) ≠ 9 by decide) (show (3 : Nat) ≠ 11 by decide)⟩)
  simp only [List.nil_append, List.cons_append]
  refine Free2.Chain.ex ?_ 4 rfl [] [0] (by kernel_rfl) (by kernel_rfl) rfl (KeptB.refl _ _) (fun X W v h => J2.skip h 4 v (show (4 : Nat) ≠ 8 by decide) (show (4 : Nat) ≠ 10 by decide) (show (4 : Nat) ≠ 9 by decide) (show (4 : Nat) ≠ 11 by decide)) ?_ ?_
  rotate_left
  · (intro ev W hb hR hO hD; have hS := hF W hR; obtain ⟨hb1, hb2, hb3⟩ := hb; simp only [Free.AllDeps, Free.AllOuts, Free.At, List.getElem?_cons_succ, List.getElem?_cons_zero, Array.getD_eq_getD_getElem?, List.getElem?_toArray, Option.getD_some, and_true] at hO hD; go_simp; rfl)
  simp only [List.nil_append, List.cons_append]
  refine Free2.Chain.ex ?_ 5 rfl [] [7] (by kernel_rfl) (by kernel_rfl) rfl (KeptB.refl _ _) (fun X W v h => J2.skip h 5 v (show (5 : Nat) ≠ 8 by decide) (show (5 : Nat) ≠ 10 by decide) (show (5 : Nat) ≠ 9 by decide) (show (5 : Nat) ≠ 11 by decide)) ?_ ?_
  rotate_left
  · (intro ev W hb hR hO hD; have hS := hF W hR; obtain ⟨hb1, hb2, hb3⟩ := hb; simp only [Free.AllDeps, Free.AllOuts, Free.At, List.getElem?_cons_succ, List.getElem?_cons_zero, Array.getD_eq_getD_getElem?, List.getElem?_toArray, Option.getD_some, and_true] at hO hD; go_simp; rfl)
  simp only [List.nil_append, List.cons_append]
  refine Free2.Chain.ex ?_ 6 rfl [] [3] (by kernel_rfl) (by kernel_rfl) rfl (KeptB.refl _ _) (fun X W v h => J2.skip h 6 v (show (6 : Nat) ≠ 8 by decide) (show (6 : Nat) ≠ 10 by decide) (show (6 : Nat) ≠ 9 by decide) (show (6 : Nat) ≠ 11 by decide)) ?_ ?_
  rotate_left
  · (intro ev W hb hR hO hD; have hS := hF W hR; obtain ⟨hb1, hb2, hb3⟩ := hb; simp only [Free.AllDeps, Free.AllOuts, Free.At, List.getElem?_cons_succ, List.getElem?_cons_zero, Array.getD_eq_getD_getElem?, List.getElem?_toArray, Option.getD_some, and_true] at hO hD; go_simp; rfl)
  simp only [List.nil_append, List.cons_append]
  refine Free2.Chain.pr (fun v _ => v = .agg #[.int .i64 p2, .int .i64 q2]) 7 rfl [(4, 19), (5, 20), (6, 21), (3, 18)] [] (by kernel_rfl) (by kernel_rfl) rfl (fun _ _ _ _ h => h) ?_ ?_
  · (intro ev W X hb hR hO hD hj hx hax; have hS := hF W hR; obtain ⟨hb1, hb2, hb3⟩ := hb; simp only [Free.AllDeps, Free.AllOuts, Free.At, List.getElem?_cons_succ, List.getElem?_cons_zero, Array.getD_eq_getD_getElem?, List.getElem?_toArray, Option.getD_some, and_true] at hO hD; simp only [Free2.AllX, and_true] at hax; go_simp; refine (accepts_any hb N lo hi b o a mb kb cb _ _ HV.out.2 hS.1 HRG.out.1 HRG.out.2.2.1.1 HRG.out.2.2.1.2 HRG.out.2.2.2).mono ?_; rintro e W1 ⟨rfl, hK1⟩; exact ⟨_, rfl, KeptB.of_kept hK1 hS.2.2.2.1, rfl, (hj.kept hK1).skip 7 _ (show (7 : Nat) ≠ 8 by decide) (show (7 : Nat) ≠ 10 by decide) (show (7 : Nat) ≠ 9 by decide) (show (7 : Nat) ≠ 11 by decide)⟩)
  simp only [List.nil_append, List.cons_append]
  refine Free2.Chain.pr (fun v _ => ∃ b, v = ptr b) 8 rfl [] [] (by kernel_rfl) (by kernel_rfl) rfl (fun _ _ _ _ h => h) ?_ ?_
  · (intro ev W X hb hR hO hD hj hx hax; have hS := hF W hR; obtain ⟨hb1, hb2, hb3⟩ := hb; simp only [Free.AllDeps, Free.AllOuts, Free.At, List.getElem?_cons_succ, List.getElem?_cons_zero, Array.getD_eq_getD_getElem?, List.getElem?_toArray, Option.getD_some, and_true] at hO hD; simp only [Free2.AllX, and_true] at hax; go_simp; exact ⟨KeptB.of_kept ((Kept.refl _ _).alloc _) hS.2.2.2.1, ⟨_, rfl⟩, hj.new1 _ (by decide) (by decide) (by decide) hx hS.2.2.2.1 hS.2.2.2.2⟩)
  simp only [List.nil_append, List.cons_append]
  refine Free2.Chain.pr (fun v _ => ∃ b, v = ptr b) 9 rfl [] [] (by kernel_rfl) (by kernel_rfl) rfl (fun _ _ _ _ h => h) ?_ ?_
  · (intro ev W X hb hR hO hD hj hx hax; have hS := hF W hR; obtain ⟨hb1, hb2, hb3⟩ := hb; simp only [Free.AllDeps, Free.AllOuts, Free.At, List.getElem?_cons_succ, List.getElem?_cons_zero, Array.getD_eq_getD_getElem?, List.getElem?_toArray, Option.getD_some, and_true] at hO hD; simp only [Free2.AllX, and_true] at hax; go_simp; exact ⟨KeptB.of_kept ((Kept.refl _ _).alloc _) hS.2.2.2.1, ⟨_, rfl⟩, hj.new2 _ (by decide) (by decide) (by decide) hx hS.2.2.2.1 hS.2.2.2.2⟩)
  simp only [List.nil_append, List.cons_append]
  refine Free2.Chain.pr (fun _ _ => True) 10 rfl [(8, 13), (3, 18), (7, 22), (0, 15), (1, 16), (2, 17), (3, 18), (8, 13), (9, 14)] [] (by kernel_rfl) (by kernel_rfl) rfl (fun _ _ _ _ h => h) ?_ ?_
  · (intro ev W X hb hR hO hD hj hx hax; have hS := hF W hR; obtain ⟨hb1, hb2, hb3⟩ := hb; simp only [Free.AllDeps, Free.AllOuts, Free.At, List.getElem?_cons_succ, List.getElem?_cons_zero, Array.getD_eq_getD_getElem?, List.getElem?_toArray, Option.getD_some, and_true] at hO hD; simp only [Free2.AllX, and_true] at hax; obtain ⟨b, hb9, ht, hkb, hjj⟩ := hj.at1 (by decide) (by decide) (by decide) hax.1 hx; have t0 := ht.c0; have t1 := ht.c1; have t2 := ht.f0; have t3 := ht.f1; have hv := hD.2.1; go_simp; exact ⟨hkb, hjj _⟩)
  simp only [List.nil_append, List.cons_append]
  refine Free2.Chain.pr (fun _ _ => True) 11 rfl [(9, 14), (7, 22), (0, 15), (1, 16), (2, 17), (3, 18), (4, 19), (5, 20), (6, 21), (7, 22), (8, 13), (9, 14)] [] (by kernel_rfl) (by kernel_rfl) rfl (fun _ _ _ _ h => h) ?_ ?_
  · (intro ev W X hb hR hO hD hj hx hax; have hS := hF W hR; obtain ⟨hb1, hb2, hb3⟩ := hb; simp only [Free.AllDeps, Free.AllOuts, Free.At, List.getElem?_cons_succ, List.getElem?_cons_zero, Array.getD_eq_getD_getElem?, List.getElem?_toArray, Option.getD_some, and_true] at hO hD; simp only [Free2.AllX, and_true] at hax; obtain ⟨b, hb9, ht, hkb, hjj⟩ := hj.at2 (by decide) (by decide) (by decide) hax.1 hx; have t0 := ht.c0; have t1 := ht.c1; have t2 := ht.f0; have t3 := ht.f1; have hv := hD.2.1; go_simp; exact ⟨hkb, hjj _⟩)
  simp only [List.nil_append, List.cons_append]
  intro xs w5 hR hV hX
  obtain ⟨X, hj, hx⟩ := hX
  obtain ⟨x1, x2, h1, h2, T1, T2⟩ := hj.done (hx 8 (show (8 : Nat) < 12 by decide)) (hx 9 (show (9 : Nat) < 12 by decide)) (hx 10 (show (10 : Nat) < 12 by decide)) (hx 11 (show (11 : Nat) < 12 by decide))
  simp only [Free.AllV, Free.At, List.length_cons, List.length_nil, Nat.reduceAdd, List.getElem?_cons_succ, List.getElem?_cons_zero, true_and, and_true] at hV
  simp only [Free.putsFrom, Act.put, hV, h1, h2, List.setIfInBounds_toArray, List.set_cons_succ, List.set_cons_zero]
  have hK := hR.kept (Nat.le_refl _)
  have r1 := T1.c0
  have r2 := T1.c1
  have r3 := T2.c0
  have r4 := T2.c1
  have r5 := hK.cell HC.out.2.2.1 HNE.out.2.1
  have r6 := hK.cell HC.out.2.2.2.1 HNE.out.2.1
  have r7 := hK.cell HC.out.2.2.2.2.1 HNE.out.2.2
  have r8 := hK.cell HC.out.2.2.2.2.2 HNE.out.2.2
  have HK1 := Lib.hid (HK0.out.drew.trans hK)
  have n1 := m1.out
  have n2 := m2.out
  have n3 := m3.out
  have n4 := m4.out
  obtain ⟨b1, b2, b3, b4⟩ := BQ.out
  clear hK hR hV hj hx hF
  cases ht : decide ((q1 - p1) * sd ≤ sn * q1)
  all_goals
    simp at ht
    go_wp2_with fail
    go_ret
    exact ⟨by rw [← HR.out]; first | (simp [ht]; done) | (simp [Int.not_le.mpr ht]; done), HK1.out⟩
end Go.Proofs.YtigdpohdihopjaaGreatDoor

