/- slices.IndexFunc, slices.ContainsFunc at ricks. -/
import Derived.Test.YtknpglgpkkhhiaaDoorB2
import Derived.IntWalk
namespace Go.Proofs.YtknpglgpkkhhiaaDoor
set_option linter.unusedSimpArgs false
set_option linter.unusedVariables false
open Go.RowKit
abbrev encR (x : Int × Int × Int) : Value := .agg #[.int .i64 x.1, .int .i64 x.2.1, .int .i64 x.2.2]
def idxR (p : Int × Int × Int → Bool) (xs : List (Int × Int × Int)) : Int := match xs.findIdx? p with | some i => (i : Int) | none => -1

set_option maxRecDepth 100000 in
set_option maxHeartbeats 2000000 in
theorem indexFuncR_any (g : Nat) (caps : Array Value) (p : Int × Int × Int → Bool) (xs : List (Int × Int × Int)) (u : Value) (w : World) (hu : RL xs u w)
    (hg : Asks g caps encR p w) :
    Calls Tryd.prog 105 #[u, .func (.func g) #[] caps] w
      fun e w' => e = .returned (.int .i64 (idxR p xs)) ∧ Below w.heap.size w w' := by
  obtain ⟨p0, cp, rfl, hm, hc⟩ := hu
  unfold maxLen at hm
  have HG := Lib.hid hg
  have HC := Lib.hid hc
  clear hg hc
  go_enter Tryd.func105, Tryd.ntmps105
  go_wp2
  go_loopw [8] (fun i wr => ∃ k : Nat, k ≤ xs.length ∧ i = .int .i64 k ∧ (∀ x ∈ xs.take k, p x = false) ∧ Below w.heap.size w wr) (fun i _ => xs.length - (intOf i).toNat)
  case atStart => exact ⟨0, Nat.zero_le _, rfl, by simp, Below.refl _ _⟩
  case round =>
    obtain ⟨k, hk, rfl, hno, hB⟩ := hrel
    by_cases hlt : k < xs.length
    · have hx : xs ≠ [] := by intro e; simp [e] at hlt
      obtain ⟨b, off, rfl, hcp⟩ := HC.out hx
      obtain ⟨d1, d2, d3⟩ := hcp k hlt
      have e1 := keepsB hB d1
      have e2 := keepsB hB d2
      have e3 := keepsB hB d3
      have hklt : (k : Int) < xs.length := by omega
      have hent := HG.out.1
      have hcall := Lib.hid (HG.out.2 wr xs[k] hB)
      have hget : Hid (xs[k]? = some xs[k]) := List.getElem?_eq_getElem hlt
      clear d1 d2 d3 hcp hx
      generalize xs[k] = x at *
      obtain ⟨x1, x2, x3⟩ := x
      have HNO := Lib.hid hno
      clear hno
      cases hp : p (x1, x2, x3)
      · have hp' := Lib.hid hp
        rw [hp] at hcall
        clear hp
        go_wp2_with fail
        refine hcall.out.mono ?_
        rintro e W1 ⟨rfl, hB1⟩
        have hB2 := hB.trans (hB1.mono hB.size)
        go_wp2_with fail
        go_roundw
        case rel =>
          refine ⟨k + 1, by omega, by go_num, ?_, hB2⟩
          rw [List.take_add_one, hget.out]
          intro y hy
          simp at hy
          rcases hy with hy | rfl
          · exact HNO.out y hy
          · exact hp'.out
        case measure => simp [intOf]; omega
      · have hp' := Lib.hid hp
        rw [hp] at hcall
        clear hp
        go_wp2_with fail
        refine hcall.out.mono ?_
        rintro e W1 ⟨rfl, hB1⟩
        have hB2 := hB.trans (hB1.mono hB.size)
        go_wp2_with fail
        go_ret
        refine ⟨?_, hB2⟩
        have : xs.findIdx? p = some k := by
          rw [List.findIdx?_eq_some_iff_getElem]
          refine ⟨hlt, ?_, ?_⟩
          · have := hget.out; rw [List.getElem?_eq_getElem hlt] at this; rw [Option.some.inj this]; exact hp'.out
          · intro j hj
            have := HNO.out xs[j] (by rw [List.mem_take_iff_getElem]; exact ⟨j, by omega, rfl⟩)
            simp [this]
        simp [idxR, this]
    · obtain rfl : k = xs.length := by omega
      go_wp2_with fail
      go_ret
      refine ⟨?_, hB⟩
      have : xs.findIdx? p = none := by
        rw [List.findIdx?_eq_none_iff]
        simpa using hno
      simp [idxR, this]

theorem containsFuncR_any (g : Nat) (caps : Array Value) (p : Int × Int × Int → Bool) (xs : List (Int × Int × Int)) (u : Value) (w : World) (hu : RL xs u w)
    (hg : Asks g caps encR p w) :
    Calls Tryd.prog 138 #[u, .func (.func g) #[] caps] w
      fun e w' => e = .returned (.bool (xs.any p)) ∧ Below w.heap.size w w' := by
  have H := Lib.hid (indexFuncR_any g caps p xs u w hu hg)
  have hv : xs.any p = decide (0 ≤ idxR p xs) := by
    unfold idxR
    cases h : xs.findIdx? p with
    | none =>
      rw [List.findIdx?_eq_none_iff] at h
      simp
      intro a c d hx
      exact h _ hx
    | some i =>
      rw [List.findIdx?_eq_some_iff_getElem] at h
      obtain ⟨hi, hp, _⟩ := h
      simp
      exact ⟨xs[i].1, xs[i].2.1, xs[i].2.2, List.getElem_mem hi, hp⟩
  rw [hv]
  generalize idxR p xs = v at *
  obtain ⟨p0, cp, rfl, _, _⟩ := hu
  clear hg hv
  go_enter Tryd.func138, Tryd.ntmps138
  go_wp2_with fail
  refine H.out.mono ?_
  rintro e W1 ⟨rfl, hB1⟩
  go_wp2_with fail
  go_ret
  exact ⟨rfl, hB1⟩

end Go.Proofs.YtknpglgpkkhhiaaDoor

/- The place of a rick. -/
namespace Go.Proofs.YtknpglgpkkhhiaaDoor
set_option linter.unusedSimpArgs false
set_option linter.unusedVariables false
open Go.RowKit

/-- r is the place of the first with the number; -1: there is none. -/
def RickIs (xs : List (Int × Int × Int)) (id r : Int) : Prop := (r = -1 ∧ ∀ x ∈ xs, x.1 ≠ id) ∨ (∃ k : Nat, ∃ h : k < xs.length, r = k ∧ xs[k].1 = id ∧ ∀ j (hj : j < k), (xs[j]'(Nat.lt_trans hj h)).1 ≠ id)
theorem RickIs.unique {xs : List (Int × Int × Int)} {id r r' : Int} (h : RickIs xs id r) (h' : RickIs xs id r') : r = r' := by
  rcases h with ⟨rfl, h⟩ | ⟨k, hk, rfl, h1, h2⟩
  · rcases h' with ⟨rfl, _⟩ | ⟨k, hk, rfl, h1, _⟩
    · rfl
    · exact absurd h1 (h _ (List.getElem_mem hk))
  · rcases h' with ⟨rfl, h⟩ | ⟨k', hk', rfl, h1', h2'⟩
    · exact absurd h1 (h _ (List.getElem_mem hk))
    · rcases Nat.lt_trichotomy k k' with h | h | h
      · exact absurd h1 (h2' k h)
      · rw [h]
      · exact absurd h1' (h2 k' h)
set_option maxRecDepth 100000 in
set_option maxHeartbeats 2000000 in
theorem rickR_any (h id : Int) (xs : List (Int × Int × Int)) (u : Value) (w : World) (hu : RL xs u w) :
    Calls Tryd.prog 88 #[.agg #[.int .i64 h, u], .int .i64 id] w fun e w' => (∃ r : Int, e = .returned (.int .i64 r) ∧ RickIs xs id r) ∧ Below w.heap.size w w' := by
  obtain ⟨p, cp, rfl, hm, hp⟩ := hu
  unfold maxLen at hm
  have HP := Lib.hid hp
  clear hp
  have hB0 : Below w.heap.size w (w.alloc (.cells #[.int .i64 h, .slice p xs.length cp] 24)) := (Below.refl _ w).alloc (Nat.le_refl _) _
  have n0 : (w.alloc (.cells #[.int .i64 h, .slice p xs.length cp] 24)).cell? ⟨w.heap.size, 1, none⟩ = some (.slice p xs.length cp) := by simp [go_sem]
  have FA : ∀ W, Free.Bel (w.alloc (.cells #[.int .i64 h, .slice p xs.length cp] 24)) W → W.cell? ⟨w.heap.size, 1, none⟩ = some (.slice p xs.length cp) := fun W hW => keepsB hW n0
  clear n0
  go_enter Tryd.func88, Tryd.ntmps88
  go_wp2_with fail
  generalize w.alloc (.cells #[.int .i64 h, .slice p xs.length cp] 24) = w1 at *
  go_loopw [5] (fun i wr => ∃ k : Nat, k ≤ xs.length ∧ i = .int .i64 k ∧ Hid (∀ j (hj : j < xs.length), j < k → xs[j].1 ≠ id) ∧ Free.Bel w1 wr) (fun i _ => xs.length - (intOf i).toNat)
  case atStart => exact ⟨0, Nat.zero_le _, rfl, fun j _ hj => by omega, Free.Bel.refl _⟩
  case round =>
    obtain ⟨k, hk, rfl, hno, hB⟩ := hrel
    have hww : Below w.heap.size w wr := hB0.trans (hB.mono hB0.size)
    by_cases hlt : k < xs.length
    · have hx : xs ≠ [] := by intro e; simp [e] at hlt
      obtain ⟨b, off, rfl, hcp⟩ := HP.out hx
      have e1 := keepsB hww (hcp k hlt).1
      have hklt : (k : Int) < xs.length := by omega
      clear hcp hx
      by_cases he : xs[k].1 = id
      · have HE := Lib.hid he
        have k1 : (xs[k].1 == id) = true := by simp [he]
        clear he
        generalize xs[k].1 = x at e1 k1
        go_wp2_with fail
        go_ret
        exact ⟨⟨_, rfl, .inr ⟨k, hlt, rfl, HE.out, fun j hj => hno.out j (by omega) hj⟩⟩, hww⟩
      · have HE := Lib.hid he
        have k1 : (xs[k].1 == id) = false := by simp [he]
        clear he
        generalize xs[k].1 = x at e1 k1
        go_wp2_with fail
        go_roundw
        case rel => exact ⟨k + 1, by omega, by go_num, fun j hj hjk => by
          rcases Nat.lt_or_ge j k with h9 | h9
          · exact hno.out j hj h9
          · obtain rfl : j = k := by omega
            exact HE.out, hB⟩
        case measure => simp [intOf]; omega
    · obtain rfl : k = xs.length := by omega
      go_wp2_with fail
      go_ret
      exact ⟨⟨_, rfl, .inl ⟨rfl, fun x hx => by
        obtain ⟨j, hj, rfl⟩ := List.mem_iff_getElem.1 hx
        exact hno.out j hj hj⟩⟩, hww⟩
theorem RickIs.some (xs : List (Int × Int × Int)) (id : Int) : ∃ r, RickIs xs id r := by
  cases hf : xs.findIdx? (fun x => x.1 == id) with
  | none =>
    rw [List.findIdx?_eq_none_iff] at hf
    exact ⟨-1, .inl ⟨rfl, fun x hx => by simpa using hf x hx⟩⟩
  | some k =>
    rw [List.findIdx?_eq_some_iff_getElem] at hf
    obtain ⟨h1, h2, h3⟩ := hf
    exact ⟨k, .inr ⟨k, h1, rfl, by simpa using h2, fun j hj => by simpa using h3 j hj⟩⟩
theorem rickR_v (h id : Int) (xs : List (Int × Int × Int)) (u : Value) (w : World) (hu : RL xs u w) (r : Int) (hr : Hid (RickIs xs id r)) :
    Calls Tryd.prog 88 #[.agg #[.int .i64 h, u], .int .i64 id] w fun e w' => e = .returned (.int .i64 r) ∧ Below w.heap.size w w' :=
  (rickR_any h id xs u w hu).mono fun e w' ⟨⟨r', h1, h2⟩, hB⟩ => ⟨by rw [h1, h2.unique hr.out], hB⟩
end Go.Proofs.YtknpglgpkkhhiaaDoor

/- The program's Check of a watch; the place of a rick. -/
namespace Go.Proofs.YtknpglgpkkhhiaaDoor
set_option linter.unusedSimpArgs false
set_option linter.unusedVariables false
open Go.RowKit

def timeB (x : Int × Int × Int) : Bool := inB 1 6 [x.2.1] && inB 0 (x.2.1 - 1) [x.2.2]
def idsB (last : Int) : List (Int × Int × Int) → Bool
  | [] => true
  | x :: r => inB (last + 1) 9999 [x.1] && idsB x.1 r
theorem risesB_parts : ∀ (last : Int) (xs : List (Int × Int × Int)), risesB last xs = (idsB last xs && xs.all timeB)
  | _, [] => rfl
  | last, x :: r => by
    simp only [risesB, idsB, List.all_cons, timeB, risesB_parts x.1 r]
    cases inB (last + 1) 9999 [x.1] <;> cases inB 1 6 [x.2.1] <;> cases inB 0 (x.2.1 - 1) [x.2.2] <;> cases idsB x.1 r <;> simp

set_option maxRecDepth 100000 in
set_option maxHeartbeats 2000000 in
theorem index1_any (x1 x2 x3 id : Int) (ab : Nat) (w : World) (h : w.cell? ⟨ab, 0, none⟩ = some (.int .i64 id)) :
    Calls Tryd.prog 106 #[.agg #[.int .i64 x1, .int .i64 x2, .int .i64 x3], .pointer (some ⟨ab, 0, none⟩)] w fun e w' => e = .returned (.bool (x1 == id)) ∧ Below w.heap.size w w' := by
  have KA : Free.Bel w (w.alloc (.cells #[.int .i64 x1, .int .i64 x2, .int .i64 x3] 47)) := belAlloc _ _
  have h1 := keepsB KA h
  go_enter Tryd.func106, Tryd.ntmps106
  go_wp2_with fail
  go_ret
  exact ⟨by simp, KA⟩

theorem idxR_is (xs : List (Int × Int × Int)) (id : Int) : RickIs xs id (idxR (fun x => x.1 == id) xs) := by
  unfold idxR
  cases hf : xs.findIdx? (fun x => x.1 == id) with
  | none =>
    rw [List.findIdx?_eq_none_iff] at hf
    exact .inl ⟨rfl, fun x hx => by simpa using hf x hx⟩
  | some k =>
    rw [List.findIdx?_eq_some_iff_getElem] at hf
    obtain ⟨h1, h2, h3⟩ := hf
    exact .inr ⟨k, h1, rfl, by simpa using h2, fun j hj => by simpa using h3 j hj⟩

set_option maxRecDepth 100000 in
set_option maxHeartbeats 2000000 in
theorem indexP_v (h id : Int) (xs : List (Int × Int × Int)) (u : Value) (w : World) (hu : RL xs u w) (r : Int) (hr : Hid (RickIs xs id r)) :
    Calls Tryd.prog 86 #[.agg #[.int .i64 h, u], .int .i64 id] w fun e w' => e = .returned (.int .i64 r) ∧ Below w.heap.size w w' := by
  have hu' := hu
  obtain ⟨p, cp, rfl, _, _⟩ := hu'
  have hB : Below w.heap.size w ((w.alloc (.cells #[.int .i64 h, .slice p xs.length cp] 24)).alloc (.cells #[.int .i64 id] 3)) := ((Below.refl _ w).alloc (Nat.le_refl _) _).alloc (by simp) _
  have H := Lib.hid (indexFuncR_any 106 #[.pointer (some ⟨w.heap.size + 1, 0, none⟩)] (fun x => x.1 == id) xs _ _ (hu.keeps hB)
    ⟨Go.Proofs.enters_of Tryd.func106 (by kernel_rfl) rfl, fun W x hW => index1_any x.1 x.2.1 x.2.2 id _ W ((hW.cell (p := ⟨w.heap.size + 1, 0, none⟩) (by simp)).trans (by simp [go_sem]))⟩)
  have hv : idxR (fun x => x.1 == id) xs = r := (idxR_is xs id).unique hr.out
  rw [hv] at H
  clear hu hv
  go_enter Tryd.func86, Tryd.ntmps86
  go_wp2_with fail
  refine H.out.mono ?_
  rintro e W1 ⟨rfl, hB1⟩
  go_wp2_with fail
  go_ret
  exact ⟨rfl, hB.trans (hB1.mono (by simp; omega))⟩

set_option maxRecDepth 100000 in
set_option maxHeartbeats 2000000 in
theorem chk31_any (x1 x2 x3 : Int) (w : World) :
    Calls Tryd.prog 139 #[.agg #[.int .i64 x1, .int .i64 x2, .int .i64 x3]] w fun e w' => e = .returned (.bool (!timeB (x1, x2, x3))) ∧ Below w.heap.size w w' := by
  have KA : Free.Bel w (w.alloc (.cells #[.int .i64 x1, .int .i64 x2, .int .i64 x3] 47)) := belAlloc _ _
  cases h1 : inB 1 6 [x2]
  · have H1 := Lib.hid h1
    have hv : timeB (x1, x2, x3) = false := by simp [timeB, h1]
    rw [hv]
    clear h1 hv
    go_enter Tryd.func139, Tryd.ntmps139
    go_wp2_with fail
    refine (in_one _ _ x2 false _ _ H1.out (by simp [go_sem])).mono ?_
    rintro e w1 ⟨rfl, hB1⟩
    go_wp2_with fail
    go_ret
    exact ⟨rfl, bt KA (bt (belAlloc _ _) hB1)⟩
  · have H1 := Lib.hid h1
    have hb : 1 ≤ x2 ∧ x2 ≤ 6 := by simpa [inB] using h1
    have hwr : IntKind.i64.wrap (x2 - 1) = x2 - 1 := IntWalk.i64_in _ (by omega)
    obtain ⟨r, hr⟩ : ∃ r, inB 0 (x2 - 1) [x3] = r := ⟨_, rfl⟩
    have hv : timeB (x1, x2, x3) = r := by simp [timeB, h1, hr]
    have HR := Lib.hid hr
    have hx1 : ∀ W, Free.Bel (w.alloc (.cells #[.int .i64 x1, .int .i64 x2, .int .i64 x3] 47)) W → W.cell? ⟨w.heap.size, 1, none⟩ = some (.int .i64 x2) ∧ W.cell? ⟨w.heap.size, 2, none⟩ = some (.int .i64 x3) := fun W hW => ⟨keepsB hW (by simp [go_sem]), keepsB hW (by simp [go_sem])⟩
    rw [hv]
    clear h1 hv hr hb
    go_enter Tryd.func139, Tryd.ntmps139
    go_wp2_with fail
    refine (in_one _ _ x2 true _ _ H1.out (by simp [go_sem])).mono ?_
    rintro e w1 ⟨rfl, hB1⟩
    have K1 : Free.Bel (w.alloc (.cells #[.int .i64 x1, .int .i64 x2, .int .i64 x3] 47)) w1 := bt (belAlloc _ _) hB1
    clear hB1
    have hB9 : Free.Bel w w1 := bt KA K1
    clear KA
    go_wp2_with fail
    refine (in_one _ _ x3 r _ _ HR.out (by simp [go_sem])).mono ?_
    rintro e w2 ⟨rfl, hB2⟩
    go_wp2_with fail
    go_ret
    exact ⟨rfl, bt hB9 (bt (belAlloc _ _) hB2)⟩

set_option maxRecDepth 100000 in
set_option maxHeartbeats 2000000 in
theorem chk3_any (h : Int) (xs : List (Int × Int × Int)) (u : Value) (w : World) (hu : RL xs u w) :
    Calls Tryd.prog 137 #[.agg #[.int .i64 h, u]] w fun e w' => e = .returned (.bool (xs.all timeB)) ∧ Below w.heap.size w w' := by
  have hu' := hu
  obtain ⟨p, cp, rfl, _, _⟩ := hu'
  have hB : Below w.heap.size w (w.alloc (.cells #[.int .i64 h, .slice p xs.length cp] 24)) := (Below.refl _ w).alloc (Nat.le_refl _) _
  have H := Lib.hid (containsFuncR_any 139 #[] (fun x => !timeB x) xs _ _ (hu.keeps hB)
    ⟨Go.Proofs.enters_of Tryd.func139 (by kernel_rfl) rfl, fun W x _ => chk31_any x.1 x.2.1 x.2.2 W⟩)
  have hv : xs.all timeB = !(xs.any fun x => !timeB x) := by
    rw [List.not_any_eq_all_not]; simp
  rw [hv]
  generalize (xs.any fun x => !timeB x) = v at *
  clear hu hv
  go_enter Tryd.func137, Tryd.ntmps137
  go_wp2_with fail
  refine H.out.mono ?_
  rintro e W1 ⟨rfl, hB1⟩
  go_wp2_with fail
  go_ret
  exact ⟨rfl, hB.trans (hB1.mono (by simp))⟩

set_option maxRecDepth 100000 in
set_option maxHeartbeats 2000000 in
theorem chk1_any (h : Int) (n : Nat) (p : Option Addr) (cp : Nat) (w : World) :
    Calls Tryd.prog 135 #[.agg #[.int .i64 h, .slice p n cp]] w fun e w' => e = .returned (.bool (inB 0 3 [h] && decide ((n : Int) ≤ 4))) ∧ Below w.heap.size w w' := by
  have KA : Free.Bel w (w.alloc (.cells #[.int .i64 h, .slice p n cp] 24)) := belAlloc _ _
  have hx1 : ∀ W, Free.Bel (w.alloc (.cells #[.int .i64 h, .slice p n cp] 24)) W → W.cell? ⟨w.heap.size, 0, none⟩ = some (.int .i64 h) ∧ W.cell? ⟨w.heap.size, 1, none⟩ = some (.slice p n cp) := fun W hW => ⟨keepsB hW (by simp [go_sem]), keepsB hW (by simp [go_sem])⟩
  obtain ⟨r, hr⟩ : ∃ r, inB 0 3 [h] = r := ⟨_, rfl⟩
  have HR := Lib.hid hr
  rw [hr]
  clear hr
  cases r
  · go_enter Tryd.func135, Tryd.ntmps135
    go_wp2_with fail
    refine (in_one _ _ h false _ _ HR.out (by simp [go_sem])).mono ?_
    rintro e w1 ⟨rfl, hB1⟩
    have K1 : Free.Bel (w.alloc (.cells #[.int .i64 h, .slice p n cp] 24)) w1 := bt (belAlloc _ _) hB1
    clear hB1
    go_wp2_with fail
    go_ret
    exact ⟨rfl, bt KA K1⟩
  · go_enter Tryd.func135, Tryd.ntmps135
    go_wp2_with fail
    refine (in_one _ _ h true _ _ HR.out (by simp [go_sem])).mono ?_
    rintro e w1 ⟨rfl, hB1⟩
    have K1 : Free.Bel (w.alloc (.cells #[.int .i64 h, .slice p n cp] 24)) w1 := bt (belAlloc _ _) hB1
    clear hB1
    go_wp2_with fail
    go_ret
    exact ⟨by simp, bt KA K1⟩

set_option maxRecDepth 100000 in
set_option maxHeartbeats 4000000 in
theorem chk2_v (h : Int) (xs : List (Int × Int × Int)) (u : Value) (w : World) (hu : RL xs u w) (r : Bool) (hr : Hid (idsB 0 xs = r)) :
    Calls Tryd.prog 136 #[.agg #[.int .i64 h, u]] w fun e w' => e = .returned (.bool r) ∧ Below w.heap.size w w' := by
  obtain ⟨p, cp, rfl, hm, hp⟩ := hu
  unfold maxLen at hm
  have HP := Lib.hid hp
  clear hp
  have hB0 : Below w.heap.size w (w.alloc (.cells #[.int .i64 h, .slice p xs.length cp] 24)) := (Below.refl _ w).alloc (Nat.le_refl _) _
  go_enter Tryd.func136, Tryd.ntmps136
  go_wp2_with fail
  have HB0 := Lib.hid hB0
  clear hB0
  generalize w.alloc (.cells #[.int .i64 h, .slice p xs.length cp] 24) = w1 at *
  go_loopw [9, 3] (fun i l wr => ∃ (k : Nat) (last : Int), k ≤ xs.length ∧ i = .int .i64 k ∧ l = .int .i64 last ∧ 0 ≤ last ∧ last ≤ 9999 ∧ Hid (idsB last (xs.drop k) = r) ∧ Free.Bel w1 wr) (fun i _ _ => xs.length - (intOf i).toNat)
  case atStart => exact ⟨0, 0, Nat.zero_le _, rfl, rfl, by omega, by omega, hr, Free.Bel.refl _⟩
  case round =>
    obtain ⟨k, last, hk, rfl, rfl, hl0, hl1, hrest, hB⟩ := hrel
    have hww : Below w.heap.size w wr := HB0.out.trans (hB.mono HB0.out.size)
    by_cases hlt : k < xs.length
    · have hx : xs ≠ [] := by intro e; simp [e] at hlt
      obtain ⟨b, off, rfl, hcp⟩ := HP.out hx
      obtain ⟨d1, d2, d3⟩ := hcp k hlt
      have e1 := keepsB hww d1
      have e2 := keepsB hww d2
      have e3 := keepsB hww d3
      have hklt : (k : Int) < xs.length := by omega
      have hst : Hid ((inB (last + 1) 9999 [xs[k].1] && idsB xs[k].1 (xs.drop (k + 1))) = r) := by
        show _ = _
        rw [← hrest.out, List.drop_eq_getElem_cons hlt]; rfl
      clear hcp hx d1 d2 d3 hrest
      generalize xs[k] = x at *
      obtain ⟨x1, x2, x3⟩ := x
      have hlw : IntKind.i64.wrap (last + 1) = last + 1 := IntWalk.i64_in _ (by omega)
      have KA : Free.Bel wr (wr.alloc (.cells #[.int .i64 x1, .int .i64 x2, .int .i64 x3] 47)) := belAlloc _ _
      have hx1 : ∀ W, Free.Bel (wr.alloc (.cells #[.int .i64 x1, .int .i64 x2, .int .i64 x3] 47)) W → W.cell? ⟨wr.heap.size, 0, none⟩ = some (.int .i64 x1) := fun W hW => keepsB hW (by simp [go_sem])
      obtain ⟨q, hq⟩ : ∃ q, inB (last + 1) 9999 [x1] = q := ⟨_, rfl⟩
      have HQ := Lib.hid hq
      rw [hq] at hst
      cases q
      · obtain rfl : r = false := by rw [← hst.out, Bool.false_and]
        clear hq
        go_wp2_with fail
        refine (in_one _ _ x1 false _ _ HQ.out (by simp [go_sem])).mono ?_
        rintro e w3 ⟨rfl, hB3⟩
        have K3 : Free.Bel (wr.alloc (.cells #[.int .i64 x1, .int .i64 x2, .int .i64 x3] 47)) w3 := bt (belAlloc _ _) hB3
        clear hB3
        go_wp2_with fail
        go_ret
        exact ⟨rfl, hww.trans ((bt KA K3).mono hww.size)⟩
      · have hnext : Hid (idsB x1 (xs.drop (k + 1)) = r) := by show _ = _; rw [← hst.out, Bool.true_and]
        have hb1 : last + 1 ≤ x1 ∧ x1 ≤ 9999 := by simpa [inB] using hq
        clear hq
        go_wp2_with fail
        refine (in_one _ _ x1 true _ _ HQ.out (by simp [go_sem])).mono ?_
        rintro e w3 ⟨rfl, hB3⟩
        have K3 : Free.Bel (wr.alloc (.cells #[.int .i64 x1, .int .i64 x2, .int .i64 x3] 47)) w3 := bt (belAlloc _ _) hB3
        clear hB3
        go_wp2_with fail
        go_roundw
        case rel => exact ⟨k + 1, x1, by omega, by go_num, rfl, by omega, by omega, hnext, bt hB (bt KA K3)⟩
        case measure => simp [intOf]; omega
    · obtain rfl : k = xs.length := by omega
      obtain rfl : r = true := by rw [← hrest.out, List.drop_length]; rfl
      go_wp2_with fail
      go_ret
      exact ⟨rfl, hww⟩
end Go.Proofs.YtknpglgpkkhhiaaDoor

/- The program's Check of a watch, over its table. -/
namespace Go.Proofs.YtknpglgpkkhhiaaDoor
set_option linter.unusedSimpArgs false
set_option linter.unusedVariables false
open Go.RowKit

abbrev chkF (n : Nat) : Value := .func (.func n) #[] #[]
/-- The table of what a watch is asked. -/
def TabR (w : World) : Prop := w.cell? ⟨0, 0, none⟩ = some (chkF 135) ∧ w.cell? ⟨0, 1, none⟩ = some (chkF 136) ∧ w.cell? ⟨0, 2, none⟩ = some (chkF 137)
theorem TabR.bel {w W : World} (h : TabR w) (hB : Free.Bel w W) : TabR W := ⟨keepsB hB h.1, keepsB hB h.2.1, keepsB hB h.2.2⟩

set_option maxRecDepth 100000 in
set_option maxHeartbeats 4000000 in
theorem checkP_v (h : Int) (xs : List (Int × Int × Int)) (u : Value) (w : World) (hT : TabR w) (hu : RL xs u w) (c : Int) (hc : Hid ((if watchB h xs = true then 0 else 70) = c)) :
    Calls Tryd.prog 36 #[.agg #[.int .i64 h, u]] w fun e w' => e = .returned (.int .i64 c) ∧ Below w.heap.size w w' := by
  have HU := Lib.hid hu
  obtain ⟨p, cp, rfl, hm, _⟩ := hu
  have hw : watchB h xs = ((inB 0 3 [h] && decide ((xs.length : Int) ≤ 4)) && (idsB 0 xs && xs.all timeB)) := by
    rw [watchB, risesB_parts, show decide (xs.length ≤ 4) = decide ((xs.length : Int) ≤ 4) by simp; omega, Bool.and_assoc]
  have HW := Lib.hid hw
  clear hw
  have hB0 : Free.Bel w (w.alloc (.cells #[.int .i64 h, .slice p xs.length cp] 24)) := belAlloc _ _
  have FA : ∀ W, Free.Bel (w.alloc (.cells #[.int .i64 h, .slice p xs.length cp] 24)) W → W.cell? ⟨0, 0, none⟩ = some (chkF 135) ∧ W.cell? ⟨0, 1, none⟩ = some (chkF 136) ∧ W.cell? ⟨0, 2, none⟩ = some (chkF 137) ∧ W.cell? ⟨w.heap.size, 0, none⟩ = some (.int .i64 h) ∧ W.cell? ⟨w.heap.size, 1, none⟩ = some (.slice p xs.length cp) := fun W hW => ⟨keepsB (bt hB0 hW) hT.1, keepsB (bt hB0 hW) hT.2.1, keepsB (bt hB0 hW) hT.2.2, keepsB hW (by simp [go_sem]), keepsB hW (by simp [go_sem])⟩
  have KR : Free.Bel (w.alloc (.cells #[.int .i64 h, .slice p xs.length cp] 24)) (w.alloc (.cells #[.int .i64 h, .slice p xs.length cp] 24)) := Free.Bel.refl _
  clear hT
  go_enter Tryd.func36, Tryd.ntmps36
  go_wp2_with fail
  have HB0 := Lib.hid hB0
  clear hB0 KR
  generalize w.alloc (.cells #[.int .i64 h, .slice p xs.length cp] 24) = w1 at *
  go_loopw [6] (fun i wr => ∃ k : Nat, k ≤ 3 ∧ i = .int .i64 k ∧ Hid ((0 < k → (inB 0 3 [h] && decide ((xs.length : Int) ≤ 4)) = true) ∧ (1 < k → idsB 0 xs = true) ∧ (2 < k → xs.all timeB = true)) ∧ Free.Bel w1 wr) (fun i _ => 3 - (intOf i).toNat)
  case atStart => exact ⟨0, by omega, rfl, ⟨fun h => by omega, fun h => by omega, fun h => by omega⟩, Free.Bel.refl _⟩
  case round =>
    obtain ⟨k, hk, rfl, hq, hB⟩ := hrel
    by_cases hlt : k < 3
    · obtain rfl | rfl | rfl : k = 0 ∨ k = 1 ∨ k = 2 := by omega
      · obtain ⟨q, hq0⟩ : ∃ q, (inB 0 3 [h] && decide ((xs.length : Int) ≤ 4)) = q := ⟨_, rfl⟩
        have HQ : Hid ((inB 0 3 [h] && decide ((xs.length : Int) ≤ 4)) = q) := hq0
        clear hq0
        have hix : ∀ W : World, (Instr.index 121 (.agg #[chkF 135, chkF 136, chkF 137]) (.int .i64 0)).run Tryd.prog W = .ok (.agg #[chkF 135]) W := fun _ => by kernel_rfl
        have KA : Free.Bel w1 (wr.alloc (.cells #[chkF 135] 120)) := bt hB (belAlloc _ _)
        have KW : Free.Bel w (wr.alloc (.cells #[chkF 135] 120)) := bt HB0.out KA
        go_wp2_with fail
        have hcon : ∀ W, Free.Bel w W → Calls Tryd.prog 135 #[.agg #[.int .i64 h, .slice p xs.length cp]] W fun e w' => e = .returned (.bool q) ∧ Below W.heap.size W w' := fun W hW => by
          have hc9 := chk1_any h xs.length p cp W
          have hv : (inB 0 3 [h] && decide ((xs.length : Int) ≤ 4)) = q := HQ.out
          rw [hv] at hc9
          exact hc9
        refine (hcon _ KW).mono ?_
        rintro e w3 ⟨rfl, hB3⟩
        clear hcon
        have K3 : Free.Bel w1 w3 := bt KA hB3
        clear hB3
        cases q
        · go_wp2_with fail
          go_ret
          obtain rfl : c = 70 := by rw [← hc.out, if_neg]; rw [HW.out, HQ.out]; simp
          exact ⟨rfl, bt HB0.out K3⟩
        · go_wp2_with fail
          go_roundw
          case rel => exact ⟨1, by omega, by go_num, ⟨(fun _ => HQ.out), (fun h => by omega), (fun h => by omega)⟩, K3⟩
          case measure => simp [intOf]
      · obtain ⟨q, hq0⟩ : ∃ q, idsB 0 xs = q := ⟨_, rfl⟩
        have HQ : Hid (idsB 0 xs = q) := hq0
        clear hq0
        have hix : ∀ W : World, (Instr.index 121 (.agg #[chkF 135, chkF 136, chkF 137]) (.int .i64 1)).run Tryd.prog W = .ok (.agg #[chkF 136]) W := fun _ => by kernel_rfl
        have KA : Free.Bel w1 (wr.alloc (.cells #[chkF 136] 120)) := bt hB (belAlloc _ _)
        have KW : Free.Bel w (wr.alloc (.cells #[chkF 136] 120)) := bt HB0.out KA
        go_wp2_with fail
        have hcon : ∀ W, Free.Bel w W → Calls Tryd.prog 136 #[.agg #[.int .i64 h, .slice p xs.length cp]] W fun e w' => e = .returned (.bool q) ∧ Below W.heap.size W w' := fun W hW => by
          have hc9 := chk2_v h xs _ W (HU.out.keeps hW) q HQ
          have hv : idsB 0 xs = q := HQ.out
          clear hv
          exact hc9
        refine (hcon _ KW).mono ?_
        rintro e w3 ⟨rfl, hB3⟩
        clear hcon
        have K3 : Free.Bel w1 w3 := bt KA hB3
        clear hB3
        cases q
        · go_wp2_with fail
          go_ret
          obtain rfl : c = 70 := by rw [← hc.out, if_neg]; rw [HW.out, HQ.out]; simp
          exact ⟨rfl, bt HB0.out K3⟩
        · go_wp2_with fail
          go_roundw
          case rel => exact ⟨2, by omega, by go_num, ⟨(fun _ => hq.out.1 (by omega)), (fun _ => HQ.out), (fun h => by omega)⟩, K3⟩
          case measure => simp [intOf]
      · obtain ⟨q, hq0⟩ : ∃ q, xs.all timeB = q := ⟨_, rfl⟩
        have HQ : Hid (xs.all timeB = q) := hq0
        clear hq0
        have hix : ∀ W : World, (Instr.index 121 (.agg #[chkF 135, chkF 136, chkF 137]) (.int .i64 2)).run Tryd.prog W = .ok (.agg #[chkF 137]) W := fun _ => by kernel_rfl
        have KA : Free.Bel w1 (wr.alloc (.cells #[chkF 137] 120)) := bt hB (belAlloc _ _)
        have KW : Free.Bel w (wr.alloc (.cells #[chkF 137] 120)) := bt HB0.out KA
        go_wp2_with fail
        have hcon : ∀ W, Free.Bel w W → Calls Tryd.prog 137 #[.agg #[.int .i64 h, .slice p xs.length cp]] W fun e w' => e = .returned (.bool q) ∧ Below W.heap.size W w' := fun W hW => by
          have hc9 := chk3_any h xs _ W (HU.out.keeps hW)
          have hv : xs.all timeB = q := HQ.out
          rw [hv] at hc9
          exact hc9
        refine (hcon _ KW).mono ?_
        rintro e w3 ⟨rfl, hB3⟩
        clear hcon
        have K3 : Free.Bel w1 w3 := bt KA hB3
        clear hB3
        cases q
        · go_wp2_with fail
          go_ret
          obtain rfl : c = 70 := by rw [← hc.out, if_neg]; rw [HW.out, HQ.out]; simp
          exact ⟨rfl, bt HB0.out K3⟩
        · go_wp2_with fail
          go_roundw
          case rel => exact ⟨3, by omega, by go_num, ⟨(fun _ => hq.out.1 (by omega)), (fun _ => hq.out.2.1 (by omega)), (fun _ => HQ.out)⟩, K3⟩
          case measure => simp [intOf]
    · obtain rfl : k = 3 := by omega
      go_wp2_with fail
      go_ret
      obtain rfl : c = 0 := by rw [← hc.out, if_pos]; rw [HW.out, hq.out.1 (by omega), hq.out.2.1 (by omega), hq.out.2.2 (by omega)]; rfl
      exact ⟨rfl, bt HB0.out hB⟩
end Go.Proofs.YtknpglgpkkhhiaaDoor

/- The reference's Turnings. -/
namespace Go.Proofs.YtknpglgpkkhhiaaDoor
set_option linter.unusedSimpArgs false
set_option linter.unusedVariables false
open Go.RowKit

theorem hasR_rick {xs : List (Int × Int × Int)} {id r : Int} (h : RickIs xs id r) : hasR xs id = decide (0 ≤ r) := by
  rcases h with ⟨rfl, h⟩ | ⟨k, hk, rfl, h1, _⟩
  · simp [hasR]
    intro a b c hx he
    exact h _ hx he
  · have : hasR xs id = true := by
      simp only [hasR, List.any_eq_true]
      exact ⟨_, List.getElem_mem hk, by simp [h1]⟩
    rw [this]
    simp

set_option maxRecDepth 100000 in
set_option maxHeartbeats 8000000 in
theorem turnR_v (h : Int) (xs : List (Int × Int × Int)) (day : List Int) (u v : Value) (w : World) (hu : RL xs u w) (hv : IL day v w) (hpos : ∀ x ∈ xs, 1 ≤ x.1) (r : Bool) (hr : Hid (turnB h xs day = r)) :
    Calls Tryd.prog 58 #[.agg #[.int .i64 h, u], v] w fun e w' => e = .returned (.bool r) ∧ Below w.heap.size w w' := by
  have HU := Lib.hid hu
  obtain ⟨p, cp, rfl, _, _⟩ := hu
  obtain ⟨q, cq, rfl, hm, hq⟩ := hv
  unfold maxLen at hm
  have HC := Lib.hid hq
  have HPOS := Lib.hid hpos
  clear hq hpos
  have hB0 : Below w.heap.size w (w.alloc (.cells #[.int .i64 h, .slice p xs.length cp] 24)) := (Below.refl _ w).alloc (Nat.le_refl _) _
  have n0 : (w.alloc (.cells #[.int .i64 h, .slice p xs.length cp] 24)).cell? ⟨w.heap.size, 0, none⟩ = some (.int .i64 h) := by simp [go_sem]
  have n1 : (w.alloc (.cells #[.int .i64 h, .slice p xs.length cp] 24)).cell? ⟨w.heap.size, 1, none⟩ = some (.slice p xs.length cp) := by simp [go_sem]
  have FA : ∀ W, Free.Bel (w.alloc (.cells #[.int .i64 h, .slice p xs.length cp] 24)) W → W.cell? ⟨w.heap.size, 0, none⟩ = some (.int .i64 h) ∧ W.cell? ⟨w.heap.size, 1, none⟩ = some (.slice p xs.length cp) := fun W hW => ⟨keepsB hW n0, keepsB hW n1⟩
  clear n0 n1
  by_cases hl : (day.length : Int) ≤ h
  · have k4 : decide (h < (day.length : Int)) = false := decide_eq_false (by omega)
    have hr2 : Hid (turnF xs 0 day = r) := by show _ = _; rw [← hr.out, turnB, decide_eq_true hl, Bool.true_and]
    clear hr
    go_enter Tryd.func58, Tryd.ntmps58
    go_wp2_with fail
    have HB9 := Lib.hid hB0
    clear hB0 k4
    generalize (w.alloc (.cells #[.int .i64 h, .slice p xs.length cp] 24)) = w1 at *
    go_loopw [5] (fun i wr => ∃ (k : Nat) (prev : Int), k ≤ day.length ∧ i = .int .i64 k ∧ Hid (turnF xs prev (day.drop k) = r) ∧ Hid (k = 0 → prev = 0) ∧ Hid (∀ j (hj : j < day.length), j + 1 = k → day[j] = prev) ∧ Free.Bel w1 wr) (fun i _ => day.length - (intOf i).toNat)
    case atStart => exact ⟨0, 0, Nat.zero_le _, rfl, hr2, fun _ => rfl, fun j hj e => by omega, Free.Bel.refl _⟩
    case round =>
      obtain ⟨k, prev, hk, rfl, hrest, HZ0, HPR, hB⟩ := hrel
      have hww : Below w.heap.size w wr := HB9.out.trans (hB.mono HB9.out.size)
      by_cases hlt : k < day.length
      · have hx : day ≠ [] := by intro e; simp [e] at hlt
        obtain ⟨b, off, rfl, hcp⟩ := HC.out hx
        have e1 := keepsB hww (hcp k hlt)
        have hklt : (k : Int) < day.length := by omega
        have hst : Hid ((hasR xs day[k] && (decide (prev < day[k]) && turnF xs day[k] (day.drop (k + 1)))) = r) := by
          show _ = _
          rw [← hrest.out, List.drop_eq_getElem_cons hlt]; rfl
        have HPN : Hid (∀ j (hj : j < day.length), j + 1 = k + 1 → day[j] = day[k]) := fun j hj e => by
          obtain rfl : j = k := by omega
          rfl
        obtain ⟨r0, hr0⟩ := RickIs.some xs day[k]
        have HR := Lib.hid hr0
        have hin := hasR_rick hr0
        have HCP := Lib.hid hcp
        have HLT := Lib.hid hlt
        clear hcp hx hrest hr0
        generalize day[k] = a at *
        by_cases h0 : r0 < 0
        · have h1 : hasR xs a = false := by rw [hin]; exact decide_eq_false (by omega)
          obtain rfl : r = false := by rw [← hst.out, h1, Bool.false_and]
          have g0 : decide (r0 < 0) = true := decide_eq_true h0
          clear h1 hin
          go_wp2_with fail
          have HQ : ∀ W, Free.Bel wr.drew W → Free.Bel w1 W := fun W hW => bt hB (Free.Bel.first hW)
          have hF : ∀ W, Free.Bel wr.drew W → (W.cell? ⟨w.heap.size, 0, none⟩ = some (.int .i64 h) ∧ W.cell? ⟨w.heap.size, 1, none⟩ = some (.slice p xs.length cp) ∧ W.cell? ⟨b, off + k, none⟩ = some (.int .i64 a)) ∧ Below w.heap.size w W := fun W hW => ⟨⟨(FA W (HQ W hW)).1, (FA W (HQ W hW)).2, keepsB (Free.Bel.first hW) e1⟩, hww.trans ((Free.Bel.first hW).mono hww.size)⟩
          refine Free.wp_free (R := Free.Bel) (by kernel_rfl) (by kernel_rfl) Free.Bel.refl Free.Bel.trans ?_
          refine Free.Chain.ex ?_ [] [2] (by kernel_rfl) (by kernel_rfl) rfl Free.Bel.refl ?_ ?_
          rotate_left 2
          simp only [an1, an2]
          refine Free.Chain.ex ?_ [] [1] (by kernel_rfl) (by kernel_rfl) rfl Free.Bel.refl ?_ ?_
          rotate_left 2
          simp only [an1, an2]
          refine Free.Chain.ex ?_ [] [5] (by kernel_rfl) (by kernel_rfl) rfl Free.Bel.refl ?_ ?_
          rotate_left 2
          simp only [an1, an2]
          refine Free.Chain.ex ?_ [(1, 18), (2, 19)] [] (by kernel_rfl) (by kernel_rfl) rfl Free.Bel.refl ?_ ?_
          rotate_left 2
          simp only [an1, an2]
          refine Free.Chain.ex ?_ [(3, 20)] [] (by kernel_rfl) (by kernel_rfl) rfl Free.Bel.refl ?_ ?_
          rotate_left 2
          simp only [an1, an2]
          rotate_left
          iterate 5 (rotate_left; intro ev W hb hR hO hD; have hS := hF W hR; obtain ⟨hb1, hb2, hb3⟩ := hb; simp only [Free.AllDeps, Free.AllOuts, Free.At, al1, al2, al3, al4, al5, and_true] at hO hD; go_simp; rfl)
          refine Free.Chain.pr (fun v _ => v = .int .i64 r0) [(0, 17), (4, 21)] [] (by kernel_rfl) (by kernel_rfl) rfl (fun _ _ _ _ h => h) ?_ ?_
          · (intro ev W hb hR hO hD; have hS := hF W hR; obtain ⟨hb1, hb2, hb3⟩ := hb; simp only [Free.AllDeps, Free.AllOuts, Free.At, al1, al2, al3, al4, al5, and_true] at hO hD; obtain ⟨hS, hS2⟩ := hS; go_simp; refine yields_enter ?_; (with_reducible refine (rickR_v h a xs _ _ (HU.out.keeps hS2) r0 HR).mono ?_); rintro e W2 ⟨rfl, hB2⟩; exact ⟨_, rfl, hB2, rfl⟩)
          simp only [an1, an2]
          refine Free.Chain.ex ?_ [(5, 22)] [] (by kernel_rfl) (by kernel_rfl) rfl Free.Bel.refl ?_ ?_
          rotate_left 2
          simp only [an1, an2]
          refine Free.Chain.ex ?_ [(6, 23), (5, 22)] [] (by kernel_rfl) (by kernel_rfl) rfl Free.Bel.refl ?_ ?_
          rotate_left 2
          simp only [an1, an2]
          rotate_left
          iterate 2 (rotate_left; intro ev W hb hR hO hD; have hS := hF W hR; obtain ⟨hb1, hb2, hb3⟩ := hb; simp only [Free.AllDeps, Free.AllOuts, Free.At, al1, al2, al3, al4, al5, and_true] at hO hD; go_simp; rfl)
          refine Free.Chain.no [(7, 24)] [5] 7 false 24 (by kernel_rfl) (by kernel_rfl) rfl (by kernel_rfl) ?_ ?_
          · (intro ev W hR hD; simp only [Free.AllDeps, Free.At, List.getElem?_cons_succ, List.getElem?_cons_zero, and_true] at hD; simp [hD])
          simp only [an1, an2]
          refine Free.Chain.no [(8, 25), (7, 24)] [] 7 false 24 (by kernel_rfl) (by kernel_rfl) rfl (by kernel_rfl) ?_ ?_
          · (intro ev W hR hD; simp only [Free.AllDeps, Free.At, List.getElem?_cons_succ, List.getElem?_cons_zero, and_true] at hD; simp [hD])
          simp only [an1, an2]
          refine Free.Chain.no [(9, 26), (7, 24), (7, 24)] [] 7 false 24 (by kernel_rfl) (by kernel_rfl) rfl (by kernel_rfl) ?_ ?_
          · (intro ev W hR hD; simp only [Free.AllDeps, Free.At, List.getElem?_cons_succ, List.getElem?_cons_zero, and_true] at hD; simp [hD])
          simp only [an1, an2]
          refine Free.Chain.no [(10, 27)] [1] 10 true 27 (by kernel_rfl) (by kernel_rfl) rfl (by kernel_rfl) ?_ ?_
          · (intro ev W hR hD; simp only [Free.AllDeps, Free.At, List.getElem?_cons_succ, List.getElem?_cons_zero, and_true] at hD; simp [hD])
          simp only [an1, an2]
          refine Free.Chain.no [(10, 27)] [5] 10 true 27 (by kernel_rfl) (by kernel_rfl) rfl (by kernel_rfl) ?_ ?_
          · (intro ev W hR hD; simp only [Free.AllDeps, Free.At, List.getElem?_cons_succ, List.getElem?_cons_zero, and_true] at hD; simp [hD])
          simp only [an1, an2]
          refine Free.Chain.no [(12, 29), (10, 27)] [] 10 true 27 (by kernel_rfl) (by kernel_rfl) rfl (by kernel_rfl) ?_ ?_
          · (intro ev W hR hD; simp only [Free.AllDeps, Free.At, List.getElem?_cons_succ, List.getElem?_cons_zero, and_true] at hD; simp [hD])
          simp only [an1, an2]
          refine Free.Chain.no [(11, 28), (13, 30), (10, 27)] [] 10 true 27 (by kernel_rfl) (by kernel_rfl) rfl (by kernel_rfl) ?_ ?_
          · (intro ev W hR hD; simp only [Free.AllDeps, Free.At, List.getElem?_cons_succ, List.getElem?_cons_zero, and_true] at hD; simp [hD])
          simp only [an1, an2]
          refine Free.Chain.no [(14, 31), (10, 27)] [] 10 true 27 (by kernel_rfl) (by kernel_rfl) rfl (by kernel_rfl) ?_ ?_
          · (intro ev W hR hD; simp only [Free.AllDeps, Free.At, List.getElem?_cons_succ, List.getElem?_cons_zero, and_true] at hD; simp [hD])
          simp only [an1, an2]
          refine Free.Chain.no [(10, 27)] [1] 10 true 27 (by kernel_rfl) (by kernel_rfl) rfl (by kernel_rfl) ?_ ?_
          · (intro ev W hR hD; simp only [Free.AllDeps, Free.At, List.getElem?_cons_succ, List.getElem?_cons_zero, and_true] at hD; simp [hD])
          simp only [an1, an2]
          refine Free.Chain.no [(10, 27)] [5] 10 true 27 (by kernel_rfl) (by kernel_rfl) rfl (by kernel_rfl) ?_ ?_
          · (intro ev W hR hD; simp only [Free.AllDeps, Free.At, List.getElem?_cons_succ, List.getElem?_cons_zero, and_true] at hD; simp [hD])
          simp only [an1, an2]
          refine Free.Chain.no [(16, 33), (17, 34), (10, 27)] [] 10 true 27 (by kernel_rfl) (by kernel_rfl) rfl (by kernel_rfl) ?_ ?_
          · (intro ev W hR hD; simp only [Free.AllDeps, Free.At, List.getElem?_cons_succ, List.getElem?_cons_zero, and_true] at hD; simp [hD])
          simp only [an1, an2]
          refine Free.Chain.no [(18, 35), (10, 27)] [] 10 true 27 (by kernel_rfl) (by kernel_rfl) rfl (by kernel_rfl) ?_ ?_
          · (intro ev W hR hD; simp only [Free.AllDeps, Free.At, List.getElem?_cons_succ, List.getElem?_cons_zero, and_true] at hD; simp [hD])
          simp only [an1, an2]
          refine Free.Chain.no [(15, 32), (19, 36), (10, 27)] [] 10 true 27 (by kernel_rfl) (by kernel_rfl) rfl (by kernel_rfl) ?_ ?_
          · (intro ev W hR hD; simp only [Free.AllDeps, Free.At, List.getElem?_cons_succ, List.getElem?_cons_zero, and_true] at hD; simp [hD])
          simp only [an1, an2]
          refine Free.Chain.no [(10, 27), (20, 37), (7, 24)] [] 7 false 24 (by kernel_rfl) (by kernel_rfl) rfl (by kernel_rfl) ?_ ?_
          · (intro ev W hR hD; simp only [Free.AllDeps, Free.At, List.getElem?_cons_succ, List.getElem?_cons_zero, and_true] at hD; simp [hD])
          simp only [an1, an2]
          refine Free.Chain.ex ?_ [(7, 24), (21, 38)] [] (by kernel_rfl) (by kernel_rfl) rfl Free.Bel.refl ?_ ?_
          rotate_left 2
          simp only [an1, an2]
          rotate_left
          rotate_left
          · (intro ev W hb hR hO hD; have hS := hF W hR; obtain ⟨hb1, hb2, hb3⟩ := hb; simp only [Free.AllDeps, Free.AllOuts, Free.At, al1, al2, al3, al4, al5, and_true] at hO hD; go_simp; rfl)
          intro xs w' hR hV
          simp only [Free.AllV, Free.At, List.length_cons, List.length_nil, Nat.reduceAdd, List.getElem?_cons_succ, List.getElem?_cons_zero, true_and] at hV
          simp only [Free.putsFrom, Act.put, Nat.zero_add, Nat.reduceAdd, hV, List.setIfInBounds_toArray, List.set_cons_succ, List.set_cons_zero]
          have HB2 : Free.Bel w1 w' := HQ w' hR
          clear hR hV hF HQ
          go_wp2_with fail
          go_ret
          exact ⟨rfl, HB9.out.trans (HB2.mono HB9.out.size)⟩
        · have h1 : hasR xs a = true := by rw [hin]; exact decide_eq_true (by omega)
          have g0 : decide (r0 < 0) = false := decide_eq_false h0
          have hpa : 1 ≤ a := by
            simp only [hasR, List.any_eq_true, beq_iff_eq] at h1
            obtain ⟨x, hx1, hx2⟩ := h1
            have := HPOS.out x hx1
            omega
          have hst2 : Hid ((decide (prev < a) && turnF xs a (day.drop (k + 1))) = r) := by show _ = _; rw [← hst.out, h1, Bool.true_and]
          clear h1 hin hst
          by_cases hk0 : k = 0
          · have hp0 := HZ0.out hk0
            have hnext : Hid (turnF xs a (day.drop (k + 1)) = r) := by show _ = _; rw [← hst2.out, hp0, decide_eq_true (show (0 : Int) < a by omega), Bool.true_and]
            have g1 : decide (0 < (k : Int)) = false := decide_eq_false (by omega)
            clear hst2 hp0
            subst hk0
            have e1 : wr.cell? ⟨b, off, none⟩ = some (.int .i64 a) := by simpa using e1
            go_wp2_with fail
            have HQ : ∀ W, Free.Bel wr.drew W → Free.Bel w1 W := fun W hW => bt hB (Free.Bel.first hW)
            have hF : ∀ W, Free.Bel wr.drew W → (W.cell? ⟨w.heap.size, 0, none⟩ = some (.int .i64 h) ∧ W.cell? ⟨w.heap.size, 1, none⟩ = some (.slice p xs.length cp) ∧ W.cell? ⟨b, off, none⟩ = some (.int .i64 a)) ∧ Below w.heap.size w W := fun W hW => ⟨⟨(FA W (HQ W hW)).1, (FA W (HQ W hW)).2, keepsB (Free.Bel.first hW) e1⟩, hww.trans ((Free.Bel.first hW).mono hww.size)⟩
            refine Free.wp_free (R := Free.Bel) (by kernel_rfl) (by kernel_rfl) Free.Bel.refl Free.Bel.trans ?_
            refine Free.Chain.ex ?_ [] [2] (by kernel_rfl) (by kernel_rfl) rfl Free.Bel.refl ?_ ?_
            rotate_left 2
            simp only [an1, an2]
            refine Free.Chain.ex ?_ [] [1] (by kernel_rfl) (by kernel_rfl) rfl Free.Bel.refl ?_ ?_
            rotate_left 2
            simp only [an1, an2]
            refine Free.Chain.ex ?_ [] [5] (by kernel_rfl) (by kernel_rfl) rfl Free.Bel.refl ?_ ?_
            rotate_left 2
            simp only [an1, an2]
            refine Free.Chain.ex ?_ [(1, 18), (2, 19)] [] (by kernel_rfl) (by kernel_rfl) rfl Free.Bel.refl ?_ ?_
            rotate_left 2
            simp only [an1, an2]
            refine Free.Chain.ex ?_ [(3, 20)] [] (by kernel_rfl) (by kernel_rfl) rfl Free.Bel.refl ?_ ?_
            rotate_left 2
            simp only [an1, an2]
            rotate_left
            iterate 5 (rotate_left; intro ev W hb hR hO hD; have hS := hF W hR; obtain ⟨hb1, hb2, hb3⟩ := hb; simp only [Free.AllDeps, Free.AllOuts, Free.At, al1, al2, al3, al4, al5, and_true] at hO hD; go_simp; rfl)
            refine Free.Chain.pr (fun v _ => v = .int .i64 r0) [(0, 17), (4, 21)] [] (by kernel_rfl) (by kernel_rfl) rfl (fun _ _ _ _ h => h) ?_ ?_
            · (intro ev W hb hR hO hD; have hS := hF W hR; obtain ⟨hb1, hb2, hb3⟩ := hb; simp only [Free.AllDeps, Free.AllOuts, Free.At, al1, al2, al3, al4, al5, and_true] at hO hD; obtain ⟨hS, hS2⟩ := hS; go_simp; refine yields_enter ?_; (with_reducible refine (rickR_v h a xs _ _ (HU.out.keeps hS2) r0 HR).mono ?_); rintro e W2 ⟨rfl, hB2⟩; exact ⟨_, rfl, hB2, rfl⟩)
            simp only [an1, an2]
            refine Free.Chain.ex ?_ [(5, 22)] [] (by kernel_rfl) (by kernel_rfl) rfl Free.Bel.refl ?_ ?_
            rotate_left 2
            simp only [an1, an2]
            refine Free.Chain.ex ?_ [(6, 23), (5, 22)] [] (by kernel_rfl) (by kernel_rfl) rfl Free.Bel.refl ?_ ?_
            rotate_left 2
            simp only [an1, an2]
            rotate_left
            iterate 2 (rotate_left; intro ev W hb hR hO hD; have hS := hF W hR; obtain ⟨hb1, hb2, hb3⟩ := hb; simp only [Free.AllDeps, Free.AllOuts, Free.At, al1, al2, al3, al4, al5, and_true] at hO hD; go_simp; rfl)
            refine Free.Chain.exG ?_ [(7, 24)] [5] 7 false 24 (by kernel_rfl) (by kernel_rfl) rfl (by kernel_rfl) Free.Bel.refl ?_ ?_
            rotate_left 2
            simp only [an1, an2]
            refine Free.Chain.exG ?_ [(8, 25), (7, 24)] [] 7 false 24 (by kernel_rfl) (by kernel_rfl) rfl (by kernel_rfl) Free.Bel.refl ?_ ?_
            rotate_left 2
            simp only [an1, an2]
            refine Free.Chain.exG ?_ [(9, 26), (7, 24), (7, 24)] [] 7 false 24 (by kernel_rfl) (by kernel_rfl) rfl (by kernel_rfl) Free.Bel.refl ?_ ?_
            rotate_left 2
            simp only [an1, an2]
            rotate_left
            iterate 3 (rotate_left; intro ev W hb hR hO hD; have hS := hF W hR; obtain ⟨hb1, hb2, hb3⟩ := hb; simp only [Free.AllDeps, Free.AllOuts, Free.At, al1, al2, al3, al4, al5, and_true] at hO hD; refine ⟨by simp [hD], ?_⟩; go_simp; rfl)
            refine Free.Chain.no [(10, 27)] [1] 10 true 27 (by kernel_rfl) (by kernel_rfl) rfl (by kernel_rfl) ?_ ?_
            · (intro ev W hR hD; simp only [Free.AllDeps, Free.At, List.getElem?_cons_succ, List.getElem?_cons_zero, and_true] at hD; simp [hD])
            simp only [an1, an2]
            refine Free.Chain.no [(10, 27)] [5] 10 true 27 (by kernel_rfl) (by kernel_rfl) rfl (by kernel_rfl) ?_ ?_
            · (intro ev W hR hD; simp only [Free.AllDeps, Free.At, List.getElem?_cons_succ, List.getElem?_cons_zero, and_true] at hD; simp [hD])
            simp only [an1, an2]
            refine Free.Chain.no [(12, 29), (10, 27)] [] 10 true 27 (by kernel_rfl) (by kernel_rfl) rfl (by kernel_rfl) ?_ ?_
            · (intro ev W hR hD; simp only [Free.AllDeps, Free.At, List.getElem?_cons_succ, List.getElem?_cons_zero, and_true] at hD; simp [hD])
            simp only [an1, an2]
            refine Free.Chain.no [(11, 28), (13, 30), (10, 27)] [] 10 true 27 (by kernel_rfl) (by kernel_rfl) rfl (by kernel_rfl) ?_ ?_
            · (intro ev W hR hD; simp only [Free.AllDeps, Free.At, List.getElem?_cons_succ, List.getElem?_cons_zero, and_true] at hD; simp [hD])
            simp only [an1, an2]
            refine Free.Chain.no [(14, 31), (10, 27)] [] 10 true 27 (by kernel_rfl) (by kernel_rfl) rfl (by kernel_rfl) ?_ ?_
            · (intro ev W hR hD; simp only [Free.AllDeps, Free.At, List.getElem?_cons_succ, List.getElem?_cons_zero, and_true] at hD; simp [hD])
            simp only [an1, an2]
            refine Free.Chain.no [(10, 27)] [1] 10 true 27 (by kernel_rfl) (by kernel_rfl) rfl (by kernel_rfl) ?_ ?_
            · (intro ev W hR hD; simp only [Free.AllDeps, Free.At, List.getElem?_cons_succ, List.getElem?_cons_zero, and_true] at hD; simp [hD])
            simp only [an1, an2]
            refine Free.Chain.no [(10, 27)] [5] 10 true 27 (by kernel_rfl) (by kernel_rfl) rfl (by kernel_rfl) ?_ ?_
            · (intro ev W hR hD; simp only [Free.AllDeps, Free.At, List.getElem?_cons_succ, List.getElem?_cons_zero, and_true] at hD; simp [hD])
            simp only [an1, an2]
            refine Free.Chain.no [(16, 33), (17, 34), (10, 27)] [] 10 true 27 (by kernel_rfl) (by kernel_rfl) rfl (by kernel_rfl) ?_ ?_
            · (intro ev W hR hD; simp only [Free.AllDeps, Free.At, List.getElem?_cons_succ, List.getElem?_cons_zero, and_true] at hD; simp [hD])
            simp only [an1, an2]
            refine Free.Chain.no [(18, 35), (10, 27)] [] 10 true 27 (by kernel_rfl) (by kernel_rfl) rfl (by kernel_rfl) ?_ ?_
            · (intro ev W hR hD; simp only [Free.AllDeps, Free.At, List.getElem?_cons_succ, List.getElem?_cons_zero, and_true] at hD; simp [hD])
            simp only [an1, an2]
            refine Free.Chain.no [(15, 32), (19, 36), (10, 27)] [] 10 true 27 (by kernel_rfl) (by kernel_rfl) rfl (by kernel_rfl) ?_ ?_
            · (intro ev W hR hD; simp only [Free.AllDeps, Free.At, List.getElem?_cons_succ, List.getElem?_cons_zero, and_true] at hD; simp [hD])
            simp only [an1, an2]
            refine Free.Chain.exG ?_ [(10, 27), (20, 37), (7, 24)] [] 7 false 24 (by kernel_rfl) (by kernel_rfl) rfl (by kernel_rfl) Free.Bel.refl ?_ ?_
            rotate_left 2
            simp only [an1, an2]
            rotate_left
            rotate_left
            · (intro ev W hb hR hO hD; have hS := hF W hR; obtain ⟨hb1, hb2, hb3⟩ := hb; simp only [Free.AllDeps, Free.AllOuts, Free.At, al1, al2, al3, al4, al5, and_true] at hO hD; refine ⟨by simp [hD], ?_⟩; go_simp; rfl)
            refine Free.Chain.ex ?_ [(7, 24), (21, 38)] [] (by kernel_rfl) (by kernel_rfl) rfl Free.Bel.refl ?_ ?_
            rotate_left 2
            simp only [an1, an2]
            rotate_left
            rotate_left
            · (intro ev W hb hR hO hD; have hS := hF W hR; obtain ⟨hb1, hb2, hb3⟩ := hb; simp only [Free.AllDeps, Free.AllOuts, Free.At, al1, al2, al3, al4, al5, and_true] at hO hD; go_simp; rfl)
            intro xs w' hR hV
            simp only [Free.AllV, Free.At, List.length_cons, List.length_nil, Nat.reduceAdd, List.getElem?_cons_succ, List.getElem?_cons_zero, true_and] at hV
            simp only [Free.putsFrom, Act.put, Nat.zero_add, Nat.reduceAdd, hV, List.setIfInBounds_toArray, List.set_cons_succ, List.set_cons_zero]
            have HB2 : Free.Bel w1 w' := HQ w' hR
            clear hR hV hF HQ
            go_wp2_with fail
            go_roundw
            case rel => exact ⟨0 + 1, a, by omega, by go_num, hnext, (fun h => by omega), HPN, HB2⟩
            case measure => simp [intOf]; omega
          · obtain ⟨j, hj⟩ : ∃ j, j + 1 = k := ⟨k - 1, by omega⟩
            have hjl : j < day.length := by omega
            have hjlt : (j : Int) < day.length := by omega
            have hwj : IntKind.i64.wrap ((k : Int) - 1) = (j : Int) := by rw [IntWalk.i64_in _ (by omega)]; omega
            have e2 := keepsB hww (HCP.out j hjl)
            rw [HPR.out j hjl hj] at e2
            have g1 : decide (0 < (k : Int)) = true := decide_eq_true (by omega)
            have HJ := Lib.hid hj
            have hkp : 0 < k := by omega
            clear hj hk0
            by_cases hle : a ≤ prev
            · have g2 : decide (a ≤ prev) = true := decide_eq_true hle
              obtain rfl : r = false := by rw [← hst2.out, decide_eq_false (show ¬ prev < a by omega), Bool.false_and]
              clear hst2
              go_wp2_with fail
              have HQ : ∀ W, Free.Bel wr.drew W → Free.Bel w1 W := fun W hW => bt hB (Free.Bel.first hW)
              have hF : ∀ W, Free.Bel wr.drew W → (W.cell? ⟨w.heap.size, 0, none⟩ = some (.int .i64 h) ∧ W.cell? ⟨w.heap.size, 1, none⟩ = some (.slice p xs.length cp) ∧ W.cell? ⟨b, off + k, none⟩ = some (.int .i64 a) ∧ W.cell? ⟨b, off + j, none⟩ = some (.int .i64 prev)) ∧ Below w.heap.size w W := fun W hW => ⟨⟨(FA W (HQ W hW)).1, (FA W (HQ W hW)).2, keepsB (Free.Bel.first hW) e1, keepsB (Free.Bel.first hW) e2⟩, hww.trans ((Free.Bel.first hW).mono hww.size)⟩
              refine Free.wp_free (R := Free.Bel) (by kernel_rfl) (by kernel_rfl) Free.Bel.refl Free.Bel.trans ?_
              refine Free.Chain.ex ?_ [] [2] (by kernel_rfl) (by kernel_rfl) rfl Free.Bel.refl ?_ ?_
              rotate_left 2
              simp only [an1, an2]
              refine Free.Chain.ex ?_ [] [1] (by kernel_rfl) (by kernel_rfl) rfl Free.Bel.refl ?_ ?_
              rotate_left 2
              simp only [an1, an2]
              refine Free.Chain.ex ?_ [] [5] (by kernel_rfl) (by kernel_rfl) rfl Free.Bel.refl ?_ ?_
              rotate_left 2
              simp only [an1, an2]
              refine Free.Chain.ex ?_ [(1, 18), (2, 19)] [] (by kernel_rfl) (by kernel_rfl) rfl Free.Bel.refl ?_ ?_
              rotate_left 2
              simp only [an1, an2]
              refine Free.Chain.ex ?_ [(3, 20)] [] (by kernel_rfl) (by kernel_rfl) rfl Free.Bel.refl ?_ ?_
              rotate_left 2
              simp only [an1, an2]
              rotate_left
              iterate 5 (rotate_left; intro ev W hb hR hO hD; have hS := hF W hR; obtain ⟨hb1, hb2, hb3⟩ := hb; simp only [Free.AllDeps, Free.AllOuts, Free.At, al1, al2, al3, al4, al5, and_true] at hO hD; go_simp; rfl)
              refine Free.Chain.pr (fun v _ => v = .int .i64 r0) [(0, 17), (4, 21)] [] (by kernel_rfl) (by kernel_rfl) rfl (fun _ _ _ _ h => h) ?_ ?_
              · (intro ev W hb hR hO hD; have hS := hF W hR; obtain ⟨hb1, hb2, hb3⟩ := hb; simp only [Free.AllDeps, Free.AllOuts, Free.At, al1, al2, al3, al4, al5, and_true] at hO hD; obtain ⟨hS, hS2⟩ := hS; go_simp; refine yields_enter ?_; (with_reducible refine (rickR_v h a xs _ _ (HU.out.keeps hS2) r0 HR).mono ?_); rintro e W2 ⟨rfl, hB2⟩; exact ⟨_, rfl, hB2, rfl⟩)
              simp only [an1, an2]
              refine Free.Chain.ex ?_ [(5, 22)] [] (by kernel_rfl) (by kernel_rfl) rfl Free.Bel.refl ?_ ?_
              rotate_left 2
              simp only [an1, an2]
              refine Free.Chain.ex ?_ [(6, 23), (5, 22)] [] (by kernel_rfl) (by kernel_rfl) rfl Free.Bel.refl ?_ ?_
              rotate_left 2
              simp only [an1, an2]
              rotate_left
              iterate 2 (rotate_left; intro ev W hb hR hO hD; have hS := hF W hR; obtain ⟨hb1, hb2, hb3⟩ := hb; simp only [Free.AllDeps, Free.AllOuts, Free.At, al1, al2, al3, al4, al5, and_true] at hO hD; go_simp; rfl)
              refine Free.Chain.exG ?_ [(7, 24)] [5] 7 false 24 (by kernel_rfl) (by kernel_rfl) rfl (by kernel_rfl) Free.Bel.refl ?_ ?_
              rotate_left 2
              simp only [an1, an2]
              refine Free.Chain.exG ?_ [(8, 25), (7, 24)] [] 7 false 24 (by kernel_rfl) (by kernel_rfl) rfl (by kernel_rfl) Free.Bel.refl ?_ ?_
              rotate_left 2
              simp only [an1, an2]
              refine Free.Chain.exG ?_ [(9, 26), (7, 24), (7, 24)] [] 7 false 24 (by kernel_rfl) (by kernel_rfl) rfl (by kernel_rfl) Free.Bel.refl ?_ ?_
              rotate_left 2
              simp only [an1, an2]
              refine Free.Chain.exG ?_ [(10, 27)] [1] 10 true 27 (by kernel_rfl) (by kernel_rfl) rfl (by kernel_rfl) Free.Bel.refl ?_ ?_
              rotate_left 2
              simp only [an1, an2]
              refine Free.Chain.exG ?_ [(10, 27)] [5] 10 true 27 (by kernel_rfl) (by kernel_rfl) rfl (by kernel_rfl) Free.Bel.refl ?_ ?_
              rotate_left 2
              simp only [an1, an2]
              refine Free.Chain.exG ?_ [(12, 29), (10, 27)] [] 10 true 27 (by kernel_rfl) (by kernel_rfl) rfl (by kernel_rfl) Free.Bel.refl ?_ ?_
              rotate_left 2
              simp only [an1, an2]
              refine Free.Chain.exG ?_ [(11, 28), (13, 30), (10, 27)] [] 10 true 27 (by kernel_rfl) (by kernel_rfl) rfl (by kernel_rfl) Free.Bel.refl ?_ ?_
              rotate_left 2
              simp only [an1, an2]
              refine Free.Chain.exG ?_ [(14, 31), (10, 27)] [] 10 true 27 (by kernel_rfl) (by kernel_rfl) rfl (by kernel_rfl) Free.Bel.refl ?_ ?_
              rotate_left 2
              simp only [an1, an2]
              refine Free.Chain.exG ?_ [(10, 27)] [1] 10 true 27 (by kernel_rfl) (by kernel_rfl) rfl (by kernel_rfl) Free.Bel.refl ?_ ?_
              rotate_left 2
              simp only [an1, an2]
              refine Free.Chain.exG ?_ [(10, 27)] [5] 10 true 27 (by kernel_rfl) (by kernel_rfl) rfl (by kernel_rfl) Free.Bel.refl ?_ ?_
              rotate_left 2
              simp only [an1, an2]
              refine Free.Chain.exG ?_ [(16, 33), (17, 34), (10, 27)] [] 10 true 27 (by kernel_rfl) (by kernel_rfl) rfl (by kernel_rfl) Free.Bel.refl ?_ ?_
              rotate_left 2
              simp only [an1, an2]
              refine Free.Chain.exG ?_ [(18, 35), (10, 27)] [] 10 true 27 (by kernel_rfl) (by kernel_rfl) rfl (by kernel_rfl) Free.Bel.refl ?_ ?_
              rotate_left 2
              simp only [an1, an2]
              refine Free.Chain.exG ?_ [(15, 32), (19, 36), (10, 27)] [] 10 true 27 (by kernel_rfl) (by kernel_rfl) rfl (by kernel_rfl) Free.Bel.refl ?_ ?_
              rotate_left 2
              simp only [an1, an2]
              refine Free.Chain.exG ?_ [(10, 27), (20, 37), (7, 24)] [] 7 false 24 (by kernel_rfl) (by kernel_rfl) rfl (by kernel_rfl) Free.Bel.refl ?_ ?_
              rotate_left 2
              simp only [an1, an2]
              rotate_left
              iterate 14 (rotate_left; intro ev W hb hR hO hD; have hS := hF W hR; obtain ⟨hb1, hb2, hb3⟩ := hb; simp only [Free.AllDeps, Free.AllOuts, Free.At, al1, al2, al3, al4, al5, and_true] at hO hD; refine ⟨by simp [hD], ?_⟩; go_simp; rfl)
              refine Free.Chain.ex ?_ [(7, 24), (21, 38)] [] (by kernel_rfl) (by kernel_rfl) rfl Free.Bel.refl ?_ ?_
              rotate_left 2
              simp only [an1, an2]
              rotate_left
              rotate_left
              · (intro ev W hb hR hO hD; have hS := hF W hR; obtain ⟨hb1, hb2, hb3⟩ := hb; simp only [Free.AllDeps, Free.AllOuts, Free.At, al1, al2, al3, al4, al5, and_true] at hO hD; go_simp; rfl)
              intro xs w' hR hV
              simp only [Free.AllV, Free.At, List.length_cons, List.length_nil, Nat.reduceAdd, List.getElem?_cons_succ, List.getElem?_cons_zero, true_and] at hV
              simp only [Free.putsFrom, Act.put, Nat.zero_add, Nat.reduceAdd, hV, List.setIfInBounds_toArray, List.set_cons_succ, List.set_cons_zero]
              have HB2 : Free.Bel w1 w' := HQ w' hR
              clear hR hV hF HQ
              go_wp2_with fail
              go_ret
              exact ⟨rfl, HB9.out.trans (HB2.mono HB9.out.size)⟩
            · have g2 : decide (a ≤ prev) = false := decide_eq_false hle
              have hnext : Hid (turnF xs a (day.drop (k + 1)) = r) := by show _ = _; rw [← hst2.out, decide_eq_true (show prev < a by omega), Bool.true_and]
              clear hst2
              go_wp2_with fail
              have HQ : ∀ W, Free.Bel wr.drew W → Free.Bel w1 W := fun W hW => bt hB (Free.Bel.first hW)
              have hF : ∀ W, Free.Bel wr.drew W → (W.cell? ⟨w.heap.size, 0, none⟩ = some (.int .i64 h) ∧ W.cell? ⟨w.heap.size, 1, none⟩ = some (.slice p xs.length cp) ∧ W.cell? ⟨b, off + k, none⟩ = some (.int .i64 a) ∧ W.cell? ⟨b, off + j, none⟩ = some (.int .i64 prev)) ∧ Below w.heap.size w W := fun W hW => ⟨⟨(FA W (HQ W hW)).1, (FA W (HQ W hW)).2, keepsB (Free.Bel.first hW) e1, keepsB (Free.Bel.first hW) e2⟩, hww.trans ((Free.Bel.first hW).mono hww.size)⟩
              refine Free.wp_free (R := Free.Bel) (by kernel_rfl) (by kernel_rfl) Free.Bel.refl Free.Bel.trans ?_
              refine Free.Chain.ex ?_ [] [2] (by kernel_rfl) (by kernel_rfl) rfl Free.Bel.refl ?_ ?_
              rotate_left 2
              simp only [an1, an2]
              refine Free.Chain.ex ?_ [] [1] (by kernel_rfl) (by kernel_rfl) rfl Free.Bel.refl ?_ ?_
              rotate_left 2
              simp only [an1, an2]
              refine Free.Chain.ex ?_ [] [5] (by kernel_rfl) (by kernel_rfl) rfl Free.Bel.refl ?_ ?_
              rotate_left 2
              simp only [an1, an2]
              refine Free.Chain.ex ?_ [(1, 18), (2, 19)] [] (by kernel_rfl) (by kernel_rfl) rfl Free.Bel.refl ?_ ?_
              rotate_left 2
              simp only [an1, an2]
              refine Free.Chain.ex ?_ [(3, 20)] [] (by kernel_rfl) (by kernel_rfl) rfl Free.Bel.refl ?_ ?_
              rotate_left 2
              simp only [an1, an2]
              rotate_left
              iterate 5 (rotate_left; intro ev W hb hR hO hD; have hS := hF W hR; obtain ⟨hb1, hb2, hb3⟩ := hb; simp only [Free.AllDeps, Free.AllOuts, Free.At, al1, al2, al3, al4, al5, and_true] at hO hD; go_simp; rfl)
              refine Free.Chain.pr (fun v _ => v = .int .i64 r0) [(0, 17), (4, 21)] [] (by kernel_rfl) (by kernel_rfl) rfl (fun _ _ _ _ h => h) ?_ ?_
              · (intro ev W hb hR hO hD; have hS := hF W hR; obtain ⟨hb1, hb2, hb3⟩ := hb; simp only [Free.AllDeps, Free.AllOuts, Free.At, al1, al2, al3, al4, al5, and_true] at hO hD; obtain ⟨hS, hS2⟩ := hS; go_simp; refine yields_enter ?_; (with_reducible refine (rickR_v h a xs _ _ (HU.out.keeps hS2) r0 HR).mono ?_); rintro e W2 ⟨rfl, hB2⟩; exact ⟨_, rfl, hB2, rfl⟩)
              simp only [an1, an2]
              refine Free.Chain.ex ?_ [(5, 22)] [] (by kernel_rfl) (by kernel_rfl) rfl Free.Bel.refl ?_ ?_
              rotate_left 2
              simp only [an1, an2]
              refine Free.Chain.ex ?_ [(6, 23), (5, 22)] [] (by kernel_rfl) (by kernel_rfl) rfl Free.Bel.refl ?_ ?_
              rotate_left 2
              simp only [an1, an2]
              rotate_left
              iterate 2 (rotate_left; intro ev W hb hR hO hD; have hS := hF W hR; obtain ⟨hb1, hb2, hb3⟩ := hb; simp only [Free.AllDeps, Free.AllOuts, Free.At, al1, al2, al3, al4, al5, and_true] at hO hD; go_simp; rfl)
              refine Free.Chain.exG ?_ [(7, 24)] [5] 7 false 24 (by kernel_rfl) (by kernel_rfl) rfl (by kernel_rfl) Free.Bel.refl ?_ ?_
              rotate_left 2
              simp only [an1, an2]
              refine Free.Chain.exG ?_ [(8, 25), (7, 24)] [] 7 false 24 (by kernel_rfl) (by kernel_rfl) rfl (by kernel_rfl) Free.Bel.refl ?_ ?_
              rotate_left 2
              simp only [an1, an2]
              refine Free.Chain.exG ?_ [(9, 26), (7, 24), (7, 24)] [] 7 false 24 (by kernel_rfl) (by kernel_rfl) rfl (by kernel_rfl) Free.Bel.refl ?_ ?_
              rotate_left 2
              simp only [an1, an2]
              refine Free.Chain.exG ?_ [(10, 27)] [1] 10 true 27 (by kernel_rfl) (by kernel_rfl) rfl (by kernel_rfl) Free.Bel.refl ?_ ?_
              rotate_left 2
              simp only [an1, an2]
              refine Free.Chain.exG ?_ [(10, 27)] [5] 10 true 27 (by kernel_rfl) (by kernel_rfl) rfl (by kernel_rfl) Free.Bel.refl ?_ ?_
              rotate_left 2
              simp only [an1, an2]
              refine Free.Chain.exG ?_ [(12, 29), (10, 27)] [] 10 true 27 (by kernel_rfl) (by kernel_rfl) rfl (by kernel_rfl) Free.Bel.refl ?_ ?_
              rotate_left 2
              simp only [an1, an2]
              refine Free.Chain.exG ?_ [(11, 28), (13, 30), (10, 27)] [] 10 true 27 (by kernel_rfl) (by kernel_rfl) rfl (by kernel_rfl) Free.Bel.refl ?_ ?_
              rotate_left 2
              simp only [an1, an2]
              refine Free.Chain.exG ?_ [(14, 31), (10, 27)] [] 10 true 27 (by kernel_rfl) (by kernel_rfl) rfl (by kernel_rfl) Free.Bel.refl ?_ ?_
              rotate_left 2
              simp only [an1, an2]
              refine Free.Chain.exG ?_ [(10, 27)] [1] 10 true 27 (by kernel_rfl) (by kernel_rfl) rfl (by kernel_rfl) Free.Bel.refl ?_ ?_
              rotate_left 2
              simp only [an1, an2]
              refine Free.Chain.exG ?_ [(10, 27)] [5] 10 true 27 (by kernel_rfl) (by kernel_rfl) rfl (by kernel_rfl) Free.Bel.refl ?_ ?_
              rotate_left 2
              simp only [an1, an2]
              refine Free.Chain.exG ?_ [(16, 33), (17, 34), (10, 27)] [] 10 true 27 (by kernel_rfl) (by kernel_rfl) rfl (by kernel_rfl) Free.Bel.refl ?_ ?_
              rotate_left 2
              simp only [an1, an2]
              refine Free.Chain.exG ?_ [(18, 35), (10, 27)] [] 10 true 27 (by kernel_rfl) (by kernel_rfl) rfl (by kernel_rfl) Free.Bel.refl ?_ ?_
              rotate_left 2
              simp only [an1, an2]
              refine Free.Chain.exG ?_ [(15, 32), (19, 36), (10, 27)] [] 10 true 27 (by kernel_rfl) (by kernel_rfl) rfl (by kernel_rfl) Free.Bel.refl ?_ ?_
              rotate_left 2
              simp only [an1, an2]
              refine Free.Chain.exG ?_ [(10, 27), (20, 37), (7, 24)] [] 7 false 24 (by kernel_rfl) (by kernel_rfl) rfl (by kernel_rfl) Free.Bel.refl ?_ ?_
              rotate_left 2
              simp only [an1, an2]
              rotate_left
              iterate 14 (rotate_left; intro ev W hb hR hO hD; have hS := hF W hR; obtain ⟨hb1, hb2, hb3⟩ := hb; simp only [Free.AllDeps, Free.AllOuts, Free.At, al1, al2, al3, al4, al5, and_true] at hO hD; refine ⟨by simp [hD], ?_⟩; go_simp; rfl)
              refine Free.Chain.ex ?_ [(7, 24), (21, 38)] [] (by kernel_rfl) (by kernel_rfl) rfl Free.Bel.refl ?_ ?_
              rotate_left 2
              simp only [an1, an2]
              rotate_left
              rotate_left
              · (intro ev W hb hR hO hD; have hS := hF W hR; obtain ⟨hb1, hb2, hb3⟩ := hb; simp only [Free.AllDeps, Free.AllOuts, Free.At, al1, al2, al3, al4, al5, and_true] at hO hD; go_simp; rfl)
              intro xs w' hR hV
              simp only [Free.AllV, Free.At, List.length_cons, List.length_nil, Nat.reduceAdd, List.getElem?_cons_succ, List.getElem?_cons_zero, true_and] at hV
              simp only [Free.putsFrom, Act.put, Nat.zero_add, Nat.reduceAdd, hV, List.setIfInBounds_toArray, List.set_cons_succ, List.set_cons_zero]
              have HB2 : Free.Bel w1 w' := HQ w' hR
              clear hR hV hF HQ
              go_wp2_with fail
              go_roundw
              case rel => exact ⟨k + 1, a, by omega, by go_num, hnext, (fun h => by omega), HPN, HB2⟩
              case measure => simp [intOf]; omega
      · obtain rfl : k = day.length := by omega
        obtain rfl : r = true := by rw [← hrest.out, List.drop_length]; rfl
        go_wp2_with fail
        go_ret
        exact ⟨rfl, hww⟩
  · have k4 : decide (h < (day.length : Int)) = true := decide_eq_true (by omega)
    obtain rfl : r = false := by rw [← hr.out, turnB, decide_eq_false hl, Bool.false_and]
    go_enter Tryd.func58, Tryd.ntmps58
    go_wp2_with fail
    go_ret
    exact ⟨rfl, hB0⟩

set_option maxRecDepth 100000 in
set_option maxHeartbeats 4000000 in
theorem validR_v (h : Int) (xs : List (Int × Int × Int)) (ds : List (List Int)) (u v : Value) (w : World) (hu : RL xs u w) (hv : DL ds v w) (hpos : ∀ x ∈ xs, 1 ≤ x.1) (r : Bool) (hr : Hid (validB h xs ds = r)) :
    Calls Tryd.prog 57 #[.agg #[.int .i64 h, u], v] w fun e w' => e = .returned (.bool r) ∧ Below w.heap.size w w' := by
  have HU := Lib.hid hu
  obtain ⟨p, cp, rfl, _, _⟩ := hu
  obtain ⟨q, cq, rfl, hm, hq⟩ := hv
  unfold maxLen at hm
  have HC := Lib.hid hq
  have HPOS := Lib.hid hpos
  clear hq hpos
  have hB0 : Below w.heap.size w (w.alloc (.cells #[.int .i64 h, .slice p xs.length cp] 24)) := (Below.refl _ w).alloc (Nat.le_refl _) _
  have n0 : (w.alloc (.cells #[.int .i64 h, .slice p xs.length cp] 24)).cell? ⟨w.heap.size, 0, none⟩ = some (.int .i64 h) := by simp [go_sem]
  have n1 : (w.alloc (.cells #[.int .i64 h, .slice p xs.length cp] 24)).cell? ⟨w.heap.size, 1, none⟩ = some (.slice p xs.length cp) := by simp [go_sem]
  have FA : ∀ W, Free.Bel (w.alloc (.cells #[.int .i64 h, .slice p xs.length cp] 24)) W → W.cell? ⟨w.heap.size, 0, none⟩ = some (.int .i64 h) ∧ W.cell? ⟨w.heap.size, 1, none⟩ = some (.slice p xs.length cp) := fun W hW => ⟨keepsB hW n0, keepsB hW n1⟩
  clear n0 n1
  by_cases hl : ds.length ≤ 60
  · have k4 : decide (60 < (ds.length : Int)) = false := decide_eq_false (by omega)
    have hr2 : Hid (ds.all (turnB h xs) = r) := by show _ = _; rw [← hr.out, validB, decide_eq_true hl, Bool.true_and]
    clear hr
    go_enter Tryd.func57, Tryd.ntmps57
    go_wp2_with fail
    have HB9 := Lib.hid hB0
    clear hB0 k4
    generalize (w.alloc (.cells #[.int .i64 h, .slice p xs.length cp] 24)) = w1 at *
    go_loopw [12, 6] (fun i _ wr => ∃ k : Nat, k ≤ ds.length ∧ i = .int .i64 k ∧ Hid ((ds.drop k).all (turnB h xs) = r) ∧ Free.Bel w1 wr) (fun i _ _ => ds.length - (intOf i).toNat)
    case atStart => exact ⟨0, Nat.zero_le _, rfl, hr2, Free.Bel.refl _⟩
    case round =>
      obtain ⟨k, hk, rfl, hrest, hB⟩ := hrel
      have hww : Below w.heap.size w wr := HB9.out.trans (hB.mono HB9.out.size)
      by_cases hlt : k < ds.length
      · have hx : ds ≠ [] := by intro e; simp [e] at hlt
        obtain ⟨b, off, rfl, hcp⟩ := HC.out hx
        obtain ⟨u1, d1, i1⟩ := hcp k hlt
        have e1 := keepsB hww d1
        have HI := Lib.hid (i1.keeps hww)
        have hklt : (k : Int) < ds.length := by omega
        have hst : Hid ((turnB h xs ds[k] && (ds.drop (k + 1)).all (turnB h xs)) = r) := by
          show _ = _
          rw [← hrest.out, List.drop_eq_getElem_cons hlt]; rfl
        obtain ⟨r0, hr0⟩ : ∃ r0, turnB h xs ds[k] = r0 := ⟨_, rfl⟩
        have HR : Hid (turnB h xs ds[k] = r0) := hr0
        rw [hr0] at hst
        clear hcp hx hrest d1 i1 hr0
        generalize ds[k] = day at *
        cases r0
        · obtain rfl : r = false := by rw [← hst.out, Bool.false_and]
          go_wp2_with fail
          refine (turnR_v h xs day _ _ _ (HU.out.keeps hww) HI.out HPOS.out false HR).mono ?_
          rintro e w2 ⟨rfl, hB2⟩
          go_wp2_with fail
          go_ret
          exact ⟨rfl, hww.trans (hB2.mono hww.size)⟩
        · have hnext : Hid ((ds.drop (k + 1)).all (turnB h xs) = r) := by show _ = _; rw [← hst.out, Bool.true_and]
          go_wp2_with fail
          refine (turnR_v h xs day _ _ _ (HU.out.keeps hww) HI.out HPOS.out true HR).mono ?_
          rintro e w2 ⟨rfl, hB2⟩
          go_wp2_with fail
          go_roundw
          case rel => exact ⟨k + 1, by omega, by go_num, hnext, bt hB hB2⟩
          case measure => simp [intOf]; omega
      · obtain rfl : k = ds.length := by omega
        obtain rfl : r = true := by rw [← hrest.out, List.drop_length]; rfl
        go_wp2_with fail
        go_ret
        exact ⟨rfl, hww⟩
  · have k4 : decide (60 < (ds.length : Int)) = true := decide_eq_true (by omega)
    obtain rfl : r = false := by rw [← hr.out, validB, decide_eq_false hl, Bool.false_and]
    go_enter Tryd.func57, Tryd.ntmps57
    go_wp2_with fail
    go_ret
    exact ⟨rfl, hB0⟩
end Go.Proofs.YtknpglgpkkhhiaaDoor

/- Two numbers and two chances without an error. -/
namespace Go.Proofs.YtknpglgpkkhhiaaDoor
set_option linter.unusedSimpArgs false
set_option linter.unusedVariables false
open Go.RowKit

theorem riskedE_zero {lo hi g b sn sd bn bd : Int} (h : riskedE lo hi g b sn sd bn bd = 0) : (lo ≤ g ∧ g ≤ hi) ∧ (lo ≤ b ∧ b ≤ hi) ∧ g < b ∧ givenB sn sd = true ∧ givenB bn bd = true := by
  unfold riskedE at h
  have h2 : inB lo hi [g, b] = true := by
    cases hm : inB lo hi [g, b]
    · rw [hm] at h; simp [firstE, unlessV] at h
    · rfl
  have h3 : ([(sn, sd), (bn, bd)].all fun x => givenB x.1 x.2) = true := by
    cases hm : ([(sn, sd), (bn, bd)].all fun x => givenB x.1 x.2)
    · rw [h2, hm] at h; simp [firstE, unlessV] at h
    · rfl
  have h4 : decide (g < b) = true := by
    cases hm : decide (g < b)
    · rw [h2, h3, hm] at h; simp [firstE, unlessV] at h
    · rfl
  simp [inB] at h2
  simp at h3 h4
  exact ⟨by omega, by omega, h4, h3.1, h3.2⟩
theorem Kept.below_of {B mb : Nat} {a w w' : World} (h : Kept mb w w') (h0 : Below B a w) (hm : B ≤ mb) (hs : B ≤ w.heap.size) : Below B a w' :=
  ⟨h.os.trans h0.os, h.tape.trans h0.tape, h.output.trans h0.output, Nat.le_trans h0.size h.size, fun k hk => (h.block k (by omega) (by omega)).trans (h0.block k hk)⟩

end Go.Proofs.YtknpglgpkkhhiaaDoor

/- Rules: Good, and the reference's. -/
namespace Go.Proofs.YtknpglgpkkhhiaaDoor
set_option linter.unusedSimpArgs false
set_option linter.unusedVariables false
open Go.RowKit Go.Proofs.YtknpglgpkkhhiaaDoor.ML Go.Proofs.YtknpglgpkkhhiaaDoor.Samp

/-- The error of a rule, of two numbers and of two chances. -/
def goodE (N lo hi g b o a sn sd bn bd : Int) : Int := firstE [unlessV (drawB N o a) 13, riskedE lo hi g b sn sd bn bd]

end Go.Proofs.YtknpglgpkkhhiaaDoor

/- Rules: Curve. -/
namespace Go.Proofs.YtknpglgpkkhhiaaDoor
set_option linter.unusedSimpArgs false
set_option linter.unusedVariables false
open Go.RowKit Go.Proofs.YtknpglgpkkhhiaaDoor.ML Go.Proofs.YtknpglgpkkhhiaaDoor.Samp

/-- The chance that a rule accepts, as two numbers. -/
def partP (N D o f : Int) : Int × Int := (((lowest (mostI N D o f).toNat (chI N o).toNat).1 : Nat), ((lowest (mostI N D o f).toNat (chI N o).toNat).2 : Nat))
theorem partP_eq (N D o f : Int) : mostV N D o f = encP (partP N D o f) := rfl
theorem partP_val {N D o f p q : Int} (h : partP N D o f = (p, q)) : mostV N D o f = .agg #[.int .i64 p, .int .i64 q] := by rw [partP_eq, h]; rfl
/-- The chances of the first k numbers of dirty bags from lo on. -/
def curveL (N lo o f : Int) (k : Nat) : List (Int × Int) := (List.range k).map fun (i : Nat) => partP N (lo + i) o f
def cellsP (xs : List (Int × Int)) : List Value := xs.flatMap fun x => [.int .i64 x.1, .int .i64 x.2]
theorem T.infoPart : (Tryd.prog.info? 51).map (fun i => (i.zero, i.size, i.bytes)) = some (some (.agg #[.int .i64 0, .int .i64 0]), 2, 16) := by kernel_rfl
theorem curveL_succ (N lo o f : Int) (k : Nat) : curveL N lo o f (k + 1) = curveL N lo o f k ++ [partP N (lo + k) o f] := by simp [curveL, List.range_succ]
theorem cellsP_append (xs ys : List (Int × Int)) : cellsP (xs ++ ys) = cellsP xs ++ cellsP ys := by simp [cellsP]
theorem cellsP_length (xs : List (Int × Int)) : (cellsP xs).length = xs.length * 2 := by
  induction xs with
  | nil => rfl
  | cons x r ih => simp only [cellsP, List.flatMap_cons, List.length_append, List.length_cons, List.length_nil] at ih ⊢; rw [ih]; omega
theorem cellsP_get (xs : List (Int × Int)) (k : Nat) (h : k < xs.length) : (cellsP xs)[k * 2]? = some (.int .i64 xs[k].1) ∧ (cellsP xs)[k * 2 + 1]? = some (.int .i64 xs[k].2) := by
  induction xs generalizing k with
  | nil => simp at h
  | cons x r ih =>
    cases k with
    | zero => simp [cellsP]
    | succ k =>
      have := ih k (by simpa using h)
      have e : cellsP (x :: r) = .int .i64 x.1 :: .int .i64 x.2 :: cellsP r := by simp [cellsP]
      rw [e, show (k + 1) * 2 = k * 2 + 1 + 1 by omega]
      simpa using this
/-- An owned row is a slice of fractions. -/
theorem PL.of_row {base : Nat} {e : TypeId} {v : Value} {n : Nat} {xs : List (Int × Int)} {w : World} (hn : xs.length = n) (hm : n ≤ maxLen) (h : w.ownsRow base e 2 v n (cellsP xs)) : PL xs v w := by
  subst hn
  rcases h.2 with ⟨rfl, h0⟩ | ⟨g, cap, cur, rfl, _, hg, _, _, _, ht⟩
  · have : xs = [] := List.eq_nil_of_length_eq_zero h0
    subst this
    exact PL.nil w
  · refine ⟨_, cap, rfl, hm, fun _ => ⟨g, 0, rfl, fun k hk => ?_⟩⟩
    have hc := h.cells (g := g) rfl
    obtain ⟨c1, c2⟩ := cellsP_get xs k hk
    have a1 := hc _ _ c1
    have a2 := hc _ _ c2
    simp only [Addr.add] at a1 a2
    refine ⟨?_, by simpa using a2⟩
    by_cases h0 : k = 0
    · subst h0; simpa using a1
    · rw [if_neg (by omega)] at a1; simpa using a1

end Go.Proofs.YtknpglgpkkhhiaaDoor

/- A rick more: where it stands. -/
namespace Go.Proofs.YtknpglgpkkhhiaaDoor
set_option linter.unusedSimpArgs false
set_option linter.unusedVariables false
open Go.RowKit

/-- Ahead of the first that is greater. -/
def insP (x : Rk) : List Rk → List Rk
  | [] => [x]
  | y :: r => if x.1 < y.1 then x :: y :: r else y :: insP x r
/-- Behind those that are less. -/
def insR (x : Rk) : List Rk → List Rk
  | [] => [x]
  | y :: r => if y.1 < x.1 then y :: insR x r else x :: y :: r
theorem insP_perm (x : Rk) : ∀ xs : List Rk, (insP x xs).Perm (x :: xs)
  | [] => .refl _
  | y :: r => by
    unfold insP
    split
    · exact .refl _
    · exact ((insP_perm x r).cons y).trans (.swap x y r)
theorem insR_perm (x : Rk) : ∀ xs : List Rk, (insR x xs).Perm (x :: xs)
  | [] => .refl _
  | y :: r => by
    unfold insR
    split
    · exact ((insR_perm x r).cons y).trans (.swap x y r)
    · exact .refl _
theorem ins_same (x : Rk) : ∀ xs : List Rk, (∀ y ∈ xs, y.1 ≠ x.1) → insP x xs = insR x xs
  | [], _ => rfl
  | y :: r, h => by
    have h0 := h y (by simp)
    unfold insP insR
    by_cases hlt : x.1 < y.1
    · rw [if_pos hlt, if_neg (by omega)]
    · rw [if_neg hlt, if_pos (by omega), ins_same x r fun y hy => h y (by simp [hy])]
theorem risesB_nodup {last : Int} {xs : List Rk} (h : risesB last xs = true) : (∀ x ∈ xs, last < x.1) ∧ (xs.map (·.1)).Nodup := by
  induction xs generalizing last with
  | nil => simp
  | cons y r ih =>
    simp only [risesB, inB, List.all_cons, List.all_nil, Bool.and_true, Bool.and_eq_true, decide_eq_true_eq] at h
    obtain ⟨⟨h1, _⟩, _, _, h7⟩ := h
    obtain ⟨g1, g2⟩ := ih h7
    refine ⟨fun x hx => ?_, ?_⟩
    · rcases List.mem_cons.1 hx with rfl | hx
      · omega
      · have := g1 x hx; omega
    · rw [List.map_cons, List.nodup_cons]
      refine ⟨fun hm => ?_, g2⟩
      obtain ⟨z, hz, he⟩ := List.mem_map.1 hm
      have := g1 z hz
      omega
theorem ins_watch {h : Int} {x : Rk} {xs : List Rk} : watchB h (insP x xs) = watchB h (insR x xs) ∧ (watchB h (insP x xs) = true → insP x xs = insR x xs) := by
  by_cases hn : ∀ y ∈ xs, y.1 ≠ x.1
  · have := ins_same x xs hn
    exact ⟨by rw [this], fun _ => this⟩
  · have hd : ∀ zs : List Rk, zs.Perm (x :: xs) → watchB h zs = false := by
      intro zs hp
      cases hw : watchB h zs
      · rfl
      · exfalso
        have h1 := (risesB_nodup (watchB_iff.1 hw).2.2).2
        have h2 := ((hp.map (·.1)).nodup_iff).1 h1
        rw [List.map_cons, List.nodup_cons] at h2
        refine hn fun y hy he => h2.1 ?_
        rw [← he]
        exact List.mem_map.2 ⟨y, hy, rfl⟩
    rw [hd _ (insP_perm x xs), hd _ (insR_perm x xs)]
    exact ⟨rfl, fun h => by cases h⟩
/-- Where the reference puts it. -/
theorem insR_split (x : Rk) : ∀ (xs : List Rk) (k : Nat), k ≤ xs.length → (∀ j (hj : j < xs.length), j < k → xs[j].1 < x.1) → (∀ hk : k < xs.length, ¬ xs[k].1 < x.1) → insR x xs = xs.take k ++ x :: xs.drop k
  | [], k, _, _, _ => by simp [insR]
  | y :: r, 0, _, _, h => by
    have := h (by simp)
    simp only [List.getElem_cons_zero] at this
    simp [insR, this]
  | y :: r, k + 1, hk, h1, h2 => by
    have h0 := h1 0 (by simp) (by omega)
    simp only [List.getElem_cons_zero] at h0
    rw [insR, if_pos h0, insR_split x r k (by simpa using hk) (fun j hj hjk => h1 (j + 1) (Nat.succ_lt_succ hj) (by omega)) (fun hk' => h2 (Nat.succ_lt_succ hk'))]
    simp
theorem insP_split (x : Rk) : ∀ (xs : List Rk) (k : Nat), k ≤ xs.length → (∀ j (hj : j < xs.length), j < k → ¬ x.1 < xs[j].1) → (∀ hk : k < xs.length, x.1 < xs[k].1) → insP x xs = xs.take k ++ x :: xs.drop k
  | [], k, _, _, _ => by simp [insP]
  | y :: r, 0, _, _, h => by
    have := h (by simp)
    simp only [List.getElem_cons_zero] at this
    simp [insP, this]
  | y :: r, k + 1, hk, h1, h2 => by
    have h0 := h1 0 (by simp) (by omega)
    simp only [List.getElem_cons_zero] at h0
    rw [insP, if_neg h0, insP_split x r k (by simpa using hk) (fun j hj hjk => h1 (j + 1) (Nat.succ_lt_succ hj) (by omega)) (fun hk' => h2 (Nat.succ_lt_succ hk'))]
    simp
end Go.Proofs.YtknpglgpkkhhiaaDoor

/- The program's played. -/
namespace Go.Proofs.YtknpglgpkkhhiaaDoor
set_option linter.unusedSimpArgs false
set_option linter.unusedVariables false
open Go.RowKit Go.Proofs.YtknpglgpkkhhiaaDoor.Free2

theorem T.infoHeat : (Tryd.prog.info? 104).map (fun i => (i.zero, i.size, i.bytes)) = some (some (.agg #[.int .i64 0, .int .i64 0]), 2, 16) := by kernel_rfl
def HeapIs (b : Nat) (o : Obj) (W : World) : Prop := W.heap[b]? = some o
theorem HeapIs.kept {b : Nat} {o : Obj} : ∀ a c : World, Below a.heap.size a c → HeapIs b o a → HeapIs b o c := fun a c h k => (h.block b (lt_of_heap k)).trans k
/-- The program's played at work. -/
structure PlI (w : World) (h : Int) (p : Option Addr) (n cp y0 s0 : Nat) (S : Nat → Int) (v : Value) (hs : List (Int × Int)) (W : World) : Prop where
  bel : Below w.heap.size w W
  a0 : W.heap[w.heap.size]? = some (.cells #[.int .i64 h, .slice p n cp] 24 (0, 0))
  rz : W.heap[w.heap.size + 1]? = some (.cells (arrV fun _ => 0) 109 (0, 0))
  yc : W.heap[y0]? = some (.cells #[.int .i64 h, .slice p n cp, .map none, .slice none 0 0] 144 (0, 0))
  sc : W.heap[s0]? = some (.cells (arrV S) 109 (0, 0))
  o1 : w.heap.size + 1 < y0
  o2 : y0 < s0
  own : W.ownsRow (s0 + 1) 104 2 v hs.length (cellsP hs)
section
variable {w W W' : World} {h : Int} {p : Option Addr} {n cp y0 s0 : Nat} {S : Nat → Int} {v : Value} {hs : List (Int × Int)}
theorem PlI.step (H : PlI w h p n cp y0 s0 S v hs W) (hB : Free.Bel W W') : PlI w h p n cp y0 s0 S v hs W' :=
  ⟨H.bel.trans (hB.mono H.bel.size), (hB.block _ (lt_of_heap H.a0)).trans H.a0, (hB.block _ (lt_of_heap H.rz)).trans H.rz, (hB.block _ (lt_of_heap H.yc)).trans H.yc, (hB.block _ (lt_of_heap H.sc)).trans H.sc, H.o1, H.o2, bel_row H.own hB⟩
theorem PlI.facts (H : PlI w h p n cp y0 s0 S v hs W) : ∀ X, Free.Bel W X → X.cell? ⟨w.heap.size, 0, none⟩ = some (.int .i64 h) ∧ X.cell? ⟨w.heap.size, 1, none⟩ = some (.slice p n cp) ∧ X.cell? ⟨y0, 1, none⟩ = some (.slice p n cp) ∧ X.cell? ⟨s0, 0, none⟩ = some (.int .i64 (S 0)) ∧ X.cell? ⟨s0, 1, none⟩ = some (.int .i64 (S 1)) ∧ X.cell? ⟨s0, 2, none⟩ = some (.int .i64 (S 2)) ∧ X.cell? ⟨s0, 3, none⟩ = some (.int .i64 (S 3)) :=
  fun X hX => ⟨keepsB hX (cell_of_heap H.a0 rfl), keepsB hX (cell_of_heap H.a0 rfl), keepsB hX (cell_of_heap H.yc rfl), keepsB hX (cell_of_heap H.sc rfl), keepsB hX (cell_of_heap H.sc rfl), keepsB hX (cell_of_heap H.sc rfl), keepsB hX (cell_of_heap H.sc rfl)⟩
theorem PlI.grow {v' : Value} {hs' : List (Int × Int)} {b : World} (H : PlI w h p n cp y0 s0 S v hs W) (hR : RowK v W v' b) (ho : b.ownsRow (s0 + 1) 104 2 v' hs'.length (cellsP hs')) : PlI w h p n cp y0 s0 S v' hs' b := by
  have hs := lt_of_heap H.sc
  have hB := hR.below H.own (by omega)
  have o1 := H.o1
  have o2 := H.o2
  exact ⟨H.bel.trans (hB.mono (by omega)), (hB.block _ (by omega)).trans H.a0, (hB.block _ (by omega)).trans H.rz, (hB.block _ (by omega)).trans H.yc, (hB.block _ (by omega)).trans H.sc, H.o1, H.o2, ho⟩
theorem PlI.set {S' : Nat → Int} (H : PlI w h p n cp y0 s0 S v hs W) : PlI w h p n cp y0 s0 S' v hs ((((W.setCell ⟨s0, 0, none⟩ (.int .i64 (S' 0))).setCell ⟨s0, 1, none⟩ (.int .i64 (S' 1))).setCell ⟨s0, 2, none⟩ (.int .i64 (S' 2))).setCell ⟨s0, 3, none⟩ (.int .i64 (S' 3))) := by
  have o1 := H.o1
  have o2 := H.o2
  refine ⟨(((H.bel.setCell (by simp; omega) _).setCell (by simp; omega) _).setCell (by simp; omega) _).setCell (by simp; omega) _, ?_, ?_, ?_, four_heap H.sc, o1, o2, ownsRow_setCell_below (ownsRow_setCell_below (ownsRow_setCell_below (ownsRow_setCell_below H.own (by simp) _) (by simp) _) (by simp) _) (by simp) _⟩
  · exact heap_other (heap_other (heap_other (heap_other H.a0 (by simp; omega)) (by simp; omega)) (by simp; omega)) (by simp; omega)
  · exact heap_other (heap_other (heap_other (heap_other H.rz (by simp; omega)) (by simp; omega)) (by simp; omega)) (by simp; omega)
  · exact heap_other (heap_other (heap_other (heap_other H.yc (by simp; omega)) (by simp; omega)) (by simp; omega)) (by simp; omega)
end
theorem all_bad {α : Type} {f : α → Bool} {l : List α} {k : Nat} (h : k < l.length) (hb : f l[k] = false) : l.all f = false := by
  rw [List.all_eq_false]
  exact ⟨_, List.getElem_mem h, by simp [hb]⟩
/-- The heat of a place that is hot. -/
def heatAt (xs : List Rk) (d : Int) (i : Int) : Int × Int := (d, ((xs[i.toNat]?).map (·.1)).getD 0)
def PlayedP (h : Int) (xs : List Rk) (ds : List (List Int)) (e : Ending) (w' : World) : Prop :=
  (watchB h xs = false ∧ ∃ S, e = .returned (.tuple #[.pointer none, stV S, .slice none 0 0, .int .i64 70])) ∨
  (watchB h xs = true ∧ validB h xs ds = false ∧ ∃ S, e = .returned (.tuple #[.pointer none, stV S, .slice none 0 0, .int .i64 72])) ∨
  (watchB h xs = true ∧ validB h xs ds = true ∧ ∃ yb v, e = .returned (.tuple #[.pointer (some ⟨yb, 0, none⟩), stV (waits (endR xs ds)), v, .int .i64 0]) ∧ PL (heatR 0 xs ds) v w')

set_option maxRecDepth 100000 in
set_option maxHeartbeats 16000000 in
theorem playedP_any (h : Int) (xs : List Rk) (ds : List (List Int)) (u v : Value) (w : World) (hT : TabR w) (hu : RL xs u w) (hv : DL ds v w) (hd : ds.length ≤ 1000) :
    Calls Tryd.prog 68 #[.agg #[.int .i64 h, u], v] w fun e w' => PlayedP h xs ds e w' ∧ Below w.heap.size w w' := by
  have HU := Lib.hid hu
  obtain ⟨p, cp, rfl, _, _⟩ := hu
  have hv0 := hv
  obtain ⟨q, cq, rfl, hm, hq⟩ := hv
  unfold maxLen at hm
  have HC := Lib.hid hq
  obtain ⟨i0, hi0, hz0, hz1, hz2⟩ := info_parts T.infoHeat
  have HZ := Lib.hid (And.intro hi0 (And.intro hz0 (And.intro hz1 hz2)))
  clear hi0 hz0 hz1 hz2 hq hv0
  have hb0 : Free.Bel w ((w.alloc (.cells #[.int .i64 h, .slice p xs.length cp] 24)).alloc (.cells #[.int .i64 0, .int .i64 0, .int .i64 0, .int .i64 0] 109)) := Bel.allocT (Bel.allocT (Free.Bel.refl _) _) _
  have m0 : ((w.alloc (.cells #[.int .i64 h, .slice p xs.length cp] 24)).alloc (.cells #[.int .i64 0, .int .i64 0, .int .i64 0, .int .i64 0] 109)).heap[w.heap.size]? = some (.cells #[.int .i64 h, .slice p xs.length cp] 24 (0, 0)) := heap_old (World.alloc_heap_new w _)
  have m1 : ((w.alloc (.cells #[.int .i64 h, .slice p xs.length cp] 24)).alloc (.cells #[.int .i64 0, .int .i64 0, .int .i64 0, .int .i64 0] 109)).heap[w.heap.size + 1]? = some (.cells (arrV fun _ => 0) 109 (0, 0)) := by
    have := World.alloc_heap_new (w.alloc (.cells #[.int .i64 h, .slice p xs.length cp] 24)) (.cells (arrV fun _ => 0) 109)
    simpa using this
  have FA : ∀ X, Free.Bel ((w.alloc (.cells #[.int .i64 h, .slice p xs.length cp] 24)).alloc (.cells #[.int .i64 0, .int .i64 0, .int .i64 0, .int .i64 0] 109)) X → X.cell? ⟨w.heap.size, 0, none⟩ = some (.int .i64 h) ∧ X.cell? ⟨w.heap.size, 1, none⟩ = some (.slice p xs.length cp) := fun X hX => ⟨keepsB hX (cell_of_heap m0 rfl), keepsB hX (cell_of_heap m0 rfl)⟩
  have KE : Free.Bel ((w.alloc (.cells #[.int .i64 h, .slice p xs.length cp] 24)).alloc (.cells #[.int .i64 0, .int .i64 0, .int .i64 0, .int .i64 0] 109)) ((w.alloc (.cells #[.int .i64 h, .slice p xs.length cp] 24)).alloc (.cells #[.int .i64 0, .int .i64 0, .int .i64 0, .int .i64 0] 109)) := Free.Bel.refl _
  cases hw : watchB h xs
  · have HCK := Lib.hid (checkP_v h xs _ ((w.alloc (.cells #[.int .i64 h, .slice p xs.length cp] 24)).alloc (.cells #[.int .i64 0, .int .i64 0, .int .i64 0, .int .i64 0] 109)) (hT.bel hb0) (HU.out.keeps hb0) 70 (by show _ = _; simp [hw]))
    have HW := Lib.hid hw
    have HM := Lib.hid (And.intro hb0 m1)
    clear hw hT hb0 m0 m1
    go_enter Tryd.func68, Tryd.ntmps68
    go_wp2_with fail
    refine HCK.out.mono ?_
    rintro e w1 ⟨rfl, hB1⟩
    have hr1 : w1.heap[w.heap.size + 1]? = some (.cells (arrV fun _ => 0) 109 (0, 0)) := (hB1.block _ (lt_of_heap HM.out.2)).trans HM.out.2
    obtain ⟨a0, a1, a2, a3, f0, f1, f2, f3⟩ := cells4 hr1
    have HR1 := Lib.hid hr1
    have HBE := Lib.hid (bt HM.out.1 hB1)
    clear hr1 hB1
    go_wp2_with fail
    have hcell := four_stores (x0 := .int .i64 0) (x1 := .int .i64 0) (x2 := .int .i64 0) (x3 := .int .i64 0) HR1.out
    exact bodyPost_ret (v := .tuple #[.pointer none, stV (fun _ => 0), .slice none 0 0, .int .i64 70]) (by simp [results, Tryd.results68, go_sem, hcell]) rfl ⟨.inl ⟨HW.out, _, rfl⟩, (((HBE.out.setCell (by simp) _).setCell (by simp) _).setCell (by simp) _).setCell (by simp) _⟩
  · have HCK := Lib.hid (checkP_v h xs _ ((w.alloc (.cells #[.int .i64 h, .slice p xs.length cp] 24)).alloc (.cells #[.int .i64 0, .int .i64 0, .int .i64 0, .int .i64 0] 109)) (hT.bel hb0) (HU.out.keeps hb0) 0 (by show _ = _; simp [hw]))
    have HOK := Lib.hid (watchB_ok hw)
    have hx4 : xs.length ≤ 4 := (watchB_iff.1 hw).2.1
    have HND := Lib.hid (risesB_nodup (watchB_iff.1 hw).2.2).2
    have HPOS : Hid (∀ x ∈ xs, 1 ≤ x.1) := fun x hx => (watchB_ok hw x hx).1
    have HW := Lib.hid hw
    have HM := Lib.hid (And.intro hb0 (And.intro m0 m1))
    clear hw hT hb0 m0 m1
    go_enter Tryd.func68, Tryd.ntmps68
    go_wp2_with fail
    refine HCK.out.mono ?_
    rintro e w1 ⟨rfl, hB1⟩
    have K1 : Free.Bel ((w.alloc (.cells #[.int .i64 h, .slice p xs.length cp] 24)).alloc (.cells #[.int .i64 0, .int .i64 0, .int .i64 0, .int .i64 0] 109)) w1 := hB1
    clear hB1 KE
    go_wp2_with fail
    have hsz1 : w.heap.size + 1 + 1 ≤ w1.heap.size := by have := K1.size; simp at this; omega
    have ky : Free.Bel w1 (w1.alloc (.cells #[.int .i64 h, .slice p xs.length cp, .map none, .slice none 0 0] 144)) := belAlloc _ _
    have hyb : (w1.alloc (.cells #[.int .i64 h, .slice p xs.length cp, .map none, .slice none 0 0] 144)).heap[w1.heap.size]? = some (.cells #[.int .i64 h, .slice p xs.length cp, .map none, .slice none 0 0] 144 (0, 0)) := World.alloc_heap_new _ _
    refine (now_any w1.heap.size xs _ _ (cell_of_heap (o := 1) hyb rfl) (HU.out.keeps (bt HM.out.1 (bt K1 ky))) hx4).mono ?_
    rintro e w2 ⟨rfl, hB2⟩
    have hPl0 : ∀ o, o = w2.alloc (.cells (arrV (waits xs)) 109) → PlI w h p xs.length cp w1.heap.size w2.heap.size (waits xs) (.slice none 0 0) [] o := by
      intro o ho
      have kz := bt K1 (bt ky hB2)
      have hq : (w1.alloc (.cells #[.int .i64 h, .slice p xs.length cp, .map none, .slice none 0 0] 144)).heap.size ≤ w2.heap.size := hB2.size
      simp at hq
      subst ho
      exact ⟨(bt HM.out.1 kz).alloc (bt HM.out.1 kz).size _, heap_old ((kz.block _ (lt_of_heap HM.out.2.1)).trans HM.out.2.1), heap_old ((kz.block _ (lt_of_heap HM.out.2.2)).trans HM.out.2.2), heap_old ((hB2.block _ (lt_of_heap hyb)).trans hyb), World.alloc_heap_new _ _, by omega, by omega, World.ownsRow_nil _ _ _ _⟩
    obtain ⟨y0, hy0⟩ : ∃ x, w1.heap.size = x := ⟨_, rfl⟩
    have HPL := Lib.hid hPl0
    have HY0 := Lib.hid hy0
    clear hPl0 hB2 hyb ky hsz1 K1 HM HCK FA
    rw [hy0] at HPL ⊢
    clear hy0 HY0
    go_wp2_with fail
    obtain ⟨s0, hs0⟩ : ∃ x, w2.heap.size = x := ⟨_, rfl⟩
    have hPl := HPL.out _ rfl
    rw [hs0] at hPl ⊢
    have HPL0 := Lib.hid hPl
    clear HPL hPl hs0
    generalize (w2.alloc _) = w3 at *
    go_loopw [36, 11] (fun i v wr => ∃ k : Nat, k ≤ ds.length ∧ i = .int .i64 k ∧ Hid ((ds.take k).all (turnB h xs) = true) ∧ PlI w h p xs.length cp y0 s0 (waits (endR xs (ds.take k))) v (heatR 0 xs (ds.take k)) wr) (fun i _ _ => ds.length - (intOf i).toNat)
    case atStart => exact ⟨0, Nat.zero_le _, rfl, rfl, by simpa [endR, heatR] using HPL0.out⟩
    case round =>
      obtain ⟨k, hk, rfl, hAll, hI⟩ := hrel
      obtain ⟨v0, hv0⟩ : ∃ x, x = u11 := ⟨_, rfl⟩
      subst hv0
      obtain ⟨wo, hwo⟩ : ∃ x, x = wr := ⟨_, rfl⟩
      subst hwo
      obtain ⟨S0, hS0⟩ : ∃ x, waits (endR xs (ds.take k)) = x := ⟨_, rfl⟩
      rw [hS0] at hI
      obtain ⟨H0, hH0⟩ : ∃ x, heatR 0 xs (ds.take k) = x := ⟨_, rfl⟩
      rw [hH0] at hI
      have HI := Lib.hid hI
      have HS0 := Lib.hid hS0
      have HH0 := Lib.hid hH0
      have hHl : Hid (H0.length ≤ 4 * 1000) := by
        show _ ≤ _
        rw [← hH0]
        have h9 := heatR_length 0 xs (ds.take k)
        have h8 : (ds.take k).length ≤ 1000 := by rw [List.length_take]; omega
        exact Nat.le_trans h9 (Nat.mul_le_mul hx4 h8)
      have FO := PlI.facts hI
      have KO : Free.Bel wo wo := Free.Bel.refl _
      have hwo : Hid (Below w.heap.size w wo) := hI.bel
      have hSb : Hid (∀ i, 0 ≤ S0 i ∧ S0 i ≤ 1000000) := by
        intro i
        have h8 : (ds.take k).length ≤ 1000 := by rw [List.length_take]; omega
        have := waits_bound HOK.out (ds.take k) i
        rw [hS0] at this
        omega
      clear hI hS0 hH0
      by_cases hlt : k < ds.length
      · have hx : ds ≠ [] := by intro e; simp [e] at hlt
        obtain ⟨b, off, rfl, hcp⟩ := HC.out hx
        obtain ⟨u1, d1, i1⟩ := hcp k hlt
        have e1 := keepsB hwo.out d1
        obtain ⟨day, hday⟩ : ∃ x, ds[k] = x := ⟨_, rfl⟩
        rw [hday] at i1
        have i2 := i1.keeps hwo.out
        obtain ⟨q1, c1, rfl, hm1, hq1⟩ := i2
        unfold maxLen at hm1
        have HQ1 := Lib.hid hq1
        have HDAY := Lib.hid hday
        have hklt : (k : Int) < ds.length := by omega
        have hkw : IntKind.i64.wrap ((k : Int) + 1) = (k : Int) + 1 := IntWalk.i64_in _ (by omega)
        clear i1 d1 hq1 hcp hx hday
        go_wp2_with fail
        have htb0 : (wo.alloc (.cells #[.bool false, .bool false, .bool false, .bool false] 149)).heap[wo.heap.size]? = some (.cells (arrB (tset xs [])) 149 (0, 0)) := by rw [tset_nil]; exact World.alloc_heap_new _ _
        have KT : Free.Bel wo (wo.alloc (.cells #[.bool false, .bool false, .bool false, .bool false] 149)) := belAlloc _ _
        have HT0 := Lib.hid (And.intro KT htb0)
        clear KT htb0 KO e1
        generalize (wo.alloc (.cells #[.bool false, .bool false, .bool false, .bool false] 149)) = wa at *
        go_loopw [44, 15] (fun i l wr => ∃ (j : Nat) (last : Int), j ≤ day.length ∧ i = .int .i64 j ∧ l = .int .i64 last ∧ Hid (turnF xs last (day.drop j) = turnF xs 0 day) ∧ Free.Bel wo wr ∧ wr.heap[wo.heap.size]? = some (.cells (arrB (tset xs (day.take j))) 149 (0, 0))) (fun i _ _ => day.length - (intOf i).toNat)
        case atStart => exact ⟨0, 0, Nat.zero_le _, rfl, rfl, rfl, HT0.out.1, HT0.out.2⟩
        case round =>
          obtain ⟨j, last, hj, rfl, rfl, hturn, hB, htb⟩ := hrel
          have hwr : Below w.heap.size w wr := hwo.out.trans (hB.mono hwo.out.size)
          by_cases hlt2 : j < day.length
          · obtain ⟨b2, off2, rfl, hcp2⟩ := HQ1.out (by intro e; simp [e] at hlt2)
            have e2 := keepsB hB (hcp2 j hlt2)
            have hjlt : (j : Int) < day.length := by omega
            have hst : Hid ((hasR xs day[j] && (decide (last < day[j]) && turnF xs day[j] (day.drop (j + 1)))) = turnF xs 0 day) := by
              show _ = _
              rw [← hturn.out, List.drop_eq_getElem_cons hlt2]; rfl
            have htk : Hid (day.take (j + 1) = day.take j ++ [day[j]]) := take_step day j hlt2
            obtain ⟨r0, hr0⟩ := RickIs.some xs day[j]
            have HR := Lib.hid hr0
            have hin := hasR_rick hr0
            have HTB := Lib.hid htb
            have HCP2 := Lib.hid hcp2
            clear hcp2 hr0 htb hturn
            generalize day[j] = a at *
            by_cases h0 : r0 < 0
            · have h1 : hasR xs a = false := by rw [hin]; exact decide_eq_false (by omega)
              have hbad : Hid (turnF xs 0 day = false) := by show _ = _; rw [← hst.out, h1, Bool.false_and]
              have g0 : decide (r0 < 0) = true := decide_eq_true h0
              clear h1 hin
              go_wp2_with fail
              refine (indexP_v h a xs _ _ (HU.out.keeps hwr) r0 HR).mono ?_
              rintro e w5 ⟨rfl, hB5⟩
              have K5 : Free.Bel wo w5 := bt hB hB5
              go_wp2_with fail
              clear hB5
              have hPW := HI.out.step K5
              have hF : ∀ W, RS (w.heap.size + 1) (HeapIs (w.heap.size + 1) (.cells (arrV S0) 109 (0, 0))) w5.drew W → (W.cell? ⟨s0, 0, none⟩ = some (.int .i64 (S0 0)) ∧ W.cell? ⟨s0, 1, none⟩ = some (.int .i64 (S0 1)) ∧ W.cell? ⟨s0, 2, none⟩ = some (.int .i64 (S0 2)) ∧ W.cell? ⟨s0, 3, none⟩ = some (.int .i64 (S0 3))) ∧ (Below w.heap.size w W ∧ ∃ c0 c1 c2 c3, W.heap[w.heap.size + 1]? = some (.cells #[c0, c1, c2, c3] 109 (0, 0))) := fun W hW => by
                have o1 := hPW.o1
                have o2 := hPW.o2
                refine ⟨⟨hW.bx.cell (show w5.drew.cell? _ = _ from cell_of_heap hPW.sc rfl) (by simp; omega), hW.bx.cell (show w5.drew.cell? _ = _ from cell_of_heap hPW.sc rfl) (by simp; omega), hW.bx.cell (show w5.drew.cell? _ = _ from cell_of_heap hPW.sc rfl) (by simp; omega), hW.bx.cell (show w5.drew.cell? _ = _ from cell_of_heap hPW.sc rfl) (by simp; omega)⟩, BX.below hPW.bel.drew hW.bx hPW.bel.size (by omega), ?_⟩
                rcases hW.now with e | e
                · exact ⟨_, _, _, _, e.trans (show w5.drew.heap[_]? = _ from hPW.rz)⟩
                · exact ⟨_, _, _, _, e⟩
              refine Free.wp_free (R := RS (w.heap.size + 1) (HeapIs (w.heap.size + 1) (.cells (arrV S0) 109 (0, 0)))) (by kernel_rfl) (by kernel_rfl) (RS.refl _ _) (RS.trans HeapIs.kept) ?_
              refine Free.Chain.ex ?_ [] [10] (by kernel_rfl) (by kernel_rfl) rfl (RS.refl _ _) ?_ ?_
              rotate_left
              · (intro ev W hb hR hO hD; have hS := hF W hR; obtain ⟨hb1, hb2, hb3⟩ := hb; simp only [Free.AllDeps, Free.AllOuts, Free.At, al1, al2, al3, al4, al5, and_true] at hO hD; obtain ⟨hS, hS2⟩ := hS; go_simp; rfl)
              simp only [an1, an2]
              refine Free.Chain.ex ?_ [] [] (by kernel_rfl) (by kernel_rfl) rfl (RS.refl _ _) ?_ ?_
              rotate_left
              · (intro ev W hb hR hO hD; have hS := hF W hR; obtain ⟨hb1, hb2, hb3⟩ := hb; simp only [Free.AllDeps, Free.AllOuts, Free.At, al1, al2, al3, al4, al5, and_true] at hO hD; obtain ⟨hS, hS2⟩ := hS; go_simp; rfl)
              simp only [an1, an2]
              refine Free.Chain.pr (fun _ w1 => HeapIs (w.heap.size + 1) (.cells (arrV S0) 109 (0, 0)) w1) [(0, 58), (1, 4), (0, 58), (1, 4)] [5] (by kernel_rfl) (by kernel_rfl) rfl (RS.stable HeapIs.kept) ?_ ?_
              · (intro ev W hb hR hO hD; have hS := hF W hR; obtain ⟨hb1, hb2, hb3⟩ := hb; simp only [Free.AllDeps, Free.AllOuts, Free.At, al1, al2, al3, al4, al5, and_true] at hO hD; obtain ⟨hS, hS2⟩ := hS; obtain ⟨hbw, c0, c1, c2, c3, hc⟩ := hS2; obtain ⟨_, _, _, _, f0, f1, f2, f3⟩ := cells4 hc; obtain ⟨y0, y1, y2, y3, _, _, _, _⟩ := cells4 hc; go_simp; have hph := four_heap (x0 := .int .i64 (S0 0)) (x1 := .int .i64 (S0 1)) (x2 := .int .i64 (S0 2)) (x3 := .int .i64 (S0 3)) hc; exact ⟨⟨BX.set.trans (BX.set.trans (BX.set.trans BX.set)), .inr hph⟩, hph⟩)
              simp only [an1, an2]
              refine Free.Chain.ex ?_ [(0, 58), (1, 4)] [] (by kernel_rfl) (by kernel_rfl) rfl (RS.refl _ _) ?_ ?_
              rotate_left
              · (intro ev W hb hR hO hD; have hS := hF W hR; obtain ⟨hb1, hb2, hb3⟩ := hb; simp only [Free.AllDeps, Free.AllOuts, Free.At, al1, al2, al3, al4, al5, and_true] at hO hD; obtain ⟨hS, hS2⟩ := hS; go_simp; rfl)
              simp only [an1, an2]
              refine Free.Chain.ex ?_ [(3, 6), (0, 58), (1, 4), (3, 6)] [] (by kernel_rfl) (by kernel_rfl) rfl (RS.refl _ _) ?_ ?_
              rotate_left
              · (intro ev W hb hR hO hD; have hS := hF W hR; obtain ⟨hb1, hb2, hb3⟩ := hb; simp only [Free.AllDeps, Free.AllOuts, Free.At, al1, al2, al3, al4, al5, and_true] at hO hD; obtain ⟨hS, hS2⟩ := hS; go_simp; rfl)
              simp only [an1, an2]
              intro ys w' hR hV
              simp only [Free.AllV, Free.At, List.length_cons, List.length_nil, Nat.reduceAdd, List.getElem?_cons_succ, List.getElem?_cons_zero, true_and] at hV
              simp only [Free.putsFrom, Act.put, Nat.zero_add, Nat.reduceAdd, hV, List.setIfInBounds_toArray, List.set_cons_succ, List.set_cons_zero]
              have hfin : HeapIs (w.heap.size + 1) (.cells (arrV S0) 109 (0, 0)) w' := hV.1.1.2
              have HBE := Lib.hid (hF w' hR).2.1
              obtain ⟨y1, y2, y3, y4, _, _, _, _⟩ := cells4 (show w'.heap[w.heap.size + 1]? = some (.cells #[.int .i64 (S0 0), .int .i64 (S0 1), .int .i64 (S0 2), .int .i64 (S0 3)] 109 (0, 0)) from hfin)
              clear hR hV hF hPW hfin
              go_wp2_with fail
              exact bodyPost_ret (v := .tuple #[.pointer none, stV S0, .slice none 0 0, .int .i64 72]) (by simp [results, Tryd.results68, go_sem, y1, y2, y3, y4]) rfl ⟨.inr (.inl ⟨HW.out, by rw [validB]; have hb9 : ds.all (turnB h xs) = false := all_bad hlt (by rw [HDAY.out]; rw [turnB, hbad.out, Bool.and_false]); rw [hb9, Bool.and_false], S0, rfl⟩), HBE.out⟩
            · have h1 : hasR xs a = true := by rw [hin]; exact decide_eq_true (by omega)
              obtain ⟨i1, hi1, hri, hid1⟩ : ∃ i1, ∃ h : i1 < xs.length, r0 = ((i1 : Nat) : Int) ∧ xs[i1].1 = a := by
                rcases HR.out with ⟨h9, _⟩ | ⟨i1, h9, h8, h7, _⟩
                · omega
                · exact ⟨i1, h9, h8, h7⟩
              subst hri
              have g0 : decide (((i1 : Nat) : Int) < 0) = false := decide_eq_false h0
              have hi4 : ((i1 : Nat) : Int) < 4 := by omega
              have hst2 : Hid ((decide (last < a) && turnF xs a (day.drop (j + 1))) = turnF xs 0 day) := by show _ = _; rw [← hst.out, h1, Bool.true_and]
              have HID1 : Hid (xs[i1].1 = a) := hid1
              clear h1 hin hst hid1
              by_cases hle : a ≤ last
              · have g2 : decide (a ≤ last) = true := decide_eq_true hle
                have hbad : Hid (turnF xs 0 day = false) := by show _ = _; rw [← hst2.out, decide_eq_false (show ¬ last < a by omega), Bool.false_and]
                clear hst2
                go_wp2_with fail
                refine (indexP_v h a xs _ _ (HU.out.keeps hwr) ((i1 : Nat) : Int) HR).mono ?_
                rintro e w5 ⟨rfl, hB5⟩
                have K5 : Free.Bel wo w5 := bt hB hB5
                go_wp2_with fail
                clear hB5
                have hPW := HI.out.step K5
                have hF : ∀ W, RS (w.heap.size + 1) (HeapIs (w.heap.size + 1) (.cells (arrV S0) 109 (0, 0))) w5.drew W → (W.cell? ⟨s0, 0, none⟩ = some (.int .i64 (S0 0)) ∧ W.cell? ⟨s0, 1, none⟩ = some (.int .i64 (S0 1)) ∧ W.cell? ⟨s0, 2, none⟩ = some (.int .i64 (S0 2)) ∧ W.cell? ⟨s0, 3, none⟩ = some (.int .i64 (S0 3))) ∧ (Below w.heap.size w W ∧ ∃ c0 c1 c2 c3, W.heap[w.heap.size + 1]? = some (.cells #[c0, c1, c2, c3] 109 (0, 0))) := fun W hW => by
                  have o1 := hPW.o1
                  have o2 := hPW.o2
                  refine ⟨⟨hW.bx.cell (show w5.drew.cell? _ = _ from cell_of_heap hPW.sc rfl) (by simp; omega), hW.bx.cell (show w5.drew.cell? _ = _ from cell_of_heap hPW.sc rfl) (by simp; omega), hW.bx.cell (show w5.drew.cell? _ = _ from cell_of_heap hPW.sc rfl) (by simp; omega), hW.bx.cell (show w5.drew.cell? _ = _ from cell_of_heap hPW.sc rfl) (by simp; omega)⟩, BX.below hPW.bel.drew hW.bx hPW.bel.size (by omega), ?_⟩
                  rcases hW.now with e | e
                  · exact ⟨_, _, _, _, e.trans (show w5.drew.heap[_]? = _ from hPW.rz)⟩
                  · exact ⟨_, _, _, _, e⟩
                refine Free.wp_free (R := RS (w.heap.size + 1) (HeapIs (w.heap.size + 1) (.cells (arrV S0) 109 (0, 0)))) (by kernel_rfl) (by kernel_rfl) (RS.refl _ _) (RS.trans HeapIs.kept) ?_
                refine Free.Chain.ex ?_ [] [10] (by kernel_rfl) (by kernel_rfl) rfl (RS.refl _ _) ?_ ?_
                rotate_left
                · (intro ev W hb hR hO hD; have hS := hF W hR; obtain ⟨hb1, hb2, hb3⟩ := hb; simp only [Free.AllDeps, Free.AllOuts, Free.At, al1, al2, al3, al4, al5, and_true] at hO hD; obtain ⟨hS, hS2⟩ := hS; go_simp; rfl)
                simp only [an1, an2]
                refine Free.Chain.ex ?_ [] [] (by kernel_rfl) (by kernel_rfl) rfl (RS.refl _ _) ?_ ?_
                rotate_left
                · (intro ev W hb hR hO hD; have hS := hF W hR; obtain ⟨hb1, hb2, hb3⟩ := hb; simp only [Free.AllDeps, Free.AllOuts, Free.At, al1, al2, al3, al4, al5, and_true] at hO hD; obtain ⟨hS, hS2⟩ := hS; go_simp; rfl)
                simp only [an1, an2]
                refine Free.Chain.pr (fun _ w1 => HeapIs (w.heap.size + 1) (.cells (arrV S0) 109 (0, 0)) w1) [(0, 58), (1, 4), (0, 58), (1, 4)] [5] (by kernel_rfl) (by kernel_rfl) rfl (RS.stable HeapIs.kept) ?_ ?_
                · (intro ev W hb hR hO hD; have hS := hF W hR; obtain ⟨hb1, hb2, hb3⟩ := hb; simp only [Free.AllDeps, Free.AllOuts, Free.At, al1, al2, al3, al4, al5, and_true] at hO hD; obtain ⟨hS, hS2⟩ := hS; obtain ⟨hbw, c0, c1, c2, c3, hc⟩ := hS2; obtain ⟨_, _, _, _, f0, f1, f2, f3⟩ := cells4 hc; obtain ⟨y0, y1, y2, y3, _, _, _, _⟩ := cells4 hc; go_simp; have hph := four_heap (x0 := .int .i64 (S0 0)) (x1 := .int .i64 (S0 1)) (x2 := .int .i64 (S0 2)) (x3 := .int .i64 (S0 3)) hc; exact ⟨⟨BX.set.trans (BX.set.trans (BX.set.trans BX.set)), .inr hph⟩, hph⟩)
                simp only [an1, an2]
                refine Free.Chain.ex ?_ [(0, 58), (1, 4)] [] (by kernel_rfl) (by kernel_rfl) rfl (RS.refl _ _) ?_ ?_
                rotate_left
                · (intro ev W hb hR hO hD; have hS := hF W hR; obtain ⟨hb1, hb2, hb3⟩ := hb; simp only [Free.AllDeps, Free.AllOuts, Free.At, al1, al2, al3, al4, al5, and_true] at hO hD; obtain ⟨hS, hS2⟩ := hS; go_simp; rfl)
                simp only [an1, an2]
                refine Free.Chain.ex ?_ [(3, 6), (0, 58), (1, 4), (3, 6)] [] (by kernel_rfl) (by kernel_rfl) rfl (RS.refl _ _) ?_ ?_
                rotate_left
                · (intro ev W hb hR hO hD; have hS := hF W hR; obtain ⟨hb1, hb2, hb3⟩ := hb; simp only [Free.AllDeps, Free.AllOuts, Free.At, al1, al2, al3, al4, al5, and_true] at hO hD; obtain ⟨hS, hS2⟩ := hS; go_simp; rfl)
                simp only [an1, an2]
                intro ys w' hR hV
                simp only [Free.AllV, Free.At, List.length_cons, List.length_nil, Nat.reduceAdd, List.getElem?_cons_succ, List.getElem?_cons_zero, true_and] at hV
                simp only [Free.putsFrom, Act.put, Nat.zero_add, Nat.reduceAdd, hV, List.setIfInBounds_toArray, List.set_cons_succ, List.set_cons_zero]
                have hfin : HeapIs (w.heap.size + 1) (.cells (arrV S0) 109 (0, 0)) w' := hV.1.1.2
                have HBE := Lib.hid (hF w' hR).2.1
                obtain ⟨y1, y2, y3, y4, _, _, _, _⟩ := cells4 (show w'.heap[w.heap.size + 1]? = some (.cells #[.int .i64 (S0 0), .int .i64 (S0 1), .int .i64 (S0 2), .int .i64 (S0 3)] 109 (0, 0)) from hfin)
                clear hR hV hF hPW hfin
                go_wp2_with fail
                exact bodyPost_ret (v := .tuple #[.pointer none, stV S0, .slice none 0 0, .int .i64 72]) (by simp [results, Tryd.results68, go_sem, y1, y2, y3, y4]) rfl ⟨.inr (.inl ⟨HW.out, by rw [validB]; have hb9 : ds.all (turnB h xs) = false := all_bad hlt (by rw [HDAY.out]; rw [turnB, hbad.out, Bool.and_false]); rw [hb9, Bool.and_false], S0, rfl⟩), HBE.out⟩
              · have g2 : decide (a ≤ last) = false := decide_eq_false hle
                have hnext : Hid (turnF xs a (day.drop (j + 1)) = turnF xs 0 day) := by show _ = _; rw [← hst2.out, decide_eq_true (show last < a by omega), Bool.true_and]
                clear hst2
                go_wp2_with fail
                refine (indexP_v h a xs _ _ (HU.out.keeps hwr) ((i1 : Nat) : Int) HR).mono ?_
                rintro e w5 ⟨rfl, hB5⟩
                have K5 : Free.Bel wo w5 := bt hB hB5
                have htb5 : w5.heap[wo.heap.size]? = _ := (hB5.block _ (lt_of_heap HTB.out)).trans HTB.out
                have t0 := cell_of_heap (o := i1) htb5 (arrB_get _ i1 (by omega))
                have t1 := frozen_of_heap (o := i1) htb5
                have HTB5 := Lib.hid htb5
                clear htb5 hB5
                go_wp2_with fail
                go_roundw
                case rel => exact ⟨j + 1, a, by omega, by go_num, rfl, hnext, K5.setCell (by simp) _, by
                  have h9 := heap_setB HTB5.out i1 true
                  rw [tset_step HND.out hi1 HID1.out, ← htk.out] at h9
                  exact h9⟩
                case measure => simp [intOf]; omega
          · obtain rfl : j = day.length := by omega
            have hok1 : Hid (turnF xs 0 day = true) := by show _ = _; rw [← hturn.out, List.drop_length]; rfl
            rw [List.take_length] at htb
            obtain ⟨t0, t1, t2, t3⟩ : wr.cell? ⟨wo.heap.size, 0, none⟩ = some (.bool (tset xs day 0)) ∧ wr.cell? ⟨wo.heap.size, 1, none⟩ = some (.bool (tset xs day 1)) ∧ wr.cell? ⟨wo.heap.size, 2, none⟩ = some (.bool (tset xs day 2)) ∧ wr.cell? ⟨wo.heap.size, 3, none⟩ = some (.bool (tset xs day 3)) := ⟨cell_of_heap htb rfl, cell_of_heap htb rfl, cell_of_heap htb rfl, cell_of_heap htb rfl⟩
            have HHT := Lib.hid hturn
            clear htb hturn
            by_cases hlen : (day.length : Int) ≤ h
            · have g5 : decide (h < (day.length : Int)) = false := decide_eq_false (by omega)
              have htB : Hid (turnB h xs day = true) := by show _ = _; rw [turnB, decide_eq_true hlen, hok1.out]; rfl
              go_wp2_with fail
              refine (after_any y0 xs S0 (tset xs day) _ _ (FO wr hB).2.2.1 (HU.out.keeps hwr) hx4 hSb.out).mono ?_
              rintro e w6 ⟨⟨v6, rfl, hr6⟩, hB6⟩
              obtain ⟨p6, c6, rfl⟩ := row_slice hr6
              have hnx : nextS S0 (tset xs day) xs.length = waits (endR xs (ds.take (k + 1))) := by
                rw [endR_step xs ds k hlt, HDAY.out, ← waits_next, HS0.out, tset_ids (endR_ids xs (ds.take k)), endR_length]
              obtain ⟨S1, hS1⟩ : ∃ x, waits (endR xs (ds.take (k + 1))) = x := ⟨_, rfl⟩
              rw [hnx, hS1] at hr6 ⊢
              have HS1 := Lib.hid hS1
              obtain ⟨hl, hhl⟩ : ∃ x, hotL S1 xs xs.length = x := ⟨_, rfl⟩
              rw [hhl] at hr6 ⊢
              have HHL := Lib.hid hhl
              have hl4 : hl.length ≤ 4 := by rw [← hhl]; exact Nat.le_trans (hotL_length _ _ _) hx4
              have HR6 := Lib.hid hr6
              have HP6 := Lib.hid (HI.out.step (bt hB hB6))
              have HPW := Lib.hid (HI.out.step hB)
              have HB6 := Lib.hid hB6
              clear hS1 hhl hnx hr6 hB6 FO t0 t1 t2 t3
              go_wp2_with fail
              have hPb := HP6.out.step (belAlloc w6 (.cells (arrV S1) 109))
              have hs1 : (w6.alloc (.cells (arrV S1) 109)).heap[w6.heap.size]? = some (.cells (arrV S1) 109 (0, 0)) := World.alloc_heap_new _ _
              have hrb := bel_row HR6.out (belAlloc w6 (.cells (arrV S1) 109))
              have HPB := Lib.hid (And.intro hPb (And.intro hs1 hrb))
              clear hPb hs1 hrb
              generalize (w6.alloc (.cells (arrV S1) 109)) = wb at *
              go_loopw [78, 11] (fun i v wr => ∃ j : Nat, j ≤ hl.length ∧ i = .int .i64 j ∧ RowK v0 wb v wr ∧ wr.ownsRow (s0 + 1) 104 2 v (H0.length + j) (cellsP (H0 ++ (hl.take j).map (heatAt xs ((k : Int) + 1))))) (fun i _ _ => hl.length - (intOf i).toNat)
              case atStart => exact ⟨0, Nat.zero_le _, rfl, RowK.refl _ _, by simpa using HPB.out.1.own⟩
              case round =>
                obtain ⟨j, hj2, rfl, hRK, hown⟩ := hrel
                have hbelow : Below (s0 + 1) wb wr := hRK.below HPB.out.1.own (by have := lt_of_heap HPB.out.1.sc; omega)
                have hso := HPB.out.1.o1
                have hso2 := HPB.out.1.o2
                have hwr2 : Below w.heap.size w wr := HPB.out.1.bel.trans (hbelow.mono (by omega))
                have x0 : wr.cell? ⟨w.heap.size, 0, none⟩ = some (.int .i64 h) := (hbelow.cell (by simp; omega)).trans (cell_of_heap HPB.out.1.a0 rfl)
                have x1 : wr.cell? ⟨w.heap.size, 1, none⟩ = some (.slice p xs.length cp) := (hbelow.cell (by simp; omega)).trans (cell_of_heap HPB.out.1.a0 rfl)
                by_cases hlt3 : j < hl.length
                · obtain ⟨i1, hi1, hv1⟩ := hotL_mem xs.length hl[j] (by rw [HHL.out]; exact List.getElem_mem hlt3)
                  obtain ⟨g6, hg6, hp6, hoff⟩ : ∃ g6, wr.cell? ⟨g6, j, none⟩ = some (.int .i64 hl[j]) ∧ p6 = some ⟨g6, 0, none⟩ ∧ True := by
                    rcases HPB.out.2.2.2 with ⟨_, h9⟩ | ⟨g, cap, cur, h9, hb9, hg9, _⟩
                    · rw [h9] at hlt3; exact absurd hlt3 (Nat.not_lt_zero _)
                    · simp only [Value.slice.injEq] at h9
                      have hc9 := HPB.out.2.2.cells (g := g) (by simp [h9.1, Value.ownBlock]) j (.int .i64 hl[j]) (by simp [hlt3])
                      rw [Addr.add_lit] at hc9
                      exact ⟨g, hRK.cell (off_new HPW.out.own hb9) (by simpa using hc9), h9.1, trivial⟩
                  subst hp6
                  have hxs : xs ≠ [] := by intro e; simp [e] at hi1
                  obtain ⟨p9, c9, hp9, _, hq9⟩ := HU.out
                  obtain ⟨b9, off9, hb9, hcp9⟩ := hq9 hxs
                  simp only [Value.slice.injEq] at hp9
                  obtain ⟨rfl, _, rfl⟩ := hp9
                  subst hb9
                  have x2 := keepsB hwr2 (hcp9 i1 hi1).1
                  have hj3 : (j : Int) < hl.length := by omega
                  have hi2 : ((i1 : Nat) : Int) < xs.length := by omega
                  have hha : Hid (heatAt xs ((k : Int) + 1) hl[j] = ((k : Int) + 1, xs[i1].1)) := by show _ = _; simp [heatAt, hv1, hi1]
                  have htk : Hid (hl.take (j + 1) = hl.take j ++ [hl[j]]) := take_step hl j hlt3
                  have how : wr.ownsRow (s0 + 1) 104 2 _ _ _ := hown
                  have hszw : s0 + 1 ≤ wr.heap.size := by have := lt_of_heap HPB.out.1.sc; have := hRK.size; omega
                  have KA : Free.Bel wr (wr.alloc (.cells #[.int .i64 ((k : Int) + 1), .int .i64 xs[i1].1] 104)) := belAlloc _ _
                  have HRK := Lib.hid (hRK.bel KA)
                  have HL9 := hHl.out
                  clear hcp9 hq9 hown hRK hbelow hxs hso hso2 hwr2 KA
                  rw [hv1] at hg6 hha
                  generalize hl[j] = q9 at *
                  generalize xs[i1].1 = id9 at *
                  go_wp2_with (first | (at_builtin; go_loud (refine wpList_append_row rfl _ _ 30 rfl (s0 + 1) 104 i0 (.agg #[.int .i64 0, .int .i64 0]) 2 16 Tryd.underlying30 HZ.out.1 HZ.out.2.1 HZ.out.2.2.1 HZ.out.2.2.2 rfl (by decide) _ _ _ rfl (how.alloc _) ⟨wr.heap.size, 0, none⟩ 1 1 [.int .i64 ((k : Int) + 1), .int .i64 id9] rfl (by decide) rfl (cells2_new _ _ _ _) (fun x hx => by simp at hx; rcases hx with rfl | rfl <;> rfl) (by unfold maxLen; omega) (by omega) (by simp; omega) ?_); intro v9 w9 hown9 hgrow9) | fail)
                  go_roundw
                  case rel => exact ⟨j + 1, by omega, by go_num, HRK.out.trans hgrow9, by
                    rw [htk.out, List.map_append, ← List.append_assoc, cellsP_append]
                    have h8 : cellsP ([q9].map (heatAt xs ((k : Int) + 1))) = [.int .i64 ((k : Int) + 1), .int .i64 id9] := by rw [List.map_singleton, show q9 = ((i1 : Nat) : Int) from hv1, hha.out]; rfl
                    rw [h8]
                    exact hown9⟩
                  case measure => simp [intOf]; omega
                · obtain rfl : j = hl.length := by omega
                  have hoffs : Off v0 w6.heap.size := off_new HP6.out.own (Nat.le_refl _)
                  obtain ⟨y1, y2, y3, y4, _, _, _, _⟩ := cells4 (hRK.heap hoffs HPB.out.2.1)
                  have hsr : wr.heap[s0]? = some (.cells (arrV S0) 109 (0, 0)) := (hbelow.block _ (by omega)).trans HPB.out.1.sc
                  obtain ⟨_, _, _, _, z1, z2, z3, z4⟩ := cells4 hsr
                  have hfin : heatR 0 xs (ds.take (k + 1)) = H0 ++ hl.map (heatAt xs ((k : Int) + 1)) := by
                    rw [heatR_step xs ds k hlt, HH0.out]
                    have h8 := hotL_map (keys_same xs (ds.take (k + 1))) ((k : Int) + 1) xs.length (by rw [endR_length]; exact Nat.le_refl _)
                    rw [HS1.out, HHL.out, List.take_of_length_le (by rw [endR_length]; exact Nat.le_refl _)] at h8
                    rw [← h8]
                    rfl
                  have hP9 := HPB.out.1.grow (hs' := H0 ++ hl.map (heatAt xs ((k : Int) + 1))) hRK (by rw [List.take_length] at hown; simpa using hown)
                  have hP10 := PlI.set (S' := S1) hP9
                  rw [← hfin] at hP10
                  have HP10 := Lib.hid hP10
                  have hal : Hid ((ds.take (k + 1)).all (turnB h xs) = true) := by show _ = _; rw [take_step ds k hlt, HDAY.out, List.all_append, hAll.out]; simp [htB.out]
                  clear hP9 hP10 hfin hsr hown hRK hbelow hso hso2 hwr2
                  go_wp2_with fail
                  go_roundw
                  case rel => exact ⟨k + 1, by omega, by go_num, hal, by rw [HS1.out]; exact HP10.out⟩
                  case measure => simp [intOf]; omega
            · have g5 : decide (h < (day.length : Int)) = true := decide_eq_true (by omega)
              have hbad2 : Hid (turnB h xs day = false) := by show _ = _; rw [turnB, decide_eq_false hlen]; rfl
              go_wp2_with fail
              have hPW := HI.out.step hB
              have hF : ∀ W, RS (w.heap.size + 1) (HeapIs (w.heap.size + 1) (.cells (arrV S0) 109 (0, 0))) wr.drew W → (W.cell? ⟨s0, 0, none⟩ = some (.int .i64 (S0 0)) ∧ W.cell? ⟨s0, 1, none⟩ = some (.int .i64 (S0 1)) ∧ W.cell? ⟨s0, 2, none⟩ = some (.int .i64 (S0 2)) ∧ W.cell? ⟨s0, 3, none⟩ = some (.int .i64 (S0 3))) ∧ (Below w.heap.size w W ∧ ∃ c0 c1 c2 c3, W.heap[w.heap.size + 1]? = some (.cells #[c0, c1, c2, c3] 109 (0, 0))) := fun W hW => by
                have o1 := hPW.o1
                have o2 := hPW.o2
                refine ⟨⟨hW.bx.cell (show wr.drew.cell? _ = _ from cell_of_heap hPW.sc rfl) (by simp; omega), hW.bx.cell (show wr.drew.cell? _ = _ from cell_of_heap hPW.sc rfl) (by simp; omega), hW.bx.cell (show wr.drew.cell? _ = _ from cell_of_heap hPW.sc rfl) (by simp; omega), hW.bx.cell (show wr.drew.cell? _ = _ from cell_of_heap hPW.sc rfl) (by simp; omega)⟩, BX.below hPW.bel.drew hW.bx hPW.bel.size (by omega), ?_⟩
                rcases hW.now with e | e
                · exact ⟨_, _, _, _, e.trans (show wr.drew.heap[_]? = _ from hPW.rz)⟩
                · exact ⟨_, _, _, _, e⟩
              refine Free.wp_free (R := RS (w.heap.size + 1) (HeapIs (w.heap.size + 1) (.cells (arrV S0) 109 (0, 0)))) (by kernel_rfl) (by kernel_rfl) (RS.refl _ _) (RS.trans HeapIs.kept) ?_
              refine Free.Chain.ex ?_ [] [10] (by kernel_rfl) (by kernel_rfl) rfl (RS.refl _ _) ?_ ?_
              rotate_left
              · (intro ev W hb hR hO hD; have hS := hF W hR; obtain ⟨hb1, hb2, hb3⟩ := hb; simp only [Free.AllDeps, Free.AllOuts, Free.At, al1, al2, al3, al4, al5, and_true] at hO hD; obtain ⟨hS, hS2⟩ := hS; go_simp; rfl)
              simp only [an1, an2]
              refine Free.Chain.ex ?_ [] [] (by kernel_rfl) (by kernel_rfl) rfl (RS.refl _ _) ?_ ?_
              rotate_left
              · (intro ev W hb hR hO hD; have hS := hF W hR; obtain ⟨hb1, hb2, hb3⟩ := hb; simp only [Free.AllDeps, Free.AllOuts, Free.At, al1, al2, al3, al4, al5, and_true] at hO hD; obtain ⟨hS, hS2⟩ := hS; go_simp; rfl)
              simp only [an1, an2]
              refine Free.Chain.pr (fun _ w1 => HeapIs (w.heap.size + 1) (.cells (arrV S0) 109 (0, 0)) w1) [(0, 68), (1, 4), (0, 68), (1, 4)] [5] (by kernel_rfl) (by kernel_rfl) rfl (RS.stable HeapIs.kept) ?_ ?_
              · (intro ev W hb hR hO hD; have hS := hF W hR; obtain ⟨hb1, hb2, hb3⟩ := hb; simp only [Free.AllDeps, Free.AllOuts, Free.At, al1, al2, al3, al4, al5, and_true] at hO hD; obtain ⟨hS, hS2⟩ := hS; obtain ⟨hbw, c0, c1, c2, c3, hc⟩ := hS2; obtain ⟨_, _, _, _, f0, f1, f2, f3⟩ := cells4 hc; obtain ⟨y0, y1, y2, y3, _, _, _, _⟩ := cells4 hc; go_simp; have hph := four_heap (x0 := .int .i64 (S0 0)) (x1 := .int .i64 (S0 1)) (x2 := .int .i64 (S0 2)) (x3 := .int .i64 (S0 3)) hc; exact ⟨⟨BX.set.trans (BX.set.trans (BX.set.trans BX.set)), .inr hph⟩, hph⟩)
              simp only [an1, an2]
              refine Free.Chain.ex ?_ [(0, 68), (1, 4)] [] (by kernel_rfl) (by kernel_rfl) rfl (RS.refl _ _) ?_ ?_
              rotate_left
              · (intro ev W hb hR hO hD; have hS := hF W hR; obtain ⟨hb1, hb2, hb3⟩ := hb; simp only [Free.AllDeps, Free.AllOuts, Free.At, al1, al2, al3, al4, al5, and_true] at hO hD; obtain ⟨hS, hS2⟩ := hS; go_simp; rfl)
              simp only [an1, an2]
              refine Free.Chain.ex ?_ [(3, 6), (0, 68), (1, 4), (3, 6)] [] (by kernel_rfl) (by kernel_rfl) rfl (RS.refl _ _) ?_ ?_
              rotate_left
              · (intro ev W hb hR hO hD; have hS := hF W hR; obtain ⟨hb1, hb2, hb3⟩ := hb; simp only [Free.AllDeps, Free.AllOuts, Free.At, al1, al2, al3, al4, al5, and_true] at hO hD; obtain ⟨hS, hS2⟩ := hS; go_simp; rfl)
              simp only [an1, an2]
              intro ys w' hR hV
              simp only [Free.AllV, Free.At, List.length_cons, List.length_nil, Nat.reduceAdd, List.getElem?_cons_succ, List.getElem?_cons_zero, true_and] at hV
              simp only [Free.putsFrom, Act.put, Nat.zero_add, Nat.reduceAdd, hV, List.setIfInBounds_toArray, List.set_cons_succ, List.set_cons_zero]
              have hfin : HeapIs (w.heap.size + 1) (.cells (arrV S0) 109 (0, 0)) w' := hV.1.1.2
              have HBE := Lib.hid (hF w' hR).2.1
              obtain ⟨y1, y2, y3, y4, _, _, _, _⟩ := cells4 (show w'.heap[w.heap.size + 1]? = some (.cells #[.int .i64 (S0 0), .int .i64 (S0 1), .int .i64 (S0 2), .int .i64 (S0 3)] 109 (0, 0)) from hfin)
              clear hR hV hF hPW hfin
              go_wp2_with fail
              exact bodyPost_ret (v := .tuple #[.pointer none, stV S0, .slice none 0 0, .int .i64 72]) (by simp [results, Tryd.results68, go_sem, y1, y2, y3, y4]) rfl ⟨.inr (.inl ⟨HW.out, by rw [validB]; have hb9 : ds.all (turnB h xs) = false := all_bad hlt (by rw [HDAY.out]; exact hbad2.out); rw [hb9, Bool.and_false], S0, rfl⟩), HBE.out⟩
      · obtain rfl : k = ds.length := by omega
        have hAll2 : Hid (ds.all (turnB h xs) = true) := by have := hAll.out; rw [List.take_length] at this; exact this
        have hS9 : Hid (waits (endR xs ds) = S0) := by have := HS0.out; rw [List.take_length] at this; exact this
        have hH9 : Hid (heatR 0 xs ds = H0) := by have := HH0.out; rw [List.take_length] at this; exact this
        by_cases h60 : ds.length ≤ 60
        · have g6 : decide (60 < (ds.length : Int)) = false := decide_eq_false (by omega)
          have hval : Hid (validB h xs ds = true) := by show _ = _; rw [validB, decide_eq_true h60, hAll2.out]; rfl
          go_wp2_with fail
          have hPW := HI.out.step (Free.Bel.refl _)
          have hF : ∀ W, RS (w.heap.size + 1) (HeapIs (w.heap.size + 1) (.cells (arrV S0) 109 (0, 0))) wo.drew W → (W.cell? ⟨s0, 0, none⟩ = some (.int .i64 (S0 0)) ∧ W.cell? ⟨s0, 1, none⟩ = some (.int .i64 (S0 1)) ∧ W.cell? ⟨s0, 2, none⟩ = some (.int .i64 (S0 2)) ∧ W.cell? ⟨s0, 3, none⟩ = some (.int .i64 (S0 3))) ∧ (Below w.heap.size w W ∧ ∃ c0 c1 c2 c3, W.heap[w.heap.size + 1]? = some (.cells #[c0, c1, c2, c3] 109 (0, 0))) := fun W hW => by
            have o1 := hPW.o1
            have o2 := hPW.o2
            refine ⟨⟨hW.bx.cell (show wo.drew.cell? _ = _ from cell_of_heap hPW.sc rfl) (by simp; omega), hW.bx.cell (show wo.drew.cell? _ = _ from cell_of_heap hPW.sc rfl) (by simp; omega), hW.bx.cell (show wo.drew.cell? _ = _ from cell_of_heap hPW.sc rfl) (by simp; omega), hW.bx.cell (show wo.drew.cell? _ = _ from cell_of_heap hPW.sc rfl) (by simp; omega)⟩, BX.below hPW.bel.drew hW.bx hPW.bel.size (by omega), ?_⟩
            rcases hW.now with e | e
            · exact ⟨_, _, _, _, e.trans (show wo.drew.heap[_]? = _ from hPW.rz)⟩
            · exact ⟨_, _, _, _, e⟩
          refine Free.wp_free (R := RS (w.heap.size + 1) (HeapIs (w.heap.size + 1) (.cells (arrV S0) 109 (0, 0)))) (by kernel_rfl) (by kernel_rfl) (RS.refl _ _) (RS.trans HeapIs.kept) ?_
          refine Free.Chain.ex ?_ [] [9] (by kernel_rfl) (by kernel_rfl) rfl (RS.refl _ _) ?_ ?_
          rotate_left
          · (intro ev W hb hR hO hD; have hS := hF W hR; obtain ⟨hb1, hb2, hb3⟩ := hb; simp only [Free.AllDeps, Free.AllOuts, Free.At, al1, al2, al3, al4, al5, and_true] at hO hD; obtain ⟨hS, hS2⟩ := hS; go_simp; rfl)
          simp only [an1, an2]
          refine Free.Chain.ex ?_ [] [10] (by kernel_rfl) (by kernel_rfl) rfl (RS.refl _ _) ?_ ?_
          rotate_left
          · (intro ev W hb hR hO hD; have hS := hF W hR; obtain ⟨hb1, hb2, hb3⟩ := hb; simp only [Free.AllDeps, Free.AllOuts, Free.At, al1, al2, al3, al4, al5, and_true] at hO hD; obtain ⟨hS, hS2⟩ := hS; go_simp; rfl)
          simp only [an1, an2]
          refine Free.Chain.ex ?_ [] [11] (by kernel_rfl) (by kernel_rfl) rfl (RS.refl _ _) ?_ ?_
          rotate_left
          · (intro ev W hb hR hO hD; have hS := hF W hR; obtain ⟨hb1, hb2, hb3⟩ := hb; simp only [Free.AllDeps, Free.AllOuts, Free.At, al1, al2, al3, al4, al5, and_true] at hO hD; obtain ⟨hS, hS2⟩ := hS; go_simp; rfl)
          simp only [an1, an2]
          refine Free.Chain.ex ?_ [(0, 101), (0, 101)] [] (by kernel_rfl) (by kernel_rfl) rfl (RS.refl _ _) ?_ ?_
          rotate_left
          · (intro ev W hb hR hO hD; have hS := hF W hR; obtain ⟨hb1, hb2, hb3⟩ := hb; simp only [Free.AllDeps, Free.AllOuts, Free.At, al1, al2, al3, al4, al5, and_true] at hO hD; obtain ⟨hS, hS2⟩ := hS; go_simp; rfl)
          simp only [an1, an2]
          refine Free.Chain.pr (fun _ w1 => HeapIs (w.heap.size + 1) (.cells (arrV S0) 109 (0, 0)) w1) [(1, 102), (3, 4), (0, 101), (1, 102), (3, 4)] [5] (by kernel_rfl) (by kernel_rfl) rfl (RS.stable HeapIs.kept) ?_ ?_
          · (intro ev W hb hR hO hD; have hS := hF W hR; obtain ⟨hb1, hb2, hb3⟩ := hb; simp only [Free.AllDeps, Free.AllOuts, Free.At, al1, al2, al3, al4, al5, and_true] at hO hD; obtain ⟨hS, hS2⟩ := hS; obtain ⟨hbw, c0, c1, c2, c3, hc⟩ := hS2; obtain ⟨_, _, _, _, f0, f1, f2, f3⟩ := cells4 hc; obtain ⟨y0, y1, y2, y3, _, _, _, _⟩ := cells4 hc; go_simp; have hph := four_heap (x0 := .int .i64 (S0 0)) (x1 := .int .i64 (S0 1)) (x2 := .int .i64 (S0 2)) (x3 := .int .i64 (S0 3)) hc; exact ⟨⟨BX.set.trans (BX.set.trans (BX.set.trans BX.set)), .inr hph⟩, hph⟩)
          simp only [an1, an2]
          refine Free.Chain.ex ?_ [(2, 103), (0, 101), (1, 102), (2, 103), (3, 4)] [] (by kernel_rfl) (by kernel_rfl) rfl (RS.refl _ _) ?_ ?_
          rotate_left
          · (intro ev W hb hR hO hD; have hS := hF W hR; obtain ⟨hb1, hb2, hb3⟩ := hb; simp only [Free.AllDeps, Free.AllOuts, Free.At, al1, al2, al3, al4, al5, and_true] at hO hD; obtain ⟨hS, hS2⟩ := hS; go_simp; rfl)
          simp only [an1, an2]
          refine Free.Chain.ex ?_ [(5, 6), (0, 101), (1, 102), (2, 103), (3, 4), (5, 6)] [] (by kernel_rfl) (by kernel_rfl) rfl (RS.refl _ _) ?_ ?_
          rotate_left
          · (intro ev W hb hR hO hD; have hS := hF W hR; obtain ⟨hb1, hb2, hb3⟩ := hb; simp only [Free.AllDeps, Free.AllOuts, Free.At, al1, al2, al3, al4, al5, and_true] at hO hD; obtain ⟨hS, hS2⟩ := hS; go_simp; rfl)
          simp only [an1, an2]
          intro ys w' hR hV
          simp only [Free.AllV, Free.At, List.length_cons, List.length_nil, Nat.reduceAdd, List.getElem?_cons_succ, List.getElem?_cons_zero, true_and] at hV
          simp only [Free.putsFrom, Act.put, Nat.zero_add, Nat.reduceAdd, hV, List.setIfInBounds_toArray, List.set_cons_succ, List.set_cons_zero]
          have hfin : HeapIs (w.heap.size + 1) (.cells (arrV S0) 109 (0, 0)) w' := hV.1.1.2
          have HBE := Lib.hid (hF w' hR).2.1
          obtain ⟨y1, y2, y3, y4, _, _, _, _⟩ := cells4 (show w'.heap[w.heap.size + 1]? = some (.cells #[.int .i64 (S0 0), .int .i64 (S0 1), .int .i64 (S0 2), .int .i64 (S0 3)] 109 (0, 0)) from hfin)
          have hrow := (show w'.ownsRow (s0 + 1) 104 2 _ _ _ from hR.bx.row hPW.own (by have := hPW.o1; have := hPW.o2; omega))
          have HROW := Lib.hid hrow
          clear hrow
          clear hR hV hF hPW hfin
          go_wp2_with fail
          exact bodyPost_ret (v := .tuple #[.pointer (some ⟨y0, 0, none⟩), stV S0, v0, .int .i64 0]) (by simp [results, Tryd.results68, go_sem, y1, y2, y3, y4]) rfl ⟨.inr (.inr ⟨HW.out, hval.out, y0, v0, by rw [hS9.out], by rw [hH9.out]; exact PL.of_row (n := H0.length) rfl (by have := hHl.out; unfold maxLen; omega) HROW.out⟩), HBE.out⟩
        · have g6 : decide (60 < (ds.length : Int)) = true := decide_eq_true (by omega)
          have hbad3 : Hid (validB h xs ds = false) := by show _ = _; rw [validB, decide_eq_false h60]; rfl
          go_wp2_with fail
          have hPW := HI.out.step (Free.Bel.refl _)
          have hF : ∀ W, RS (w.heap.size + 1) (HeapIs (w.heap.size + 1) (.cells (arrV S0) 109 (0, 0))) wo.drew W → (W.cell? ⟨s0, 0, none⟩ = some (.int .i64 (S0 0)) ∧ W.cell? ⟨s0, 1, none⟩ = some (.int .i64 (S0 1)) ∧ W.cell? ⟨s0, 2, none⟩ = some (.int .i64 (S0 2)) ∧ W.cell? ⟨s0, 3, none⟩ = some (.int .i64 (S0 3))) ∧ (Below w.heap.size w W ∧ ∃ c0 c1 c2 c3, W.heap[w.heap.size + 1]? = some (.cells #[c0, c1, c2, c3] 109 (0, 0))) := fun W hW => by
            have o1 := hPW.o1
            have o2 := hPW.o2
            refine ⟨⟨hW.bx.cell (show wo.drew.cell? _ = _ from cell_of_heap hPW.sc rfl) (by simp; omega), hW.bx.cell (show wo.drew.cell? _ = _ from cell_of_heap hPW.sc rfl) (by simp; omega), hW.bx.cell (show wo.drew.cell? _ = _ from cell_of_heap hPW.sc rfl) (by simp; omega), hW.bx.cell (show wo.drew.cell? _ = _ from cell_of_heap hPW.sc rfl) (by simp; omega)⟩, BX.below hPW.bel.drew hW.bx hPW.bel.size (by omega), ?_⟩
            rcases hW.now with e | e
            · exact ⟨_, _, _, _, e.trans (show wo.drew.heap[_]? = _ from hPW.rz)⟩
            · exact ⟨_, _, _, _, e⟩
          refine Free.wp_free (R := RS (w.heap.size + 1) (HeapIs (w.heap.size + 1) (.cells (arrV S0) 109 (0, 0)))) (by kernel_rfl) (by kernel_rfl) (RS.refl _ _) (RS.trans HeapIs.kept) ?_
          refine Free.Chain.ex ?_ [] [10] (by kernel_rfl) (by kernel_rfl) rfl (RS.refl _ _) ?_ ?_
          rotate_left
          · (intro ev W hb hR hO hD; have hS := hF W hR; obtain ⟨hb1, hb2, hb3⟩ := hb; simp only [Free.AllDeps, Free.AllOuts, Free.At, al1, al2, al3, al4, al5, and_true] at hO hD; obtain ⟨hS, hS2⟩ := hS; go_simp; rfl)
          simp only [an1, an2]
          refine Free.Chain.ex ?_ [] [] (by kernel_rfl) (by kernel_rfl) rfl (RS.refl _ _) ?_ ?_
          rotate_left
          · (intro ev W hb hR hO hD; have hS := hF W hR; obtain ⟨hb1, hb2, hb3⟩ := hb; simp only [Free.AllDeps, Free.AllOuts, Free.At, al1, al2, al3, al4, al5, and_true] at hO hD; obtain ⟨hS, hS2⟩ := hS; go_simp; rfl)
          simp only [an1, an2]
          refine Free.Chain.pr (fun _ w1 => HeapIs (w.heap.size + 1) (.cells (arrV S0) 109 (0, 0)) w1) [(0, 100), (1, 4), (0, 100), (1, 4)] [5] (by kernel_rfl) (by kernel_rfl) rfl (RS.stable HeapIs.kept) ?_ ?_
          · (intro ev W hb hR hO hD; have hS := hF W hR; obtain ⟨hb1, hb2, hb3⟩ := hb; simp only [Free.AllDeps, Free.AllOuts, Free.At, al1, al2, al3, al4, al5, and_true] at hO hD; obtain ⟨hS, hS2⟩ := hS; obtain ⟨hbw, c0, c1, c2, c3, hc⟩ := hS2; obtain ⟨_, _, _, _, f0, f1, f2, f3⟩ := cells4 hc; obtain ⟨y0, y1, y2, y3, _, _, _, _⟩ := cells4 hc; go_simp; have hph := four_heap (x0 := .int .i64 (S0 0)) (x1 := .int .i64 (S0 1)) (x2 := .int .i64 (S0 2)) (x3 := .int .i64 (S0 3)) hc; exact ⟨⟨BX.set.trans (BX.set.trans (BX.set.trans BX.set)), .inr hph⟩, hph⟩)
          simp only [an1, an2]
          refine Free.Chain.ex ?_ [(0, 100), (1, 4)] [] (by kernel_rfl) (by kernel_rfl) rfl (RS.refl _ _) ?_ ?_
          rotate_left
          · (intro ev W hb hR hO hD; have hS := hF W hR; obtain ⟨hb1, hb2, hb3⟩ := hb; simp only [Free.AllDeps, Free.AllOuts, Free.At, al1, al2, al3, al4, al5, and_true] at hO hD; obtain ⟨hS, hS2⟩ := hS; go_simp; rfl)
          simp only [an1, an2]
          refine Free.Chain.ex ?_ [(3, 6), (0, 100), (1, 4), (3, 6)] [] (by kernel_rfl) (by kernel_rfl) rfl (RS.refl _ _) ?_ ?_
          rotate_left
          · (intro ev W hb hR hO hD; have hS := hF W hR; obtain ⟨hb1, hb2, hb3⟩ := hb; simp only [Free.AllDeps, Free.AllOuts, Free.At, al1, al2, al3, al4, al5, and_true] at hO hD; obtain ⟨hS, hS2⟩ := hS; go_simp; rfl)
          simp only [an1, an2]
          intro ys w' hR hV
          simp only [Free.AllV, Free.At, List.length_cons, List.length_nil, Nat.reduceAdd, List.getElem?_cons_succ, List.getElem?_cons_zero, true_and] at hV
          simp only [Free.putsFrom, Act.put, Nat.zero_add, Nat.reduceAdd, hV, List.setIfInBounds_toArray, List.set_cons_succ, List.set_cons_zero]
          have hfin : HeapIs (w.heap.size + 1) (.cells (arrV S0) 109 (0, 0)) w' := hV.1.1.2
          have HBE := Lib.hid (hF w' hR).2.1
          obtain ⟨y1, y2, y3, y4, _, _, _, _⟩ := cells4 (show w'.heap[w.heap.size + 1]? = some (.cells #[.int .i64 (S0 0), .int .i64 (S0 1), .int .i64 (S0 2), .int .i64 (S0 3)] 109 (0, 0)) from hfin)
          clear hR hV hF hPW hfin
          go_wp2_with fail
          exact bodyPost_ret (v := .tuple #[.pointer none, stV S0, .slice none 0 0, .int .i64 72]) (by simp [results, Tryd.results68, go_sem, y1, y2, y3, y4]) rfl ⟨.inr (.inl ⟨HW.out, hbad3.out, S0, rfl⟩), HBE.out⟩
end Go.Proofs.YtknpglgpkkhhiaaDoor

/- The reference's played. -/
namespace Go.Proofs.YtknpglgpkkhhiaaDoor
set_option linter.unusedSimpArgs false
set_option linter.unusedVariables false
open Go.RowKit Go.Proofs.YtknpglgpkkhhiaaDoor.Free2

/-- What a slice points to is not in the row. -/
def OffS (v u : Value) : Prop := ∀ a n c, u = .slice (some a) n c → Off v a.block
theorem RL.rowK {xs : List Rk} {u v v' : Value} {a b : World} (h : RL xs u a) (ho : xs ≠ [] → OffS v u) (hR : RowK v a v' b) : RL xs u b := by
  obtain ⟨p, cap, rfl, h2, h3⟩ := h
  refine ⟨p, cap, rfl, h2, fun hx => ?_⟩
  obtain ⟨g, off, rfl, h5⟩ := h3 hx
  have ho2 := ho hx _ _ _ rfl
  exact ⟨g, off, rfl, fun k hk => ⟨hR.cell ho2 (h5 k hk).1, hR.cell ho2 (h5 k hk).2.1, hR.cell ho2 (h5 k hk).2.2⟩⟩
theorem RL.set {xs : List (Int × Int × Int)} {u x : Value} {a : World} {b o : Nat} (h : RL xs u a) (ho : xs ≠ [] → ∀ ad n c, u = .slice (some ad) n c → ad.block ≠ b) : RL xs u (a.setCell ⟨b, o, none⟩ x) := by
  obtain ⟨p, cap, rfl, h2, h3⟩ := h
  refine ⟨p, cap, rfl, h2, fun hx => ?_⟩
  obtain ⟨g, off, rfl, h5⟩ := h3 hx
  have ho2 := ho hx _ _ _ rfl
  have hk : ∀ j v, a.cell? ⟨g, j, none⟩ = some v → (a.setCell ⟨b, o, none⟩ x).cell? ⟨g, j, none⟩ = some v := fun j v hv => (World.cell?_of_block (heap_setCell_other (by simpa using ho2))).trans hv
  exact ⟨g, off, rfl, fun k hk2 => ⟨hk _ _ (h5 k hk2).1, hk _ _ (h5 k hk2).2.1, hk _ _ (h5 k hk2).2.2⟩⟩
theorem OffS.new {base base' e e' size size' n n' : Nat} {v u : Value} {xs ys : List Value} {a b : World} (h : a.ownsRow base e size v n xs) (hu : b.ownsRow base' e' size' u n' ys) (hb : a.heap.size ≤ base') : OffS v u := by
  intro ad m c he
  rcases hu.2 with ⟨rfl, _⟩ | ⟨g, cap, cur, rfl, hg, _⟩
  · cases he
  · cases he; exact off_new h (by simp; omega)
theorem hotR_step (n : Int) (zs : List Rk) (j : Nat) (h : j < zs.length) : hotR n (zs.take (j + 1)) = hotR n (zs.take j) ++ (if zs[j].2.2 == zs[j].2.1 then [(n, zs[j].1)] else []) := by
  rw [take_step zs j h]
  simp only [hotR, List.filter_append, List.map_append]
  congr 1
  by_cases h9 : (zs[j].2.2 == zs[j].2.1) = true
  · simp [h9]
  · simp [h9]
structure PrI (w : World) (h : Int) (zs : List Rk) (n : Nat) (u v : Value) (hs : List (Int × Int)) (W : World) : Prop where
  bel : Below w.heap.size w W
  a0 : W.heap[w.heap.size]? = some (.cells #[.int .i64 h, u] 24 (0, 0))
  rz : W.heap[w.heap.size + 1]? = some (.cells #[.int .i64 0, .slice none 0 0] 24 (0, 0))
  rl : RL zs u W
  nz : NZ u
  off : zs ≠ [] → ∀ a n c, u = .slice (some a) n c → Off v a.block ∧ a.block < W.heap.size ∧ a.block ≠ w.heap.size ∧ a.block ≠ w.heap.size + 1
  own : W.ownsRow (w.heap.size + 1 + 1) 104 2 v hs.length (cellsP hs)

set_option maxRecDepth 100000 in
set_option maxHeartbeats 16000000 in
theorem playedR_any (h : Int) (xs : List Rk) (ds : List (List Int)) (u v : Value) (w : World) (hu : RL xs u w) (hz : NZ u) (hv : DL ds v w) (hn : xs.length ≤ 1000) (hd : ds.length ≤ 1000) (hb : ∀ x ∈ xs, 0 ≤ x.2.2 ∧ x.2.2 ≤ 100000) :
    Calls Tryd.prog 70 #[.agg #[.int .i64 h, u], v] w fun e w' => (∃ v1 v2, e = .returned (.tuple #[.agg #[.int .i64 h, v1], v2]) ∧ RL (endR xs ds) v1 w' ∧ NZ v1 ∧ PL (heatR 0 xs ds) v2 w') ∧ Below w.heap.size w w' := by
  obtain ⟨q, cq, rfl, hm, hq⟩ := hv
  unfold maxLen at hm
  have HC := Lib.hid hq
  have HBD := Lib.hid hb
  obtain ⟨i0, hi0, hz0, hz1, hz2⟩ := info_parts T.infoHeat
  have HZ := Lib.hid (And.intro hi0 (And.intro hz0 (And.intro hz1 hz2)))
  clear hi0 hz0 hz1 hz2 hq hb
  have hP0 : PrI w h xs xs.length u (.slice none 0 0) [] ((w.alloc (.cells #[.int .i64 h, u] 24)).alloc (.cells #[.int .i64 0, .slice none 0 0] 24)) := by
    have hb0 : Free.Bel w ((w.alloc (.cells #[.int .i64 h, u] 24)).alloc (.cells #[.int .i64 0, .slice none 0 0] 24)) := Bel.allocT (Bel.allocT (Free.Bel.refl _) _) _
    refine ⟨hb0, heap_old (World.alloc_heap_new w _), ?_, hu.keeps hb0, hz, fun hx a n c he => ?_, World.ownsRow_nil _ _ _ _⟩
    · have := World.alloc_heap_new (w.alloc (.cells #[.int .i64 h, u] 24)) (.cells #[.int .i64 0, .slice none 0 0] 24)
      simpa using this
    · obtain ⟨p, cp, rfl, _, h3⟩ := hu
      obtain ⟨g, off, rfl, h5⟩ := h3 hx
      cases he
      have hx0 : 0 < xs.length := by cases xs with | nil => exact absurd rfl hx | cons _ _ => simp
      have hlt := lt_of_cell (h5 0 hx0).1
      simp only at hlt
      exact ⟨off_none, by simp; omega, by simp; omega, by simp; omega⟩
  have HP0 := Lib.hid hP0
  obtain ⟨p, cp, hup, _, _⟩ := hu
  subst hup
  clear hP0 hz
  go_enter Tryd.func70, Tryd.ntmps70
  go_wp2_with fail
  generalize ((w.alloc (.cells #[.int .i64 h, .slice p xs.length cp] 24)).alloc (.cells #[.int .i64 0, .slice none 0 0] 24)) = w1 at *
  go_loopw [13, 6] (fun i v wr => ∃ (k : Nat) (uk : Value), k ≤ ds.length ∧ i = .int .i64 k ∧ PrI w h (endR xs (ds.take k)) xs.length uk v (heatR 0 xs (ds.take k)) wr) (fun i _ _ => ds.length - (intOf i).toNat)
  case atStart => exact ⟨0, _, Nat.zero_le _, rfl, HP0.out⟩
  case round =>
    obtain ⟨k, uk, hk, rfl, hI⟩ := hrel
    obtain ⟨v0, hv0⟩ : ∃ x, x = u6 := ⟨_, rfl⟩
    subst hv0
    obtain ⟨wo, hwo⟩ : ∃ x, x = wr := ⟨_, rfl⟩
    subst hwo
    have hrl := hI.rl
    have hlen : (endR xs (ds.take k)).length = xs.length := endR_length _ _
    obtain ⟨pk, ck, huk, _, _⟩ := hrl
    rw [hlen] at huk
    subst huk
    have b0 := cell_of_heap (o := 0) hI.a0 rfl
    have b1 := cell_of_heap (o := 1) hI.a0 rfl
    have HI := Lib.hid hI
    by_cases hlt : k < ds.length
    · have hx : ds ≠ [] := by intro e; simp [e] at hlt
      obtain ⟨b, off, rfl, hcp⟩ := HC.out hx
      obtain ⟨u1, d1, i1⟩ := hcp k hlt
      have e1 := keepsB hI.bel d1
      have i2 := i1.keeps hI.bel
      have hklt : (k : Int) < ds.length := by omega
      have hkw : IntKind.i64.wrap ((k : Int) + 1) = (k : Int) + 1 := IntWalk.i64_in _ (by omega)
      have hbk : ∀ x ∈ endR xs (ds.take k), 0 ≤ x.2.2 ∧ x.2.2 ≤ 1000000 := by
        intro x hx9
        rw [endR_map] at hx9
        obtain ⟨y, hy, rfl⟩ := List.mem_map.1 hx9
        have h9 := HBD.out y hy
        have h8 := runW_nonneg y (ds.take k) h9.1
        have h7 : (ds.take k).length ≤ 1000 := by rw [List.length_take]; omega
        omega
      have hdn := doneR_any h (endR xs (ds.take k)) ds[k] _ _ wo hI.rl hI.nz i2 (by omega) hbk
      rw [← endR_step xs ds k hlt] at hdn
      rw [hlen] at hdn
      have HDN := Lib.hid hdn
      have hHl : Hid ((heatR 0 xs (ds.take (k + 1))).length ≤ 1000 * 1000) := by
        show _ ≤ _
        have h9 := heatR_length 0 xs (ds.take (k + 1))
        have h8 : (ds.take (k + 1)).length ≤ 1000 := by rw [List.length_take]; omega
        exact Nat.le_trans h9 (Nat.mul_le_mul hn h8)
      have HST := Lib.hid (heatR_step xs ds k hlt)
      obtain ⟨zs, hzs⟩ : ∃ x, endR xs (ds.take (k + 1)) = x := ⟨_, rfl⟩
      obtain ⟨H0, hH0⟩ : ∃ x, heatR 0 xs (ds.take k) = x := ⟨_, rfl⟩
      have hzl : zs.length = xs.length := by rw [← hzs]; exact endR_length _ _
      rw [hzs] at HDN HST
      rw [hH0] at HI HST
      have HZS := Lib.hid hzs
      obtain ⟨p1, c1, hu1, _, _⟩ := i2
      subst hu1
      clear hI hcp hx d1 i1 hbk hdn hzs hH0
      go_wp2_with fail
      refine HDN.out.mono ?_
      rintro e w5 ⟨⟨v5, rfl, hr5⟩, hB5⟩
      obtain ⟨p5, c5, rfl⟩ := row_slice hr5
      have hwosz : w.heap.size + 1 + 1 ≤ wo.heap.size := lt_of_heap HI.out.rz
      have q0 := (hB5.block _ (lt_of_heap HI.out.a0)).trans HI.out.a0
      have f0 := frozen_of_heap (o := 0) q0
      have f1 := frozen_of_heap (o := 1) q0
      have q1 := cell_of_heap (o := 0) q0 rfl
      have q2 := cell_of_heap (o := 1) q0 rfl
      have hst := two_stores (.int .i64 h) (.slice p5 xs.length c5) q1 q2
      obtain ⟨y0, y1⟩ := hst
      have HR5 := Lib.hid hr5
      have HB5 := Lib.hid hB5
      have HQ0 := Lib.hid q0
      clear hr5 hB5 q0
      go_wp2_with fail
      have hpb : ∀ o, o = (w5.setCell ⟨w.heap.size, 0, none⟩ (.int .i64 h)).setCell ⟨w.heap.size, 1, none⟩ (.slice p5 xs.length c5) → PrI w h zs xs.length (.slice p5 xs.length c5) v0 H0 o ∧ True := by
        intro o ho
        subst ho
        have hrow := ownsRow_setCell_below (ownsRow_setCell_below HR5.out (a := ⟨w.heap.size, 0, none⟩) (by simp; omega) (.int .i64 h)) (a := ⟨w.heap.size, 1, none⟩) (by simp; omega) (.slice p5 xs.length c5)
        refine ⟨⟨((HI.out.bel.trans (HB5.out.mono HI.out.bel.size)).setCell (by simp) _).setCell (by simp) _, ?_, ?_, RL.of_row hzl (by unfold maxLen; omega) hrow, NZ.row hrow, fun hx a n c he => ?_, ownsRow_setCell_below (ownsRow_setCell_below (bel_row HI.out.own HB5.out) (by simp; omega) _) (by simp; omega) _⟩, trivial⟩
        · have := heap_setCell_same (o := 1) (.slice p5 xs.length c5) (heap_setCell_same (o := 0) (.int .i64 h) HQ0.out)
          simpa using this
        · exact heap_other (heap_other ((HB5.out.block _ (lt_of_heap HI.out.rz)).trans HI.out.rz) (by simp)) (by simp)
        · rcases HR5.out.2 with ⟨h9, _⟩ | ⟨g2, cap, cur, h9, hb9, hg9, _⟩
          · rw [h9] at he; cases he
          · rw [h9] at he; cases he
            have h8 := lt_of_heap hg9
            exact ⟨off_new HI.out.own hb9, by simpa using h8, by simp; omega, by simp; omega⟩
      have hpb2 := hpb _ rfl
      have HPB := Lib.hid hpb2
      clear hpb hpb2 y0 y1 q1 q2 f0 f1 HQ0 HR5 HB5 HDN b0 b1
      generalize (w5.setCell _ _).setCell _ _ = wb at *
      go_loopw [27, 6] (fun i v wr => ∃ j : Nat, j ≤ xs.length ∧ i = .int .i64 j ∧ RowK v0 wb v wr ∧ wr.ownsRow (w.heap.size + 1 + 1) 104 2 v (H0 ++ hotR ((k : Int) + 1) (zs.take j)).length (cellsP (H0 ++ hotR ((k : Int) + 1) (zs.take j)))) (fun i _ _ => xs.length - (intOf i).toNat)
      case atStart => exact ⟨0, Nat.zero_le _, rfl, RowK.refl _ _, by simpa [hotR] using HPB.out.1.own⟩
      case round =>
        obtain ⟨j, hj, rfl, hRK, hown⟩ := hrel
        have hwbs : w.heap.size + 1 + 1 ≤ wb.heap.size := lt_of_heap HPB.out.1.rz
        have hbelow := hRK.below HPB.out.1.own hwbs
        by_cases hlt2 : j < xs.length
        · have hjz : j < zs.length := by omega
          have hrl := HPB.out.1.rl.rowK (fun hx a n c he => (HPB.out.1.off hx a n c he).1) hRK
          obtain ⟨p9, c9, hp9, _, hq9⟩ := hrl
          obtain ⟨g, off9, hg, hcc⟩ := hq9 (by intro e; simp [e] at hjz)
          simp only [Value.slice.injEq] at hp9
          obtain ⟨rfl, hl0, rfl⟩ := hp9
          clear hl0
          subst hg
          obtain ⟨x1, x2, x3⟩ := hcc j hjz
          have hjlt : (j : Int) < xs.length := by omega
          have hs := hotR_step ((k : Int) + 1) zs j hjz
          have hHj : (H0 ++ hotR ((k : Int) + 1) (zs.take j)).length ≤ 1000 * 1000 := by
            have h9 := hHl.out
            rw [HST.out, List.length_append] at h9
            rw [List.length_append]
            have h8 : (hotR ((k : Int) + 1) (zs.take j)).length ≤ (hotR ((k : Int) + 1) zs).length := by
              conv => rhs; rw [← List.take_append_drop j zs]
              simp only [hotR, List.filter_append, List.map_append, List.length_append]
              omega
            omega
          have HSP := Lib.hid hs
          have how : wr.ownsRow (w.heap.size + 1 + 1) 104 2 _ _ _ := hown
          have KA : Free.Bel wr (wr.alloc (.cells #[.int .i64 zs[j].1, .int .i64 zs[j].2.1, .int .i64 zs[j].2.2] 47)) := belAlloc _ _
          have how2 := bel_row how KA
          have KA2 : Free.Bel (wr.alloc (.cells #[.int .i64 zs[j].1, .int .i64 zs[j].2.1, .int .i64 zs[j].2.2] 47)) ((wr.alloc (.cells #[.int .i64 zs[j].1, .int .i64 zs[j].2.1, .int .i64 zs[j].2.2] 47)).alloc (.cells #[.int .i64 ((k : Int) + 1), .int .i64 zs[j].1] 104)) := belAlloc _ _
          have HRK := Lib.hid hRK
          have HKA := Lib.hid (And.intro KA KA2)
          have hsz9 : w.heap.size + 1 + 1 ≤ wr.heap.size := Nat.le_trans hwbs hRK.size
          clear hq9 hcc hs hown hbelow hRK KA KA2 how
          obtain ⟨z1, hz1⟩ : ∃ x, zs[j].1 = x := ⟨_, rfl⟩
          obtain ⟨z2, hz2⟩ : ∃ x, zs[j].2.1 = x := ⟨_, rfl⟩
          obtain ⟨z3, hz3⟩ : ∃ x, zs[j].2.2 = x := ⟨_, rfl⟩
          rw [hz1, hz2, hz3] at HSP HKA how2
          rw [hz1] at x1
          rw [hz2] at x2
          rw [hz3] at x3
          clear hz1 hz2 hz3
          by_cases hh : z3 = z2
          · have g0 : (z3 == z2) = true := by simp [hh]
            have HSQ : Hid (hotR ((k : Int) + 1) (zs.take (j + 1)) = hotR ((k : Int) + 1) (zs.take j) ++ [((k : Int) + 1, z1)]) := by show _ = _; rw [HSP.out, g0, if_pos rfl]
            clear hh HSP
            go_wp2_with (first | (at_builtin; go_loud (refine wpList_append_row rfl _ _ 30 rfl (w.heap.size + 1 + 1) 104 i0 (.agg #[.int .i64 0, .int .i64 0]) 2 16 Tryd.underlying30 HZ.out.1 HZ.out.2.1 HZ.out.2.2.1 HZ.out.2.2.2 rfl (by decide) _ _ _ rfl (how2.alloc _) ⟨wr.heap.size + 1, 0, none⟩ 1 1 [.int .i64 ((k : Int) + 1), .int .i64 z1] rfl (by decide) rfl (by have h9 := cells2_new (.int .i64 ((k : Int) + 1)) (.int .i64 z1) 104 (wr.alloc (.cells #[.int .i64 z1, .int .i64 z2, .int .i64 z3] 47)); simpa using h9) (fun x hx => by simp at hx; rcases hx with rfl | rfl <;> rfl) (by unfold maxLen; omega) (by omega) (by simp; omega) ?_); intro v9 w9 hown9 hgrow9) | fail)
            go_roundw
            case rel => exact ⟨j + 1, by omega, by go_num, ((HRK.out.bel HKA.out.1).bel HKA.out.2).trans hgrow9, by
              rw [HSQ.out, ← List.append_assoc, cellsP_append, List.length_append]
              exact hown9⟩
            case measure => simp [intOf]; omega
          · have g0 : (z3 == z2) = false := by simp [hh]
            have HSQ : Hid (hotR ((k : Int) + 1) (zs.take (j + 1)) = hotR ((k : Int) + 1) (zs.take j)) := by show _ = _; rw [HSP.out, g0]; simp
            clear hh HSP
            go_wp2_with fail
            go_roundw
            case rel => exact ⟨j + 1, by omega, by go_num, HRK.out.bel HKA.out.1, by rw [HSQ.out]; exact how2⟩
            case measure => simp [intOf]; omega
        · obtain rfl : j = xs.length := by omega
          have hfin : heatR 0 xs (ds.take (k + 1)) = H0 ++ hotR ((k : Int) + 1) (zs.take xs.length) := by rw [HST.out, List.take_of_length_le (Nat.le_of_eq hzl)]
          have hP9 : PrI w h zs xs.length (.slice p5 xs.length c5) u6 (heatR 0 xs (ds.take (k + 1))) wr := by
            refine ⟨HPB.out.1.bel.trans (hbelow.mono (by omega)), (hbelow.block _ (by omega)).trans HPB.out.1.a0, (hbelow.block _ (by omega)).trans HPB.out.1.rz, HPB.out.1.rl.rowK (fun hx a n c he => (HPB.out.1.off hx a n c he).1) hRK, HPB.out.1.nz, ?_, by rw [hfin]; exact hown⟩
            intro hx a n c he
            obtain ⟨o1, o2, o3⟩ := HPB.out.1.off hx a n c he
            exact ⟨hRK.off o1 o2, Nat.lt_of_lt_of_le o2 hRK.size, o3⟩
          have HP9 := Lib.hid hP9
          clear hP9 hfin hown hRK hbelow
          go_wp2_with fail
          go_roundw
          case rel => exact ⟨k + 1, _, by omega, by go_num, by rw [HZS.out]; exact HP9.out⟩
          case measure => simp [intOf]; omega
    · obtain rfl : k = ds.length := by omega
      rw [List.take_length] at hI
      have z0 := cell_of_heap (o := 0) hI.rz rfl
      have z1 := cell_of_heap (o := 1) hI.rz rfl
      have z2 := frozen_of_heap (o := 0) hI.rz
      have z3 := frozen_of_heap (o := 1) hI.rz
      have HI2 := Lib.hid hI
      clear hI
      go_wp2_with fail
      have hst := two_stores (.int .i64 h) (.slice pk xs.length ck) z0 z1
      have hrl9 := (HI2.out.rl.set (b := w.heap.size + 1) (o := 0) (x := .int .i64 h) fun hx a n c he => (HI2.out.off hx a n c he).2.2.2).set (b := w.heap.size + 1) (o := 1) (x := .slice pk xs.length ck) fun hx a n c he => (HI2.out.off hx a n c he).2.2.2
      have hl9 : (heatR 0 xs ds).length ≤ 1000 * 1000 := Nat.le_trans (heatR_length 0 xs ds) (Nat.mul_le_mul hn hd)
      have hrow9 := ownsRow_setCell_below (ownsRow_setCell_below HI2.out.own (a := ⟨w.heap.size + 1, 0, none⟩) (by simp) (.int .i64 h)) (a := ⟨w.heap.size + 1, 1, none⟩) (by simp) (.slice pk xs.length ck)
      exact bodyPost_ret (v := .tuple #[.agg #[.int .i64 h, .slice pk xs.length ck], v0]) (by simp [results, Tryd.results70, go_sem, hst]) rfl ⟨⟨_, _, rfl, hrl9, HI2.out.nz, PL.of_row (n := (heatR 0 xs ds).length) rfl (by unfold maxLen; omega) hrow9⟩, (HI2.out.bel.setCell (by simp) _).setCell (by simp) _⟩
end Go.Proofs.YtknpglgpkkhhiaaDoor

/- The reference's asked, Hot, After, Repeats. -/
namespace Go.Proofs.YtknpglgpkkhhiaaDoor
set_option linter.unusedSimpArgs false
set_option linter.unusedVariables false
open Go.RowKit

/-- The error of a watch and of days. -/
def askE (h : Int) (xs : List Rk) (ds : List (List Int)) : Int := if watchB h xs = false then 70 else if validB h xs ds = false then 72 else 0
def hotOut (h : Int) (xs : List Rk) (ds : List (List Int)) : List (Int × Int) := if askE h xs ds = 0 then heatR 0 xs ds else []
def aftE (h : Int) (xs : List Rk) (ds : List (List Int)) : Int := if askE h xs ds = 0 then (if (heatR 0 xs ds).isEmpty = true then 0 else 73) else askE h xs ds
def aftH (h : Int) (xs : List Rk) (ds : List (List Int)) : Int := if aftE h xs ds = 0 then h else 0
def aftL (h : Int) (xs : List Rk) (ds : List (List Int)) : List Rk := if aftE h xs ds = 0 then endR xs ds else []
def repE (h : Int) (xs : List Rk) (ds : List (List Int)) : Int := if askE h xs ds = 0 then (if ds.isEmpty = true then 72 else 0) else askE h xs ds
def repB (h : Int) (xs : List Rk) (ds : List (List Int)) : Bool := decide (repE h xs ds = 0) && repN 7 xs ds
theorem askE_zero {h : Int} {xs : List Rk} {ds : List (List Int)} : askE h xs ds = 0 ↔ watchB h xs = true ∧ validB h xs ds = true := by
  unfold askE
  cases watchB h xs <;> cases validB h xs ds <;> simp
theorem ask_bounds {h : Int} {xs : List Rk} (hw : watchB h xs = true) : xs.length ≤ 1000 ∧ (∀ x ∈ xs, 0 ≤ x.2.2 ∧ x.2.2 ≤ 100000) := by
  refine ⟨by have := (watchB_iff.1 hw).2.1; omega, fun x hx => ?_⟩
  obtain ⟨_, _, _, h4, h5, h6⟩ := watchB_ok hw x hx
  omega
theorem RL.ne_watch {xs : List (Int × Int × Int)} {u x y : Value} {a : World} {b : Nat} {t : TypeId} {f : Nat × Nat} (h : RL xs u a) (hb : a.heap[b]? = some (.cells #[x, y] t f)) : xs ≠ [] → ∀ ad n c, u = .slice (some ad) n c → ad.block ≠ b := by
  intro hx ad n c he e
  obtain ⟨p, cap, rfl, h2, h3⟩ := h
  obtain ⟨g, off, rfl, h5⟩ := h3 hx
  cases he
  have hx0 : 0 < xs.length := by cases xs with | nil => exact absurd rfl hx | cons _ _ => simp
  have h6 := (h5 0 hx0).2.2
  simp only at e
  subst e
  simp [World.cell?, hb] at h6
theorem validB_small {h : Int} {xs : List Rk} {ds : List (List Int)} (hv : validB h xs ds = true) : ds.length ≤ 60 := by
  simp only [validB, Bool.and_eq_true, decide_eq_true_eq] at hv
  exact hv.1

set_option maxRecDepth 100000 in
set_option maxHeartbeats 4000000 in
theorem askedR_v (h : Int) (xs : List Rk) (ds : List (List Int)) (u v : Value) (w : World) (hu : RL xs u w) (hv : DL ds v w) (c : Int) (hc : Hid (askE h xs ds = c)) :
    Calls Tryd.prog 69 #[.agg #[.int .i64 h, u], v] w fun e w' => e = .returned (.int .i64 c) ∧ Below w.heap.size w w' := by
  have HU := Lib.hid hu
  have HV := Lib.hid hv
  obtain ⟨p, cp, rfl, _, _⟩ := hu
  obtain ⟨q, cq, rfl, hm, _⟩ := hv
  have KB : Free.Bel w (w.alloc (.cells #[.int .i64 h, .slice p xs.length cp] 24)) := belAlloc _ _
  have FA : ∀ W, Free.Bel (w.alloc (.cells #[.int .i64 h, .slice p xs.length cp] 24)) W → W.cell? ⟨w.heap.size, 0, none⟩ = some (.int .i64 h) ∧ W.cell? ⟨w.heap.size, 1, none⟩ = some (.slice p xs.length cp) := fun W hW => ⟨keepsB hW (by simp [go_sem]), keepsB hW (by simp [go_sem])⟩
  have KE : Free.Bel (w.alloc (.cells #[.int .i64 h, .slice p xs.length cp] 24)) (w.alloc (.cells #[.int .i64 h, .slice p xs.length cp] 24)) := Free.Bel.refl _
  cases hw : watchB h xs
  · have HC := Lib.hid (watchR_v h xs _ _ (HU.out.keeps KB) false hw)
    obtain rfl : c = 70 := by rw [← hc.out, askE, if_pos hw]
    clear hw
    go_enter Tryd.func69, Tryd.ntmps69
    go_wp2_with fail
    refine HC.out.mono ?_
    rintro e w1 ⟨rfl, hB1⟩
    go_wp2_with fail
    go_ret
    exact ⟨rfl, bt KB hB1⟩
  · have HC := Lib.hid (watchR_v h xs _ _ (HU.out.keeps KB) true hw)
    have HPOS : Hid (∀ x ∈ xs, 1 ≤ x.1) := fun x hx => (watchB_ok hw x hx).1
    have hc2 : Hid ((if validB h xs ds = false then 72 else 0) = c) := by show _ = _; rw [← hc.out]; simp [askE, hw]
    clear hw
    go_enter Tryd.func69, Tryd.ntmps69
    go_wp2_with fail
    refine HC.out.mono ?_
    rintro e w1 ⟨rfl, hB1⟩
    have K1 : Free.Bel (w.alloc (.cells #[.int .i64 h, .slice p xs.length cp] 24)) w1 := hB1
    clear hB1 KE
    obtain ⟨r, hr⟩ : ∃ r, validB h xs ds = r := ⟨_, rfl⟩
    have HR := Lib.hid hr
    rw [hr] at hc2
    clear hr
    go_wp2_with fail
    refine (validR_v h xs ds _ _ _ (HU.out.keeps (bt KB K1)) (HV.out.keeps (bt KB K1)) HPOS.out r HR).mono ?_
    rintro e w2 ⟨rfl, hB2⟩
    cases r
    · obtain rfl : c = 72 := by rw [← hc2.out]; rfl
      go_wp2_with fail
      go_ret
      exact ⟨rfl, bt KB (bt K1 hB2)⟩
    · obtain rfl : c = 0 := by rw [← hc2.out]; rfl
      go_wp2_with fail
      go_ret
      exact ⟨rfl, bt KB (bt K1 hB2)⟩

set_option maxRecDepth 100000 in
set_option maxHeartbeats 4000000 in
theorem hotRef_v (h : Int) (xs : List Rk) (ds : List (List Int)) (u v : Value) (w : World) (hu : RL xs u w) (hz : NZ u) (hv : DL ds v w) (c : Int) (hc : Hid (askE h xs ds = c)) :
    Calls Tryd.prog 22 #[.agg #[.int .i64 h, u], v] w fun e w' => (∃ v2, e = .returned (.tuple #[v2, .int .i64 c]) ∧ PL (hotOut h xs ds) v2 w') ∧ Below w.heap.size w w' := by
  have HU := Lib.hid hu
  have HV := Lib.hid hv
  obtain ⟨p, cp, rfl, _, _⟩ := hu
  obtain ⟨q, cq, rfl, hm, _⟩ := hv
  have KB : Free.Bel w (w.alloc (.cells #[.int .i64 h, .slice p xs.length cp] 24)) := belAlloc _ _
  have FA : ∀ W, Free.Bel (w.alloc (.cells #[.int .i64 h, .slice p xs.length cp] 24)) W → W.cell? ⟨w.heap.size, 0, none⟩ = some (.int .i64 h) ∧ W.cell? ⟨w.heap.size, 1, none⟩ = some (.slice p xs.length cp) := fun W hW => ⟨keepsB hW (by simp [go_sem]), keepsB hW (by simp [go_sem])⟩
  have KE : Free.Bel (w.alloc (.cells #[.int .i64 h, .slice p xs.length cp] 24)) (w.alloc (.cells #[.int .i64 h, .slice p xs.length cp] 24)) := Free.Bel.refl _
  have HASK := Lib.hid (askedR_v h xs ds _ _ _ (HU.out.keeps KB) (HV.out.keeps KB) c hc)
  have HNZ := Lib.hid hz
  clear hz
  go_enter Tryd.func22, Tryd.ntmps22
  go_wp2_with fail
  refine HASK.out.mono ?_
  rintro e w1 ⟨rfl, hB1⟩
  have K1 : Free.Bel (w.alloc (.cells #[.int .i64 h, .slice p xs.length cp] 24)) w1 := hB1
  clear hB1 KE
  by_cases h0 : c = 0
  · have hask := hc.out
    rw [h0] at hask
    have hwv := askE_zero.1 hask
    have hbd := ask_bounds hwv.1
    have hd := validB_small hwv.2
    have hho : Hid (hotOut h xs ds = heatR 0 xs ds) := if_pos hask
    have HPR := Lib.hid (playedR_any h xs ds _ _ w1 (HU.out.keeps (bt KB K1)) HNZ.out (HV.out.keeps (bt KB K1)) hbd.1 (by omega) hbd.2)
    subst h0
    clear hwv hbd hd hask
    go_wp2_with fail
    refine HPR.out.mono ?_
    rintro e w2 ⟨⟨v1, v2, rfl, hrl, _, hpl⟩, hB2⟩
    obtain ⟨p1, c1, rfl, _, _⟩ := hrl
    have HPL := Lib.hid hpl
    clear hpl
    go_wp2_with fail
    exact bodyPost_ret (v := .tuple #[v2, .int .i64 0]) (by simp [results, Tryd.results22, go_sem]) rfl ⟨⟨v2, rfl, by rw [hho.out]; exact HPL.out.keeps (belAlloc _ _)⟩, bt KB (bt K1 (bt hB2 (belAlloc _ _)))⟩
  · have g0 : (c == 0) = false := by simp [h0]
    have hho : Hid (hotOut h xs ds = []) := if_neg (by rw [hc.out]; exact h0)
    go_wp2_with fail
    exact bodyPost_ret (v := .tuple #[.slice none 0 0, .int .i64 c]) (by simp [results, Tryd.results22, go_sem]) rfl ⟨⟨_, rfl, by rw [hho.out]; exact PL.nil _⟩, bt KB K1⟩

set_option maxRecDepth 100000 in
set_option maxHeartbeats 4000000 in
theorem aftRef_v (h : Int) (xs : List Rk) (ds : List (List Int)) (u v : Value) (w : World) (hu : RL xs u w) (hz : NZ u) (hv : DL ds v w) :
    Calls Tryd.prog 24 #[.agg #[.int .i64 h, u], v] w fun e w' => (∃ v2, e = .returned (.tuple #[.agg #[.int .i64 (aftH h xs ds), v2], .int .i64 (aftE h xs ds)]) ∧ RL (aftL h xs ds) v2 w') ∧ Below w.heap.size w w' := by
  have HU := Lib.hid hu
  have HV := Lib.hid hv
  obtain ⟨p, cp, rfl, _, _⟩ := hu
  obtain ⟨q, cq, rfl, hm, _⟩ := hv
  have KB : Free.Bel w ((w.alloc (.cells #[.int .i64 h, .slice p xs.length cp] 24)).alloc (.cells #[.int .i64 0, .slice none 0 0] 24)) := Bel.allocT (Bel.allocT (Free.Bel.refl _) _) _
  have m1 : ((w.alloc (.cells #[.int .i64 h, .slice p xs.length cp] 24)).alloc (.cells #[.int .i64 0, .slice none 0 0] 24)).heap[w.heap.size + 1]? = some (.cells #[.int .i64 0, .slice none 0 0] 24 (0, 0)) := by
    have := World.alloc_heap_new (w.alloc (.cells #[.int .i64 h, .slice p xs.length cp] 24)) (.cells #[.int .i64 0, .slice none 0 0] 24)
    simpa using this
  have FA : ∀ W, Free.Bel ((w.alloc (.cells #[.int .i64 h, .slice p xs.length cp] 24)).alloc (.cells #[.int .i64 0, .slice none 0 0] 24)) W → W.cell? ⟨w.heap.size, 0, none⟩ = some (.int .i64 h) ∧ W.cell? ⟨w.heap.size, 1, none⟩ = some (.slice p xs.length cp) ∧ W.cell? ⟨w.heap.size + 1, 0, none⟩ = some (.int .i64 0) ∧ W.cell? ⟨w.heap.size + 1, 1, none⟩ = some (.slice none 0 0) ∧ W.frozen? ⟨w.heap.size + 1, 0, none⟩ = false ∧ W.frozen? ⟨w.heap.size + 1, 1, none⟩ = false := fun W hW => ⟨keepsB hW (by simp [go_sem]), keepsB hW (by simp [go_sem]), keepsB hW (cell_of_heap m1 rfl), keepsB hW (cell_of_heap m1 rfl), frozB hW (cell_of_heap (o := 0) m1 rfl) (frozen_of_heap m1), frozB hW (cell_of_heap (o := 1) m1 rfl) (frozen_of_heap m1)⟩
  have HRZ : Hid (∀ W, Free.Bel ((w.alloc (.cells #[.int .i64 h, .slice p xs.length cp] 24)).alloc (.cells #[.int .i64 0, .slice none 0 0] 24)) W → W.heap[w.heap.size + 1]? = some (.cells #[.int .i64 0, .slice none 0 0] 24 (0, 0))) := fun W hW => (hW.block _ (lt_of_heap m1)).trans m1
  have KE : Free.Bel ((w.alloc (.cells #[.int .i64 h, .slice p xs.length cp] 24)).alloc (.cells #[.int .i64 0, .slice none 0 0] 24)) ((w.alloc (.cells #[.int .i64 h, .slice p xs.length cp] 24)).alloc (.cells #[.int .i64 0, .slice none 0 0] 24)) := Free.Bel.refl _
  obtain ⟨c, hc0⟩ : ∃ c, askE h xs ds = c := ⟨_, rfl⟩
  have hc := Lib.hid hc0
  have HASK := Lib.hid (askedR_v h xs ds _ _ _ (HU.out.keeps KB) (HV.out.keeps KB) c hc)
  have HNZ := Lib.hid hz
  clear hz hc0 m1
  by_cases h0 : c = 0
  · have hask := hc.out
    rw [h0] at hask
    have hwv := askE_zero.1 hask
    have hbd := ask_bounds hwv.1
    have hd := validB_small hwv.2
    have HBD := Lib.hid (And.intro hbd.1 (And.intro hbd.2 hd))
    subst h0
    clear hwv hbd hd
    obtain ⟨E, hE⟩ : ∃ x, aftE h xs ds = x := ⟨_, rfl⟩
    obtain ⟨Hh, hHh⟩ : ∃ x, aftH h xs ds = x := ⟨_, rfl⟩
    rw [hE, hHh]
    have HE := Lib.hid hE
    have HHh := Lib.hid hHh
    have HA := Lib.hid hask
    clear hE hHh hask
    go_enter Tryd.func24, Tryd.ntmps24
    go_wp2_with fail
    refine HASK.out.mono ?_
    rintro e w1 ⟨rfl, hB1⟩
    have K1 : Free.Bel ((w.alloc (.cells #[.int .i64 h, .slice p xs.length cp] 24)).alloc (.cells #[.int .i64 0, .slice none 0 0] 24)) w1 := hB1
    clear hB1 KE HASK
    go_wp2_with fail
    refine (twin_any h xs _ w1 (HU.out.keeps (bt KB K1)) HNZ.out HBD.out.1).mono ?_
    rintro e w2 ⟨v2, rfl, hr2, hB2⟩
    have K2 : Free.Bel ((w.alloc (.cells #[.int .i64 h, .slice p xs.length cp] 24)).alloc (.cells #[.int .i64 0, .slice none 0 0] 24)) w2 := bt K1 hB2
    have hrl2 := RL.of_row (xs := xs) rfl (by have := HBD.out.1; unfold maxLen; omega) hr2
    have HNZ2 := Lib.hid (NZ.row hr2)
    have HRL2 := Lib.hid hrl2
    obtain ⟨p2, c2, rfl⟩ := row_slice hr2
    clear K1 hB2 hr2 hrl2
    go_wp2_with fail
    refine (playedR_any h xs ds _ _ w2 HRL2.out HNZ2.out (HV.out.keeps (bt KB K2)) HBD.out.1 (by have := HBD.out.2.2; omega) HBD.out.2.1).mono ?_
    rintro e w3 ⟨⟨v3, v4, rfl, hrl, hnz, hpl⟩, hB3⟩
    have K3 : Free.Bel ((w.alloc (.cells #[.int .i64 h, .slice p xs.length cp] 24)).alloc (.cells #[.int .i64 0, .slice none 0 0] 24)) w3 := bt K2 hB3
    have HRL := Lib.hid hrl
    have hlen : (endR xs ds).length = xs.length := endR_length _ _
    obtain ⟨p3, c3, rfl, _, _⟩ := hrl
    obtain ⟨p4, c4, rfl, _, _⟩ := hpl
    rw [hlen] at HRL ⊢
    clear K2 hB3 hlen hnz
    have KA : Free.Bel w3 (w3.alloc (.cells #[.int .i64 h, .slice p3 xs.length c3] 24)) := belAlloc _ _
    have K4 : Free.Bel ((w.alloc (.cells #[.int .i64 h, .slice p xs.length cp] 24)).alloc (.cells #[.int .i64 0, .slice none 0 0] 24)) (w3.alloc (.cells #[.int .i64 h, .slice p3 xs.length c3] 24)) := bt K3 KA
    have hq0 : (w3.alloc (.cells #[.int .i64 h, .slice p3 xs.length c3] 24)).cell? ⟨w3.heap.size, 0, none⟩ = some (.int .i64 h) ∧ (w3.alloc (.cells #[.int .i64 h, .slice p3 xs.length c3] 24)).cell? ⟨w3.heap.size, 1, none⟩ = some (.slice p3 xs.length c3) := ⟨by simp [go_sem], by simp [go_sem]⟩
    obtain ⟨q0, q1⟩ := hq0
    obtain ⟨n9, hn9⟩ : ∃ n, (heatR 0 xs ds).length = n := ⟨_, rfl⟩
    rw [hn9]
    by_cases hh : n9 = 0
    · have hem : (heatR 0 xs ds).isEmpty = true := by rw [List.isEmpty_iff]; exact List.eq_nil_of_length_eq_zero (hn9.trans hh)
      have hE0 : aftE h xs ds = 0 := by rw [aftE, if_pos HA.out, if_pos hem]
      obtain rfl : E = 0 := by rw [← HE.out]; exact hE0
      obtain rfl : Hh = h := by rw [← HHh.out, aftH, if_pos hE0]
      have HL : Hid (aftL Hh xs ds = endR xs ds) := if_pos hE0
      have g0 : decide (0 < (n9 : Int)) = false := decide_eq_false (by omega)
      have g1 : ¬ 0 < n9 := by omega
      clear hem hE0 hh hn9
      go_wp2_with fail
      have hrz := HRZ.out _ K4
      have hst := two_stores (.int .i64 Hh) (.slice p3 xs.length c3) (cell_of_heap (o := 0) hrz rfl) (cell_of_heap (o := 1) hrz rfl)
      have hrl9 := ((HRL.out.keeps KA).set (b := w.heap.size + 1) (o := 0) (x := .int .i64 Hh) ((HRL.out.keeps KA).ne_watch hrz)).set (b := w.heap.size + 1) (o := 1) (x := .slice p3 xs.length c3) ((HRL.out.keeps KA).ne_watch hrz)
      exact bodyPost_ret (v := .tuple #[.agg #[.int .i64 Hh, .slice p3 xs.length c3], .int .i64 0]) (by simp [results, Tryd.results24, go_sem, hst]) rfl ⟨⟨_, rfl, by rw [HL.out]; exact hrl9⟩, ((bt KB K4).setCell (by simp) _).setCell (by simp) _⟩
    · have hem : ¬ (heatR 0 xs ds).isEmpty = true := by rw [List.isEmpty_iff]; intro e; rw [e] at hn9; exact hh hn9.symm
      have hE0 : aftE h xs ds = 73 := by rw [aftE, if_pos HA.out, if_neg hem]
      obtain rfl : E = 73 := by rw [← HE.out]; exact hE0
      obtain rfl : Hh = 0 := by rw [← HHh.out, aftH, if_neg (by rw [hE0]; decide)]
      have HL : Hid (aftL h xs ds = []) := if_neg (by rw [hE0]; decide)
      have g0 : decide (0 < (n9 : Int)) = true := decide_eq_true (by omega)
      have g1 : 0 < n9 := by omega
      clear hem hE0 hh hn9
      go_wp2_with fail
      have hrz := HRZ.out _ K4
      have hst := two_stores (.int .i64 0) (.slice none 0 0) (cell_of_heap (o := 0) hrz rfl) (cell_of_heap (o := 1) hrz rfl)
      exact bodyPost_ret (v := .tuple #[.agg #[.int .i64 0, .slice none 0 0], .int .i64 73]) (by simp [results, Tryd.results24, go_sem, hst]) rfl ⟨⟨_, rfl, by rw [HL.out]; exact RL.nil _⟩, ((bt KB K4).setCell (by simp) _).setCell (by simp) _⟩
  · have g0 : (c == 0) = false := by simp [h0]
    have hE : aftE h xs ds = c := by rw [aftE, if_neg (by rw [hc.out]; exact h0)]; exact hc.out
    have hH : aftH h xs ds = 0 := by rw [aftH, if_neg (by rw [hE]; exact h0)]
    have HL : Hid (aftL h xs ds = []) := if_neg (by rw [hE]; exact h0)
    rw [hE, hH]
    clear hE hH
    go_enter Tryd.func24, Tryd.ntmps24
    go_wp2_with fail
    refine HASK.out.mono ?_
    rintro e w1 ⟨rfl, hB1⟩
    have K1 : Free.Bel ((w.alloc (.cells #[.int .i64 h, .slice p xs.length cp] 24)).alloc (.cells #[.int .i64 0, .slice none 0 0] 24)) w1 := hB1
    clear hB1 KE
    go_wp2_with fail
    have hrz := HRZ.out _ K1
    have hst := two_stores (.int .i64 0) (.slice none 0 0) (cell_of_heap (o := 0) hrz rfl) (cell_of_heap (o := 1) hrz rfl)
    exact bodyPost_ret (v := .tuple #[.agg #[.int .i64 0, .slice none 0 0], .int .i64 c]) (by simp [results, Tryd.results24, go_sem, hst]) rfl ⟨⟨_, rfl, by rw [HL.out]; exact RL.nil _⟩, ((bt KB K1).setCell (by simp) _).setCell (by simp) _⟩

set_option maxRecDepth 100000 in
set_option maxHeartbeats 4000000 in
theorem repRef_v (h : Int) (xs : List Rk) (ds : List (List Int)) (u v : Value) (w : World) (hu : RL xs u w) (hz : NZ u) (hv : DL ds v w) (c : Int) (r : Bool) (hcr : Hid (repE h xs ds = c ∧ repB h xs ds = r)) :
    Calls Tryd.prog 26 #[.agg #[.int .i64 h, u], v] w fun e w' => e = .returned (.tuple #[.bool r, .int .i64 c]) ∧ Below w.heap.size w w' := by
  have HU := Lib.hid hu
  have HV := Lib.hid hv
  obtain ⟨p, cp, rfl, _, _⟩ := hu
  obtain ⟨q, cq, rfl, hm, _⟩ := hv
  have KB : Free.Bel w (w.alloc (.cells #[.int .i64 h, .slice p xs.length cp] 24)) := belAlloc _ _
  have m0 : (w.alloc (.cells #[.int .i64 h, .slice p xs.length cp] 24)).heap[w.heap.size]? = some (.cells #[.int .i64 h, .slice p xs.length cp] 24 (0, 0)) := World.alloc_heap_new _ _
  have FA : ∀ W, Free.Bel (w.alloc (.cells #[.int .i64 h, .slice p xs.length cp] 24)) W → W.cell? ⟨w.heap.size, 0, none⟩ = some (.int .i64 h) ∧ W.cell? ⟨w.heap.size, 1, none⟩ = some (.slice p xs.length cp) := fun W hW => ⟨keepsB hW (by simp [go_sem]), keepsB hW (by simp [go_sem])⟩
  have KE : Free.Bel (w.alloc (.cells #[.int .i64 h, .slice p xs.length cp] 24)) (w.alloc (.cells #[.int .i64 h, .slice p xs.length cp] 24)) := Free.Bel.refl _
  obtain ⟨a, ha0⟩ : ∃ a, askE h xs ds = a := ⟨_, rfl⟩
  have ha := Lib.hid ha0
  have HASK := Lib.hid (askedR_v h xs ds _ _ _ (HU.out.keeps KB) (HV.out.keeps KB) a ha)
  have HNZ := Lib.hid hz
  have HM0 := Lib.hid m0
  clear hz ha0 m0
  by_cases h0 : a = 0
  · have hask := ha.out
    rw [h0] at hask
    have hwv := askE_zero.1 hask
    subst h0
    by_cases hem : ds.length = 0
    · obtain rfl : ds = [] := List.eq_nil_of_length_eq_zero hem
      obtain rfl : c = 72 := by rw [← hcr.out.1, repE, if_pos hask]; rfl
      obtain rfl : r = false := by rw [← hcr.out.2, repB, repE, if_pos hask]; rfl
      clear hwv hask hem
      go_enter Tryd.func26, Tryd.ntmps26
      go_wp2_with fail
      refine HASK.out.mono ?_
      rintro e w1 ⟨rfl, hB1⟩
      go_wp2_with fail
      exact bodyPost_ret (v := .tuple #[.bool false, .int .i64 72]) (by simp [results, Tryd.results26, go_sem]) rfl ⟨rfl, bt KB hB1⟩
    · have hem2 : ¬ ds.isEmpty = true := by rw [List.isEmpty_iff]; intro e; rw [e] at hem; exact hem rfl
      obtain rfl : c = 0 := by rw [← hcr.out.1, repE, if_pos hask, if_neg hem2]
      have hr7 : Hid (repN 7 xs ds = r) := by show _ = _; rw [← hcr.out.2, repB, repE, if_pos hask, if_neg hem2]; simp
      have g0 : ((ds.length : Int) == 0) = false := by simp; intro e; rw [e] at hem; exact hem rfl
      have g1 : ¬ ds = [] := by intro e; rw [e] at hem; exact hem rfl
      have hd := validB_small hwv.2
      have HD := Lib.hid (And.intro hd hwv.1)
      clear hwv hask hem hem2 hd hcr
      go_enter Tryd.func26, Tryd.ntmps26
      go_wp2_with fail
      refine HASK.out.mono ?_
      rintro e w1 ⟨rfl, hB1⟩
      have K1 : Free.Bel (w.alloc (.cells #[.int .i64 h, .slice p xs.length cp] 24)) w1 := hB1
      have HI0 := Lib.hid (And.intro (bt KB hB1) (And.intro ((hB1.block _ (lt_of_heap HM0.out)).trans HM0.out) (HU.out.keeps (bt KB hB1))))
      clear hB1 KE HASK K1 FA
      go_wp2_with fail
      go_loopw [7] (fun i wr => ∃ (k : Nat) (xk : List Rk) (uk : Value), k ≤ 7 ∧ i = .int .i64 k ∧ Hid (repN (7 - k) xk ds = r) ∧ Hid (watchB h xk = true) ∧ Hid (NZ uk) ∧ Below w.heap.size w wr ∧ wr.heap[w.heap.size]? = some (.cells #[.int .i64 h, uk] 24 (0, 0)) ∧ RL xk uk wr) (fun i _ => 7 - (intOf i).toNat)
      case atStart => exact ⟨0, xs, _, by omega, rfl, hr7, HD.out.2, HNZ.out, HI0.out.1, HI0.out.2.1, HI0.out.2.2⟩
      case round =>
        obtain ⟨k, xk, uk, hk, rfl, hrest, hwk, hnk, hB, hbx, hrl⟩ := hrel
        have b0 := cell_of_heap (o := 0) hbx rfl
        have b1 := cell_of_heap (o := 1) hbx rfl
        have HB := Lib.hid hB
        have HBX := Lib.hid hbx
        have HRL := Lib.hid hrl
        obtain ⟨pk, ck, rfl, _, _⟩ := hrl
        clear hB hbx
        by_cases hlt : k < 7
        · have hklt : (k : Int) < 7 := by omega
          have hbd := ask_bounds hwk.out
          have HPR := Lib.hid (playedR_any h xk ds _ _ wr HRL.out hnk.out (HV.out.keeps HB.out) hbd.1 (by have := HD.out.1; omega) hbd.2)
          have hst : Hid (((heatR 0 xk ds).isEmpty && repN (7 - (k + 1)) (endR xk ds) ds) = r) := by
            show _ = _
            rw [← hrest.out, show 7 - k = (7 - (k + 1)) + 1 by omega]; rfl
          clear hbd hrest
          go_wp2_with fail
          refine HPR.out.mono ?_
          rintro e w3 ⟨⟨v3, v4, rfl, hrl, hnz, hpl⟩, hB3⟩
          have HRL3 := Lib.hid hrl
          have HNZ3 := Lib.hid hnz
          have hlen : (endR xk ds).length = xk.length := endR_length _ _
          obtain ⟨p3, c3, rfl, _, _⟩ := hrl
          obtain ⟨p4, c4, rfl, _, _⟩ := hpl
          rw [hlen] at HRL3 HNZ3 ⊢
          have KA : Free.Bel w3 (w3.alloc (.cells #[.int .i64 h, .slice p3 xk.length c3] 24)) := belAlloc _ _
          have q0 : (w3.alloc (.cells #[.int .i64 h, .slice p3 xk.length c3] 24)).cell? ⟨w3.heap.size, 0, none⟩ = some (.int .i64 h) := by simp [go_sem]
          have q1 : (w3.alloc (.cells #[.int .i64 h, .slice p3 xk.length c3] 24)).cell? ⟨w3.heap.size, 1, none⟩ = some (.slice p3 xk.length c3) := by simp [go_sem]
          have hbx3 := (((bt hB3 KA)).block _ (lt_of_heap HBX.out)).trans HBX.out
          have f0 := frozen_of_heap (o := 0) hbx3
          have f1 := frozen_of_heap (o := 1) hbx3
          have f2 := cell_of_heap (o := 0) hbx3 rfl
          have f3 := cell_of_heap (o := 1) hbx3 rfl
          have HBX3 := Lib.hid hbx3
          have HK3 := Lib.hid (And.intro hB3 KA)
          clear hB3 KA hlen hnz hbx3
          obtain ⟨n9, hn9⟩ : ∃ n, (heatR 0 xk ds).length = n := ⟨_, rfl⟩
          rw [hn9]
          by_cases hh : n9 = 0
          · have hem : (heatR 0 xk ds).isEmpty = true := by rw [List.isEmpty_iff]; exact List.eq_nil_of_length_eq_zero (hn9.trans hh)
            have hnext : Hid (repN (7 - (k + 1)) (endR xk ds) ds = r) := by show _ = _; rw [← hst.out, hem, Bool.true_and]
            have hwn : Hid (watchB h (endR xk ds) = true) := watchB_end hwk.out ((heat_empty xk ds).1 hem)
            have g2 : decide (0 < (n9 : Int)) = false := decide_eq_false (by omega)
            have g3 : ¬ 0 < n9 := by omega
            clear hem hh hn9
            go_wp2_with fail
            go_roundw
            case rel => exact ⟨k + 1, endR xk ds, _, by omega, by go_num, hnext, hwn, HNZ3.out, ((HB.out.trans ((bt HK3.out.1 HK3.out.2).mono HB.out.size)).setCell (by simp) _).setCell (by simp) _, by
              have := heap_setCell_same (o := 1) (.slice p3 xk.length c3) (heap_setCell_same (o := 0) (.int .i64 h) HBX3.out)
              simpa using this, ((HRL3.out.keeps HK3.out.2).set ((HRL3.out.keeps HK3.out.2).ne_watch HBX3.out)).set ((HRL3.out.keeps HK3.out.2).ne_watch HBX3.out)⟩
            case measure => simp [intOf]; omega
          · have hem : (heatR 0 xk ds).isEmpty = false := by
              cases h9 : (heatR 0 xk ds).isEmpty
              · rfl
              · rw [List.isEmpty_iff] at h9; rw [h9] at hn9; exact absurd hn9.symm hh
            obtain rfl : r = false := by rw [← hst.out, hem, Bool.false_and]
            have g2 : decide (0 < (n9 : Int)) = true := decide_eq_true (by omega)
            have g3 : 0 < n9 := by omega
            clear hem hh hn9
            go_wp2_with fail
            exact bodyPost_ret (v := .tuple #[.bool false, .int .i64 0]) (by simp [results, Tryd.results26, go_sem]) rfl ⟨rfl, HB.out.trans ((bt HK3.out.1 HK3.out.2).mono HB.out.size)⟩
        · obtain rfl : k = 7 := by omega
          obtain rfl : r = true := by rw [← hrest.out]; rfl
          go_wp2_with fail
          exact bodyPost_ret (v := .tuple #[.bool true, .int .i64 0]) (by simp [results, Tryd.results26, go_sem]) rfl ⟨rfl, HB.out⟩
  · have g0 : (a == 0) = false := by simp [h0]
    obtain rfl : c = a := by rw [← hcr.out.1, repE, if_neg (by rw [ha.out]; exact h0)]; exact ha.out
    obtain rfl : r = false := by rw [← hcr.out.2, repB, hcr.out.1, decide_eq_false h0, Bool.false_and]
    clear hcr
    go_enter Tryd.func26, Tryd.ntmps26
    go_wp2_with fail
    refine HASK.out.mono ?_
    rintro e w1 ⟨rfl, hB1⟩
    go_wp2_with fail
    exact bodyPost_ret (v := .tuple #[.bool false, .int .i64 c]) (by simp [results, Tryd.results26, go_sem]) rfl ⟨rfl, bt KB hB1⟩
end Go.Proofs.YtknpglgpkkhhiaaDoor

