/- For how long ricks can be kept cool: turnings in order, states, and what is good for so many days. -/
import Derived.Test.YtknpglgpkkhhiaaDoorB2
import Derived.Maps.RangeRun
import Derived.IntWalk
namespace Go.Proofs.YtknpglgpkkhhiaaDoor
set_option linter.unusedSimpArgs false
set_option linter.unusedVariables false

theorem rises_pairG : ∀ {xs : List Rk} {l : Int}, risesB l xs = true → (xs.map (·.1)).Pairwise (· < ·)
  | [], _, _ => .nil
  | y :: r, l, h => by
    have h' := h
    simp only [risesB, Bool.and_eq_true] at h'
    rw [List.map_cons, List.pairwise_cons]
    refine ⟨fun a ha => ?_, rises_pairG h'.2.2.2⟩
    obtain ⟨z, hz, rfl⟩ := List.mem_map.1 ha
    have h5 := h'.1
    have h6 := h'.2.1
    simp only [inB, List.all_cons, List.all_nil, Bool.and_true, Bool.and_eq_true, decide_eq_true_eq] at h5 h6
    have : ∀ (r : List Rk) (l : Int), risesB l r = true → ∀ z ∈ r, l < z.1 := by
      intro r
      induction r with
      | nil => simp
      | cons q t ih =>
        intro l hr z hz
        simp only [risesB, inB, List.all_cons, List.all_nil, Bool.and_true, Bool.and_eq_true, decide_eq_true_eq] at hr
        rcases List.mem_cons.1 hz with rfl | hz
        · omega
        · have := ih _ hr.2.2.2 z hz; omega
    exact this r _ h'.2.2.2 z hz
/-- So many places from one on, below m, in order. -/
def comb (m : Nat) : Nat → Nat → List (List Nat)
  | _, 0 => [[]]
  | a, k + 1 => (List.range' a (m - a)).flatMap fun i => (comb m (i + 1) k).map (i :: ·)
def daysI (h m : Nat) : List (List Nat) := (List.range (h + 1)).flatMap fun n => comb m 0 n
def idAt (xs : List Rk) (i : Nat) : Int := ((xs[i]?).map (·.1)).getD 0
def idsOf (xs : List Rk) (l : List Nat) : List Int := l.map (idAt xs)
/-- All turnings of a day, in order. -/
def daysL (h : Int) (xs : List Rk) : List (List Int) := (daysI h.toNat xs.length).map (idsOf xs)
theorem idAt_ids {xs ys : List Rk} (h : xs.map (·.1) = ys.map (·.1)) : idAt xs = idAt ys := by
  funext i
  have := congrArg (fun l => l[i]?) h
  simp only [List.getElem?_map] at this
  rw [idAt, idAt, this]
theorem daysL_ids {h : Int} {xs ys : List Rk} (e : xs.map (·.1) = ys.map (·.1)) : daysL h xs = daysL h ys := by
  have hl : xs.length = ys.length := by simpa using congrArg List.length e
  unfold daysL idsOf
  rw [idAt_ids e, hl]
theorem dayR_ids (d : List Int) (xs : List Rk) : (dayR d xs).map (·.1) = xs.map (·.1) := by simp [dayR, turnW, Function.comp_def]
/-- Ricks that can be kept cool for so many days. -/
def goodN (h : Int) : Nat → List Rk → Bool
  | 0, _ => true
  | k + 1, ys => (daysL h ys).any fun d => coolB (dayR d ys) && goodN h k (dayR d ys)
theorem goodN_pred {h : Int} : ∀ (k : Nat) (ys : List Rk), goodN h (k + 1) ys = true → goodN h k ys = true
  | 0, _, _ => rfl
  | k + 1, ys, hg => by
    rw [goodN, List.any_eq_true] at hg ⊢
    obtain ⟨d, hd, h1⟩ := hg
    rw [Bool.and_eq_true] at h1
    exact ⟨d, hd, by rw [Bool.and_eq_true]; exact ⟨h1.1, goodN_pred k _ h1.2⟩⟩
theorem goodN_le {h : Int} {k m : Nat} (hk : k ≤ m) (ys : List Rk) (hg : goodN h m ys = true) : goodN h k ys = true := by
  induction hk with
  | refl => exact hg
  | step _ ih => exact ih (goodN_pred _ _ hg)
open Classical in
/-- For ever. -/
noncomputable def everB (h : Int) (ys : List Rk) : Bool := decide (∀ k, goodN h k ys = true)
theorem everB_iff {h : Int} {ys : List Rk} : everB h ys = true ↔ ∀ k, goodN h k ys = true := by simp [everB]
/-- Each state's ricks: the same but for what they have waited, none hot. -/
def SameKeys (xs ys : List Rk) : Prop := ys.map (fun x => (x.1, x.2.1)) = xs.map fun x => (x.1, x.2.1)
def StOf (xs ys : List Rk) : Prop := SameKeys xs ys ∧ ∀ x ∈ ys, 0 ≤ x.2.2 ∧ x.2.2 < x.2.1
theorem SameKeys.length {xs ys : List Rk} (h : SameKeys xs ys) : ys.length = xs.length := by simpa using congrArg List.length h
theorem SameKeys.ids {xs ys : List Rk} (h : SameKeys xs ys) : ys.map (·.1) = xs.map (·.1) := by
  have := congrArg (List.map (fun p : Int × Int => p.1)) h
  simpa [List.map_map, Function.comp_def] using this
theorem SameKeys.day {xs ys : List Rk} (h : SameKeys xs ys) (d : List Int) : SameKeys xs (dayR d ys) := by
  unfold SameKeys at h ⊢
  rw [← h]
  simp [dayR, turnW, Function.comp_def]
/-- A cool day leads from state to state. -/
theorem StOf.day {xs ys : List Rk} (h : StOf xs ys) (d : List Int) (hc : coolB (dayR d ys) = true) : StOf xs (dayR d ys) := by
  refine ⟨h.1.day d, fun x hx => ?_⟩
  have h1 := List.all_eq_true.1 hc x hx
  obtain ⟨y, hy, rfl⟩ := List.mem_map.1 hx
  have := h.2 y hy
  simp only [turnW, bne_iff_ne, ne_eq] at h1 ⊢
  split
  · omega
  · rename_i hn
    simp only [hn, if_false] at h1
    simp only [Bool.false_eq_true, if_false] at h1
    omega
/-- Where nothing more goes, nothing ever goes. -/
theorem good_stable {h : Int} {xs : List Rk} {n : Nat} (hs : ∀ ys, StOf xs ys → goodN h n ys = true → goodN h (n + 1) ys = true) : ∀ (m : Nat) (ys : List Rk), StOf xs ys → goodN h n ys = true → goodN h (n + m) ys = true
  | 0, ys, _, hg => hg
  | m + 1, ys, hy, hg => by
    have h1 := hs ys hy hg
    rw [goodN, List.any_eq_true] at h1
    obtain ⟨d, hd, h2⟩ := h1
    rw [Bool.and_eq_true] at h2
    show goodN h (n + m + 1) ys = true
    rw [goodN, List.any_eq_true]
    exact ⟨d, hd, by rw [Bool.and_eq_true]; exact ⟨h2.1, good_stable hs m _ (hy.day d h2.1) h2.2⟩⟩
theorem good_ever {h : Int} {xs : List Rk} {n : Nat} (hs : ∀ ys, StOf xs ys → goodN h n ys = true → goodN h (n + 1) ys = true) (ys : List Rk) (hy : StOf xs ys) : goodN h n ys = everB h ys := by
  rw [Bool.eq_iff_iff, everB_iff]
  constructor
  · intro hg k
    by_cases hk : k ≤ n
    · exact goodN_le hk ys hg
    · have := good_stable hs (k - n) ys hy hg
      rwa [show n + (k - n) = k by omega] at this
  · exact fun hg => hg n

/-- The number of a state. -/
def codeF (n : Int) : List Rk → Int
  | [] => n
  | x :: r => codeF (n * x.2.1 + x.2.2) r
def codeR (ys : List Rk) : Int := codeF 0 ys
def atF (n : Int) : List Rk → List Rk × Int
  | [] => ([], n)
  | x :: r => ((x.1, x.2.1, (atF n r).2 % x.2.1) :: (atF n r).1, (atF n r).2 / x.2.1)
def atR (xs : List Rk) (n : Int) : List Rk := (atF n xs).1
def prodE : List Rk → Int
  | [] => 1
  | x :: r => x.2.1 * prodE r
theorem atF_keys (n : Int) : ∀ xs : List Rk, SameKeys xs (atF n xs).1
  | [] => rfl
  | x :: r => by
    have := atF_keys n r
    unfold SameKeys at this ⊢
    simp only [atF, List.map_cons, this]
theorem atF_range (n : Int) : ∀ xs : List Rk, (∀ x ∈ xs, 1 ≤ x.2.1) → ∀ y ∈ (atF n xs).1, 0 ≤ y.2.2 ∧ y.2.2 < y.2.1
  | [], _, y, hy => by simp [atF] at hy
  | x :: r, h, y, hy => by
    have hx := h x (by simp)
    simp only [atF, List.mem_cons] at hy
    rcases hy with rfl | hy
    · exact ⟨Int.emod_nonneg _ (by omega), Int.emod_lt_of_pos _ (by omega)⟩
    · exact atF_range n r (fun z hz => h z (by simp [hz])) y hy
theorem atR_st {xs : List Rk} (h : ∀ x ∈ xs, 1 ≤ x.2.1) (n : Int) : StOf xs (atR xs n) := ⟨atF_keys n xs, atF_range n xs h⟩
theorem code_atF (n : Int) : ∀ xs : List Rk, codeF (atF n xs).2 (atF n xs).1 = n
  | [] => rfl
  | x :: r => by
    simp only [atF, codeF]
    rw [Int.mul_comm, Int.mul_ediv_add_emod]
    exact code_atF n r
theorem at_codeF : ∀ (ys : List Rk) (a : Int), (∀ y ∈ ys, 0 ≤ y.2.2 ∧ y.2.2 < y.2.1) → atF (codeF a ys) ys = (ys, a)
  | [], a, _ => rfl
  | x :: r, a, h => by
    have hx := h x (by simp)
    have ih := at_codeF r (a * x.2.1 + x.2.2) (fun z hz => h z (by simp [hz]))
    simp only [codeF, atF, ih]
    have h1 : (a * x.2.1 + x.2.2) % x.2.1 = x.2.2 := by rw [Int.add_comm, Int.add_mul_emod_self_right, Int.emod_eq_of_lt hx.1 hx.2]
    have h2 : (a * x.2.1 + x.2.2) / x.2.1 = a := by
      rw [Int.add_comm, Int.add_mul_ediv_right _ _ (by omega), Int.ediv_eq_zero_of_lt hx.1 hx.2]
      omega
    rw [h1, h2]
theorem atF_same {xs ys : List Rk} (h : SameKeys xs ys) (n : Int) : atF n ys = atF n xs := by
  induction xs generalizing ys with
  | nil => rw [show ys = [] from List.eq_nil_of_length_eq_zero (by simpa using h.length)]
  | cons x r ih =>
    match ys, h with
    | y :: t, h =>
      simp only [SameKeys, List.map_cons, List.cons.injEq, Prod.mk.injEq] at h
      obtain ⟨⟨h1, h2⟩, h3⟩ := h
      simp only [atF, ih (ys := t) h3, h1, h2]
theorem at_code {xs ys : List Rk} (h : StOf xs ys) : atR xs (codeR ys) = ys := by
  rw [atR, ← atF_same h.1, codeR, at_codeF ys 0 h.2]
theorem codeF_bound : ∀ (ys : List Rk) (a b : Int), (∀ y ∈ ys, 0 ≤ y.2.2 ∧ y.2.2 < y.2.1) → 0 ≤ a → a < b → 0 ≤ codeF a ys ∧ codeF a ys < b * prodE ys
  | [], a, b, _, ha, hb => by simp [codeF, prodE]; omega
  | x :: r, a, b, h, ha, hb => by
    have hx := h x (by simp)
    have ih := codeF_bound r (a * x.2.1 + x.2.2) (b * x.2.1) (fun z hz => h z (by simp [hz])) (Int.add_nonneg (Int.mul_nonneg ha (by omega)) hx.1) (by
      have : (a + 1) * x.2.1 ≤ b * x.2.1 := Int.mul_le_mul_of_nonneg_right (by omega) (by omega)
      rw [Int.add_mul] at this
      omega)
    simp only [codeF, prodE]
    rw [← Int.mul_assoc]
    exact ih
theorem code_bound {ys : List Rk} (h : ∀ y ∈ ys, 0 ≤ y.2.2 ∧ y.2.2 < y.2.1) : 0 ≤ codeR ys ∧ codeR ys < prodE ys := by
  have := codeF_bound ys 0 1 h (by omega) (by omega)
  simpa [codeR] using this
theorem prodE_same {xs ys : List Rk} (h : SameKeys xs ys) : prodE ys = prodE xs := by
  induction xs generalizing ys with
  | nil => rw [show ys = [] from List.eq_nil_of_length_eq_zero (by simpa using h.length)]
  | cons x r ih =>
    match ys, h with
    | y :: t, h =>
      simp only [SameKeys, List.map_cons, List.cons.injEq, Prod.mk.injEq] at h
      obtain ⟨⟨h1, h2⟩, h3⟩ := h
      simp only [prodE, ih (ys := t) h3, h2]
/-- Below the number of all states, each number is a state's. -/
theorem atF_snd : ∀ (xs : List Rk) (n : Int), (∀ x ∈ xs, 1 ≤ x.2.1) → 0 ≤ n → n < prodE xs → (atF n xs).2 = 0
  | [], n, _, h0, h1 => by simp [prodE] at h1; simp [atF]; omega
  | x :: r, n, h, h0, h1 => by
    have hx := h x (by simp)
    have key : ∀ (xs : List Rk) (n : Int), (∀ x ∈ xs, 1 ≤ x.2.1) → 0 ≤ n → 0 ≤ (atF n xs).2 ∧ ∀ b : Int, n < b * prodE xs → (atF n xs).2 < b := by
      intro xs
      induction xs with
      | nil => intro n _ h0; exact ⟨h0, fun b hb => by simpa [prodE, atF] using hb⟩
      | cons y t ih =>
        intro n hy h0
        have hy1 := hy y (by simp)
        obtain ⟨i1, i2⟩ := ih n (fun z hz => hy z (by simp [hz])) h0
        refine ⟨Int.ediv_nonneg i1 (by omega), fun b hb => ?_⟩
        simp only [atF]
        exact Int.ediv_lt_of_lt_mul (by omega) (i2 (b * y.2.1) (by rw [Int.mul_assoc]; exact hb))
    obtain ⟨k1, k2⟩ := key (x :: r) n h h0
    have := k2 1 (by omega)
    omega
theorem code_at {xs : List Rk} (h : ∀ x ∈ xs, 1 ≤ x.2.1) {n : Int} (h0 : 0 ≤ n) (h1 : n < prodE xs) : codeR (atR xs n) = n := by
  have := code_atF n xs
  rw [atF_snd xs n h h0 h1] at this
  exact this
theorem prodE_bound : ∀ {xs : List Rk}, (∀ x ∈ xs, 1 ≤ x.2.1 ∧ x.2.1 ≤ 6) → 1 ≤ prodE xs ∧ prodE xs ≤ 6 ^ xs.length
  | [], _ => by simp [prodE]
  | x :: r, h => by
    have hx := h x (by simp)
    obtain ⟨h1, h2⟩ := prodE_bound (xs := r) (fun z hz => h z (by simp [hz]))
    simp only [prodE, List.length_cons]
    refine ⟨by have := Int.mul_le_mul hx.1 h1 (by omega) (by omega); omega, ?_⟩
    rw [Int.pow_succ, Int.mul_comm]
    exact Int.mul_le_mul h2 hx.2 (by omega) (Int.pow_nonneg (by omega))
/-- For how long: a million for ever. -/
def LongIs (h : Int) (ys : List Rk) (v : Int) : Prop := (everB h ys = true ∧ v = 1000000) ∨ ∃ n : Nat, n < 1000000 ∧ goodN h n ys = true ∧ goodN h (n + 1) ys = false ∧ v = n
theorem LongIs.ge {h : Int} {ys : List Rk} {v : Int} (H : LongIs h ys v) {i : Nat} (hi : i < 1000000) : decide ((i : Int) ≤ v) = goodN h i ys := by
  rcases H with ⟨h1, rfl⟩ | ⟨n, hn, h1, h2, rfl⟩
  · rw [everB_iff.1 h1 i]
    simp; omega
  · by_cases hin : i ≤ n
    · rw [goodN_le hin ys h1]
      simp; omega
    · have h3 : goodN h i ys = false := by
        cases hq : goodN h i ys with
        | false => rfl
        | true => have := goodN_le (show n + 1 ≤ i by omega) ys hq; rw [h2] at this; cases this
      rw [h3]
      simp; omega
theorem LongIs.ever {h : Int} {ys : List Rk} {v : Int} (H : LongIs h ys v) : decide (1000000 ≤ v) = everB h ys ∧ (v == 1000000) = everB h ys := by
  rcases H with ⟨h1, rfl⟩ | ⟨n, hn, h1, h2, rfl⟩
  · rw [h1]; simp
  · have h3 : everB h ys = false := by
      cases hq : everB h ys with
      | false => rfl
      | true => have := everB_iff.1 hq (n + 1); rw [h2] at this; cases this
    rw [h3]
    constructor
    · simp; omega
    · simp; omega
/-- The first of all turnings that leads, cool, to ricks of which something is so. -/
def firstD (h : Int) (p : List Rk → Bool) (ys : List Rk) : Option (List Int) := (daysL h ys).find? fun d => coolB (dayR d ys) && p (dayR d ys)
theorem firstD_congr {h : Int} {xs ys : List Rk} {p q : List Rk → Bool} (hy : StOf xs ys) (hpq : ∀ zs, StOf xs zs → p zs = q zs) : firstD h p ys = firstD h q ys := by
  unfold firstD
  congr 1
  funext d
  cases hc : coolB (dayR d ys) with
  | false => rfl
  | true => simp [hpq _ (hy.day d hc)]
theorem firstD_some {h : Int} {p : List Rk → Bool} {ys : List Rk} {d : List Int} (hf : firstD h p ys = some d) : d ∈ daysL h ys ∧ coolB (dayR d ys) = true ∧ p (dayR d ys) = true := by
  have h1 := List.find?_some hf
  rw [Bool.and_eq_true] at h1
  exact ⟨List.mem_of_find?_eq_some hf, h1⟩
theorem ever_next {h : Int} {ys : List Rk} {d : List Int} (hd : d ∈ daysL h ys) (hc : coolB (dayR d ys) = true) (he : everB h (dayR d ys) = true) : everB h ys = true := by
  rw [everB_iff] at he ⊢
  intro k
  refine goodN_pred _ _ ?_
  rw [goodN, List.any_eq_true]
  exact ⟨d, hd, by rw [Bool.and_eq_true]; exact ⟨hc, he k⟩⟩
/-- What lasts for ever lasts for ever behind some day. -/
theorem ever_first {h : Int} {ys : List Rk} (he : everB h ys = true) : ∃ d ∈ daysL h ys, coolB (dayR d ys) = true ∧ everB h (dayR d ys) = true := by
  apply Classical.byContradiction
  intro hn
  have hL : ∀ L : List (List Int), (∀ d ∈ L, coolB (dayR d ys) = true → everB h (dayR d ys) = false) → ∃ K, ∀ d ∈ L, coolB (dayR d ys) = true → goodN h K (dayR d ys) = false := by
    intro L
    induction L with
    | nil => exact fun _ => ⟨0, fun d hd => by simp at hd⟩
    | cons a r ih =>
      intro hh
      obtain ⟨K, hK⟩ := ih fun d hd => hh d (by simp [hd])
      by_cases hc : coolB (dayR a ys) = true
      · have h1 := hh a (by simp) hc
        obtain ⟨k, hk⟩ : ∃ k, goodN h k (dayR a ys) = false := by
          apply Classical.byContradiction
          intro h2
          have : everB h (dayR a ys) = true := everB_iff.2 fun k => by
            cases hq : goodN h k (dayR a ys) with
            | true => rfl
            | false => exact absurd ⟨k, hq⟩ h2
          rw [h1] at this; cases this
        have low : ∀ {i j : Nat} {zs : List Rk}, i ≤ j → goodN h i zs = false → goodN h j zs = false := fun {i j zs} hij h3 => by
          cases hq : goodN h j zs with
          | false => rfl
          | true => have := goodN_le hij zs hq; rw [h3] at this; cases this
        refine ⟨max K k, fun d hd hdc => ?_⟩
        rcases List.mem_cons.1 hd with rfl | hd
        · exact low (Nat.le_max_right _ _) hk
        · exact low (Nat.le_max_left _ _) (hK d hd hdc)
      · refine ⟨K, fun d hd hdc => ?_⟩
        rcases List.mem_cons.1 hd with rfl | hd
        · exact absurd hdc hc
        · exact hK d hd hdc
  obtain ⟨K, hK⟩ := hL (daysL h ys) fun d hd hc => by
    cases hq : everB h (dayR d ys) with
    | false => rfl
    | true => exact absurd ⟨d, hd, hc, hq⟩ hn
  have h1 := everB_iff.1 he (K + 1)
  rw [goodN, List.any_eq_true] at h1
  obtain ⟨d, hd, h2⟩ := h1
  rw [Bool.and_eq_true] at h2
  rw [hK d hd h2.1] at h2
  cases h2.2

/-- Lists by length, then by their numbers. -/
def lexB : List Int → List Int → Bool
  | a :: r, b :: s => if a = b then lexB r s else decide (a < b)
  | _, _ => false
def beforeL (a b : List Int) : Bool := if a.length = b.length then lexB a b else decide (a.length < b.length)
/-- A list that is taken to its place from the end on. -/
def sinkR {α : Type} (lt : α → α → Bool) (x : α) : List α → List α
  | [] => [x]
  | y :: r => if lt x y then y :: sinkR lt x r else x :: y :: r
def bitsI (m s : Nat) : List Nat := (List.range m).filter fun i => s / 2 ^ i % 2 == 1
def stepI {α : Type} (lt : α → α → Bool) (f : List Nat → α) (m n : Nat) (out : List α) (s : Nat) : List α := if (bitsI m s).length = n then (sinkR lt (f (bitsI m s)) out.reverse).reverse else out
def listsG {α : Type} (lt : α → α → Bool) (f : List Nat → α) (h m : Nat) : List α := (List.range (h + 1)).foldl (fun out n => (List.range (2 ^ m)).foldl (stepI lt f m n) out) []
def lexN : List Nat → List Nat → Bool
  | a :: r, b :: s => if a = b then lexN r s else decide (a < b)
  | _, _ => false
def beforeN (a b : List Nat) : Bool := if a.length = b.length then lexN a b else decide (a.length < b.length)
theorem sinkR_map {α β : Type} {lt : α → α → Bool} {lt' : β → β → Bool} {f : α → β} {x : α} : ∀ {l : List α}, (∀ y ∈ l, lt' (f x) (f y) = lt x y) → sinkR lt' (f x) (l.map f) = (sinkR lt x l).map f
  | [], _ => rfl
  | y :: r, h => by
    have ih := sinkR_map (lt := lt) (lt' := lt') (f := f) (x := x) (l := r) fun z hz => h z (List.mem_cons_of_mem _ hz)
    simp only [List.map_cons, sinkR, h y (by simp), ih]
    split <;> rfl
theorem sinkR_mem {α : Type} {lt : α → α → Bool} {x y : α} : ∀ {l : List α}, y ∈ sinkR lt x l → y = x ∨ y ∈ l
  | [], h => by simp [sinkR] at h; exact .inl h
  | z :: r, h => by
    simp only [sinkR] at h
    split at h
    · rcases List.mem_cons.1 h with rfl | h
      · exact .inr (by simp)
      · exact (sinkR_mem h).imp id fun h => by simp [h]
    · rcases List.mem_cons.1 h with rfl | h
      · exact .inl rfl
      · exact .inr h
theorem lists_daysI : ∀ h, h < 4 → ∀ m, m < 5 → listsG beforeN id h m = daysI h m := by decide +kernel
theorem lexB_ids {f : Nat → Int} {m : Nat} (hf : ∀ i j, i < m → j < m → (f i = f j ↔ i = j) ∧ (f i < f j ↔ i < j)) : ∀ (a b : List Nat), (∀ i ∈ a, i < m) → (∀ i ∈ b, i < m) → lexB (a.map f) (b.map f) = lexN a b
  | [], [], _, _ => rfl
  | [], _ :: _, _, _ => rfl
  | _ :: _, [], _, _ => rfl
  | a :: r, b :: s, ha, hb => by
    obtain ⟨h1, h2⟩ := hf a b (ha a (by simp)) (hb b (by simp))
    simp only [List.map_cons, lexB, lexN, h1, h2, lexB_ids hf r s (fun i hi => ha i (by simp [hi])) (fun i hi => hb i (by simp [hi]))]
theorem bitsI_lt {m s i : Nat} (h : i ∈ bitsI m s) : i < m := by simp [bitsI] at h; exact h.1
theorem listsG_map {f : Nat → Int} {h m : Nat} (hf : ∀ i j, i < m → j < m → (f i = f j ↔ i = j) ∧ (f i < f j ↔ i < j)) : listsG beforeL (fun l => l.map f) h m = (listsG beforeN id h m).map fun l => l.map f := by
  have hst : ∀ (n s : Nat) (out : List (List Nat)), (∀ l ∈ out, ∀ i ∈ l, i < m) → stepI beforeL (fun l => l.map f) m n (out.map fun l => l.map f) s = (stepI beforeN id m n out s).map (fun l => l.map f) ∧ ∀ l ∈ stepI beforeN id m n out s, ∀ i ∈ l, i < m := by
    intro n s out ho
    unfold stepI
    split
    · refine ⟨?_, fun l hl i hi => ?_⟩
      · rw [← List.map_reverse, sinkR_map (lt := beforeN) (f := fun l => l.map f) (x := bitsI m s), List.map_reverse]
        · rfl
        · intro y hy
          simp only [beforeL, beforeN, List.length_map, lexB_ids hf _ _ (fun i hi => bitsI_lt hi) (ho y (by simpa using hy))]
      · rcases sinkR_mem (List.mem_reverse.1 hl) with rfl | hl
        · exact bitsI_lt hi
        · exact ho l (by simpa using hl) i hi
    · exact ⟨rfl, ho⟩
  have hin : ∀ (n : Nat) (ss : List Nat) (out : List (List Nat)), (∀ l ∈ out, ∀ i ∈ l, i < m) → ss.foldl (stepI beforeL (fun l => l.map f) m n) (out.map fun l => l.map f) = (ss.foldl (stepI beforeN id m n) out).map (fun l => l.map f) ∧ ∀ l ∈ ss.foldl (stepI beforeN id m n) out, ∀ i ∈ l, i < m := by
    intro n ss
    induction ss with
    | nil => exact fun out ho => ⟨rfl, ho⟩
    | cons s r ih =>
      intro out ho
      obtain ⟨h1, h2⟩ := hst n s out ho
      simp only [List.foldl_cons, h1]
      exact ih _ h2
  have hou : ∀ (ns : List Nat) (out : List (List Nat)), (∀ l ∈ out, ∀ i ∈ l, i < m) → ns.foldl (fun out n => (List.range (2 ^ m)).foldl (stepI beforeL (fun l => l.map f) m n) out) (out.map fun l => l.map f) = (ns.foldl (fun out n => (List.range (2 ^ m)).foldl (stepI beforeN id m n) out) out).map fun l => l.map f := by
    intro ns
    induction ns with
    | nil => exact fun out _ => rfl
    | cons n r ih =>
      intro out ho
      obtain ⟨h1, h2⟩ := hin n (List.range (2 ^ m)) out ho
      simp only [List.foldl_cons, h1]
      exact ih _ h2
  exact hou _ [] (by simp)
theorem idAt_mono {xs : List Rk} {l : Int} (h : risesB l xs = true) : ∀ i j, i < xs.length → j < xs.length → (idAt xs i = idAt xs j ↔ i = j) ∧ (idAt xs i < idAt xs j ↔ i < j) := by
  have hp := rises_pairG h
  rw [List.pairwise_iff_getElem] at hp
  intro i j hi hj
  have e : ∀ k (hk : k < xs.length), idAt xs k = (xs.map (·.1))[k]'(by simpa using hk) := fun k hk => by simp [idAt, hk]
  rw [e i hi, e j hj]
  rcases Nat.lt_trichotomy i j with h1 | h1 | h1
  · have := hp i j (by simpa using hi) (by simpa using hj) h1
    constructor <;> constructor <;> intro h2 <;> omega
  · subst h1; simp
  · have := hp j i (by simpa using hj) (by simpa using hi) h1
    constructor <;> constructor <;> intro h2 <;> omega
/-- The reference's order of turnings. -/
theorem lists_daysL {h : Int} {xs : List Rk} (hw : watchB h xs = true) : listsG beforeL (idsOf xs) h.toNat xs.length = daysL h xs := by
  obtain ⟨h1, h2, h3⟩ := watchB_iff.1 hw
  rw [show idsOf xs = fun l => l.map (idAt xs) from rfl, listsG_map (idAt_mono h3), lists_daysI _ (by omega) _ (by omega)]
  rfl
end Go.Proofs.YtknpglgpkkhhiaaDoor

/- All states, in the order of the program's iterator. -/
namespace Go.Proofs.YtknpglgpkkhhiaaDoor
set_option linter.unusedSimpArgs false
set_option linter.unusedVariables false

def yAt : List Rk → Int → List Rk
  | [], _ => []
  | x :: r, m => (x.1, x.2.1, m % x.2.1) :: yAt r (m / x.2.1)
/-- The next state, and whether there is one. -/
def incR : List Rk → List Rk × Bool
  | [] => ([], false)
  | y :: r => if y.2.2 + 1 < y.2.1 then ((y.1, y.2.1, y.2.2 + 1) :: r, true) else ((y.1, y.2.1, 0) :: (incR r).1, (incR r).2)
def zeroR (xs : List Rk) : List Rk := xs.map fun x => (x.1, x.2.1, 0)
theorem yAt_zero : ∀ xs : List Rk, yAt xs 0 = zeroR xs
  | [] => rfl
  | x :: r => by simp [yAt, zeroR, yAt_zero r]
theorem yAt_length : ∀ (xs : List Rk) (m : Int), (yAt xs m).length = xs.length
  | [], _ => rfl
  | x :: r, m => by simp [yAt, yAt_length r]
theorem yAt_st : ∀ {xs : List Rk} (m : Int), (∀ x ∈ xs, 1 ≤ x.2.1) → StOf xs (yAt xs m)
  | [], m, _ => ⟨rfl, by simp [yAt]⟩
  | x :: r, m, h => by
    have hx := h x (by simp)
    obtain ⟨h1, h2⟩ := yAt_st (xs := r) (m / x.2.1) fun z hz => h z (by simp [hz])
    refine ⟨by unfold SameKeys at *; simp [yAt, h1], fun y hy => ?_⟩
    simp only [yAt, List.mem_cons] at hy
    rcases hy with rfl | hy
    · exact ⟨Int.emod_nonneg _ (by omega), Int.emod_lt_of_pos _ (by omega)⟩
    · exact h2 y hy
theorem prodE_pos : ∀ {xs : List Rk}, (∀ x ∈ xs, 1 ≤ x.2.1) → 1 ≤ prodE xs
  | [], _ => by simp [prodE]
  | x :: r, h => by
    have := Int.mul_le_mul (h x (by simp)) (prodE_pos (xs := r) fun z hz => h z (by simp [hz])) (by omega) (by have := h x (by simp); omega)
    simpa [prodE] using this
theorem incR_yAt : ∀ {xs : List Rk} (m : Int), (∀ x ∈ xs, 1 ≤ x.2.1) → 0 ≤ m → m < prodE xs → incR (yAt xs m) = (yAt xs (m + 1), decide (m + 1 < prodE xs))
  | [], m, _, h0, h1 => by
    simp only [prodE] at h1
    have : m = 0 := by omega
    subst this
    simp [yAt, incR, prodE]
  | x :: r, m, h, h0, h1 => by
    have hx := h x (by simp)
    have hr : ∀ z ∈ r, 1 ≤ z.2.1 := fun z hz => h z (by simp [hz])
    have hp : prodE (x :: r) = x.2.1 * prodE r := rfl
    rw [hp] at h1
    have d0 : 0 ≤ m / x.2.1 := Int.ediv_nonneg h0 (by omega)
    have d1 : m / x.2.1 < prodE r := Int.ediv_lt_of_lt_mul (by omega) (by rw [Int.mul_comm]; exact h1)
    have e0 := Int.emod_nonneg m (b := x.2.1) (by omega)
    have e1 := Int.emod_lt_of_pos m (b := x.2.1) (by omega)
    have e2 := Int.mul_ediv_add_emod m x.2.1
    have ih := incR_yAt (xs := r) (m / x.2.1) hr d0 d1
    simp only [yAt, incR]
    by_cases hc : m % x.2.1 + 1 < x.2.1
    · rw [if_pos hc]
      have h2 : (m + 1) / x.2.1 = m / x.2.1 := by
        rw [show m + 1 = (m % x.2.1 + 1) + x.2.1 * (m / x.2.1) by omega, Int.add_mul_ediv_left _ _ (by omega), Int.ediv_eq_zero_of_lt (by omega) hc]
        omega
      have h3 : (m + 1) % x.2.1 = m % x.2.1 + 1 := by
        rw [show m + 1 = (m % x.2.1 + 1) + x.2.1 * (m / x.2.1) by omega, Int.add_mul_emod_self_left, Int.emod_eq_of_lt (by omega) hc]
      have h4 : m + 1 < prodE (x :: r) := by
        rw [hp]
        have : x.2.1 * (m / x.2.1 + 1) ≤ x.2.1 * prodE r := Int.mul_le_mul_of_nonneg_left (by omega) (by omega)
        rw [Int.mul_add] at this
        omega
      rw [h2, h3, decide_eq_true h4]
    · rw [if_neg hc, ih]
      have h2 : (m + 1) / x.2.1 = m / x.2.1 + 1 := by
        rw [show m + 1 = x.2.1 * (m / x.2.1 + 1) by rw [Int.mul_add]; omega, Int.mul_ediv_cancel_left _ (by omega)]
      have h3 : (m + 1) % x.2.1 = 0 := by
        rw [show m + 1 = x.2.1 * (m / x.2.1 + 1) by rw [Int.mul_add]; omega, Int.mul_emod_right]
      have h4 : (m + 1 < prodE (x :: r)) ↔ (m / x.2.1 + 1 < prodE r) := by
        have h5 := Int.mul_lt_mul_left (a := x.2.1) (b := m / x.2.1 + 1) (c := prodE r) (by omega)
        have h6 : m + 1 = x.2.1 * (m / x.2.1 + 1) := by rw [Int.mul_add]; omega
        rw [hp, h6]
        have h7 : x.2.1 * (m / x.2.1 + 1) / x.2.1 = m / x.2.1 + 1 := Int.mul_ediv_cancel_left _ (by omega)
        first | exact h5 | (rw [h7]; exact h5)
      rw [h2, h3, decide_eq_decide.2 h4]
/-- Every state comes. -/
def lcode : List Rk → Int
  | [] => 0
  | y :: r => y.2.2 + y.2.1 * lcode r
theorem yAt_lcode : ∀ {xs ys : List Rk}, StOf xs ys → yAt xs (lcode ys) = ys ∧ 0 ≤ lcode ys ∧ lcode ys < prodE xs
  | [], ys, h => by
    have : ys = [] := List.eq_nil_of_length_eq_zero (by simpa using h.1.length)
    subst this
    simp [yAt, lcode, prodE]
  | x :: r, y :: t, h => by
    obtain ⟨hk, hb⟩ := h
    simp only [SameKeys, List.map_cons, List.cons.injEq, Prod.mk.injEq] at hk
    obtain ⟨⟨h1, h2⟩, h3⟩ := hk
    have hy := hb y (by simp)
    obtain ⟨i1, i2, i3⟩ := yAt_lcode (xs := r) (ys := t) ⟨h3, fun z hz => hb z (by simp [hz])⟩
    have h4 : lcode (y :: t) % x.2.1 = y.2.2 := by
      rw [lcode, ← h2, Int.add_mul_emod_self_left, Int.emod_eq_of_lt hy.1 hy.2]
    have h5 : lcode (y :: t) / x.2.1 = lcode t := by
      rw [lcode, ← h2, Int.add_mul_ediv_left _ _ (by omega), Int.ediv_eq_zero_of_lt hy.1 hy.2, Int.zero_add]
    refine ⟨?_, ?_, ?_⟩
    · rw [yAt, h4, h5, i1, ← h1, ← h2]
    · rw [lcode]
      have := Int.mul_nonneg (a := y.2.1) (b := lcode t) (by omega) i2
      omega
    · rw [lcode, prodE, ← h2]
      have : y.2.1 * (lcode t + 1) ≤ y.2.1 * prodE r := Int.mul_le_mul_of_nonneg_left (by omega) (by omega)
      rw [Int.mul_add] at this
      omega
  | _ :: _, [], h => by
    have := h.1.length
    simp at this
/-- The states as the iterator yields them. -/
def allY (xs : List Rk) : List (List Rk) := (List.range (prodE xs).toNat).map fun m : Nat => yAt xs (m : Int)
theorem mem_allY {xs ys : List Rk} (h : ∀ x ∈ xs, 1 ≤ x.2.1) : ys ∈ allY xs ↔ StOf xs ys := by
  unfold allY
  rw [List.mem_map]
  constructor
  · rintro ⟨m, _, rfl⟩
    exact yAt_st _ h
  · intro hs
    obtain ⟨h1, h2, h3⟩ := yAt_lcode hs
    exact ⟨(lcode ys).toNat, by rw [List.mem_range]; omega, by rw [Int.toNat_of_nonneg h2]; exact h1⟩
theorem allY_take {xs : List Rk} {m : Nat} (h : m < (prodE xs).toNat) : (allY xs).take (m + 1) = (allY xs).take m ++ [yAt xs (m : Int)] := by
  unfold allY
  rw [← List.map_take, ← List.map_take, List.take_range, List.take_range, Nat.min_eq_left h, Nat.min_eq_left (Nat.le_of_lt h), List.range_succ, List.map_append]
  rfl
/-- At work: the first k are done with, none of them could go on. -/
theorem incR_cut : ∀ (ys : List Rk) (k : Nat), k ≤ ys.length → (∀ j (h : j < ys.length), j < k → ¬ ys[j].2.2 + 1 < ys[j].2.1) → incR ys = (zeroR (ys.take k) ++ (incR (ys.drop k)).1, (incR (ys.drop k)).2)
  | ys, 0, _, _ => by simp [zeroR]
  | [], k + 1, h, _ => by simp at h
  | y :: r, k + 1, hk, h => by
    have h0 := h 0 (by simp) (by omega)
    simp only [List.getElem_cons_zero] at h0
    have ih := incR_cut r k (by simpa using hk) fun j hj hjk => by
      have := h (j + 1) (by simpa using hj) (by omega)
      simpa using this
    rw [incR, if_neg h0, List.take_succ_cons, List.drop_succ_cons, ih]
    simp [zeroR]
end Go.Proofs.YtknpglgpkkhhiaaDoor

/- A range over a function whose iterator stores into cells of its own. No function of the program here. -/
namespace Go.Proofs.YtknpglgpkkhhiaaDoor.RR
set_option linter.unusedSimpArgs false
set_option linter.unusedVariables false
open Go Go.RowKit

variable {F : Fence} {n : Nat} {P : Program}

/-- A range over a function whose iterator turns cells of its own: other objects stay. -/
theorem wpIn_rangeFunc_RS {α : Type} {g : Operand} {ps : Array Tmp} {assign body : Code} {Q : Exit → Act → World → Prop} {a : Act} {w : World}
    (hro : F.round = none) (h1 : 1 ≤ n) {gf : Nat} {lb : Array Value} (hg : a.eval g = .func (.func gf) #[] lb) (hFg : F.fn gf) (eg : ∀ args w, (callFunc gf args).run P w = .ok (.enter gf args) w)
    {encs : α → Array Value} {R Kp : World → World → Prop} {L : List α} (hseq : SeqL F (n - 1) P gf lb encs R Kp L w)
    (hRa : ∀ A o, w.heap.size ≤ A.heap.size → R w A → R w (A.alloc o)) (hRr : R w w) (hRb : ∀ A B k o, R A B → w.heap.size ≤ k → o.isCells = false → A.heap[k]? = some o → B.heap[k]? = some o)
    (hKt : ∀ {A B C : World}, Kp A B → Kp B C → Kp A C) (hKb : ∀ (W : World) (l : Nat) (o o' : Obj), w.heap.size ≤ l → W.heap[l]? = some o → o.isCells = false → o.isWalk = false → Kp W (W.putObj l o')) (hps : ∀ x, (encs x).size = ps.size)
    (I : List α → World → Prop) (Ix : Code → List α → World → Prop) (hI : OwnFrom w.heap.size I) (hIx : ∀ c, OwnFrom w.heap.size (Ix c)) (hIR : Abide R I) (hIxR : ∀ c, Abide R (Ix c)) (h0 : I [] w) (Ax : α → Act → World → Prop) (hAx : ∀ x a', OwnFrom w.heap.size (fun (_ : Unit) W => Ax x a' W))
    (hassign : ∀ (l : Nat) (pre : List α) (x : α) (W : World) (K : Act → World → Prop), I pre W → pre ++ [x] <+: L → (∀ a' W', KeepsFrom w.heap.size W W' → Kp W W' → I pre W' → Ax x a' W' → K a' W') →
      assign.wpIn (F.inRound l) (n - 1 - 1) P (Exit.then K (fun _ _ _ => False)) { tmps := (ps.zip (encs x)).foldl (fun t (p, v) => t.setIfInBounds p v) a.tmps, defers := [] } W)
    (hbody : ∀ (l : Nat) (pre : List α) (x : α) (a' : Act) (W : World), I pre W → Ax x a' W → pre ++ [x] <+: L → body.wpIn (F.inRound l) (n - 1 - 1) P (ownPostG w.heap.size Kp I Ix (pre ++ [x]) W) a' W)
    (hdone : ∀ (D : Nat) (W : World), w.heap.size ≤ D → I L W → W.heap[D]? = some (.deferred (some [])) → Q .normal { a with defers := { target := .collected D, args := #[] } :: a.defers } W)
    (hstop : ∀ (D : Nat) (c : Code) (pre : List α) (W : World), w.heap.size ≤ D → pre <+: L → Ix c pre W → W.heap[D]? = some (.deferred (some [])) → c.wpIn F n P Q { a with defers := { target := .collected D, args := #[] } :: a.defers } W) :
    (Code.rangeFunc g ps assign body).wpIn F n P Q a w := by
  refine wpIn_rangeFunc ?_
  intro fn hfn
  rw [hro]
  obtain ⟨rec, hrec⟩ : ∃ rec : LoopState → Option Code → Loop, rec = fun st pe => { state := st, pending := pe, fn, tmps := a.tmps, params := ps, assign, body, defers := w.heap.size } := ⟨_, rfl⟩
  obtain ⟨W1, hW1⟩ : ∃ W1, (w.alloc (.deferred (some []))).alloc (.loop (rec .ready none)) = W1 := ⟨_, rfl⟩
  have hL1 : W1.heap[w.heap.size + 1]? = some (.loop (rec .ready none)) := by
    rw [← hW1]; have := World.alloc_heap_new (w.alloc (.deferred (some []))) (.loop (rec .ready none)); rwa [World.size_alloc] at this
  have hK1 : W1.heap[w.heap.size]? = some (.deferred (some [])) := by
    rw [← hW1]; exact (Below.heap_alloc _ _ _ (by simp)).trans (World.alloc_heap_new w _)
  have hI1 : I [] W1 := by rw [← hW1]; exact hI.alloc _ (hI.alloc _ h0)
  have hb1 : R w W1 := by
    rw [← hW1]; exact hRa _ _ (by simp) (hRa _ _ (Nat.le_refl _) hRr)
  refine ⟨w.heap.size + 1, [{ target := .collected w.heap.size, args := #[] }], W1, { target := .fn (.func gf) lb, args := #[.func (.yield (w.heap.size + 1)) #[] #[]] }, W1, gf,
    #[.func (.yield (w.heap.size + 1)) #[] #[]] ++ lb, W1, ?_, ?_, ?_, ?_, fun _ => h1, ?_⟩
  · rw [← hW1, hrec]; exact run_enterLoop_outer _ _ _ _ _
  · simp only [resolve, hg]
    simp [go_sem]
  · intro f' hf'; simp [Target.leads] at hf'; subst hf'; exact hFg
  · simp [invoke, go_sem, eg]
  · refine (hseq (w.heap.size + 1)
      (fun pre W => I pre W ∧ W.heap[w.heap.size + 1]? = some (.loop (rec .ready none)) ∧ W.heap[w.heap.size]? = some (.deferred (some [])))
      (fun pre W => ∃ c, Ix c pre W ∧ W.heap[w.heap.size + 1]? = some (.loop (rec .done (some c))) ∧ W.heap[w.heap.size]? = some (.deferred (some [])))
      W1 hb1
      (fun s A B hs hr => ⟨hIR s A B hs.1 hr, hRb A B _ _ hr (by omega) rfl hs.2.1, hRb A B _ _ hr (Nat.le_refl _) rfl hs.2.2⟩)
      (fun s A B hs hr => by
        obtain ⟨c, hc, hl, hk⟩ := hs
        exact ⟨c, hIxR c s A B hc hr, hRb A B _ _ hr (by omega) rfl hl, hRb A B _ _ hr (Nat.le_refl _) rfl hk⟩)
      ?_ ⟨hI1, hL1, hK1⟩).mono ?_
    · -- one round
      rintro pre x W hlen ⟨hi, hl, hk⟩
      have hlt : w.heap.size + 1 < W.heap.size := (Array.getElem?_eq_some_iff.1 hl).1
      have hy := run_yield (P := P) (args := encs x) hl (by rw [hrec]; exact hps x)
      rw [hrec] at hy
      refine ⟨fn, _, assign, body, hy, roundIn_of_wpIn hfn (hassign _ pre x W _ hi hlen ?_)⟩
      clear hy
      intro a' Wa hkfa hkpa hia hax
      replace hl := hkfa.same _ _ (by omega) hl rfl
      replace hk := hkfa.same _ _ (Nat.le_refl _) hk rfl
      replace hlt : w.heap.size + 1 < Wa.heap.size := (Array.getElem?_eq_some_iff.1 hl).1
      replace hi := hia
      clear hia
      revert hkpa hkfa
      generalize W = Wb
      intro hkfa hkpa
      obtain ⟨W, rfl⟩ : ∃ W, W = Wa := ⟨_, rfl⟩
      refine ⟨_, run_beginRound hl (by rw [hrec]), ?_⟩
      have hl2 : (W.putObj (w.heap.size + 1) (.loop { rec .ready none with state := .busy })).heap[w.heap.size + 1]? = some (.loop { rec .ready none with state := .busy }) := World.putObj_heap_same hlt
      have hk2 : (W.putObj (w.heap.size + 1) (.loop { rec .ready none with state := .busy })).heap[w.heap.size]? = some (.deferred (some [])) := (World.putObj_heap_other (by omega)).trans hk
      have hw2 : Kp W (W.putObj (w.heap.size + 1) (.loop { rec .ready none with state := .busy })) := hKb _ _ _ _ (by omega) hl rfl rfl
      refine wpIn_mono (hbody _ pre x a' _ (hI.putObj _ hi (by omega) hl rfl) ((hAx x a').putObj (s := ()) _ hax (by omega) hl rfl) hlen) ?_
      have fin : ∀ (jump : Option Code) (W3 : World), KeepsFrom w.heap.size (W.putObj (w.heap.size + 1) (.loop { rec .ready none with state := .busy })) W3 →
          (Instr.endRound (w.heap.size + 1) jump).run P W3 = .ok (.bool jump.isNone) (W3.putObj (w.heap.size + 1) (.loop (rec (if jump.isNone then .ready else .done) jump))) ∧
          W3.heap[w.heap.size + 1]? = some (.loop { rec .ready none with state := .busy }) ∧
          (W3.putObj (w.heap.size + 1) (.loop (rec (if jump.isNone then .ready else .done) jump))).heap[w.heap.size + 1]? = some (.loop (rec (if jump.isNone then .ready else .done) jump)) ∧
          (W3.putObj (w.heap.size + 1) (.loop (rec (if jump.isNone then .ready else .done) jump))).heap[w.heap.size]? = some (.deferred (some [])) := fun jump W3 hk3 => by
        have hl3 := hk3.same _ _ (by omega) hl2 rfl
        have := run_endRound (P := P) jump hl3
        rw [hrec] at this ⊢
        exact ⟨this, by rw [hrec] at hl3; exact hl3, World.putObj_heap_same (Array.getElem?_eq_some_iff.1 hl3).1, (World.putObj_heap_other (by omega)).trans (hk3.same _ _ (Nat.le_refl _) hk2 rfl)⟩
      rintro e a3 W3 hp
      cases e with
      | normal =>
        obtain ⟨hk3, hkp3, hi3⟩ := hp
        obtain ⟨hr, hl3, hl4, hk4⟩ := fin none W3 hk3
        exact ⟨_, _, hr, .inl ⟨rfl, ⟨hI.putObj _ hi3 (by omega) hl3 rfl, hl4, hk4⟩, hKt hkpa (hKt (hKt hw2 hkp3) (hKb _ _ _ _ (by omega) hl3 rfl rfl))⟩⟩
      | ret =>
        obtain ⟨hk3, hi3⟩ := hp
        obtain ⟨hr, hl3, hl4, hk4⟩ := fin (some .ret) W3 hk3
        exact ⟨_, _, hr, .inr ⟨rfl, .ret, (hIx _).putObj _ hi3 (by omega) hl3 rfl, hl4, hk4⟩⟩
      | exit id =>
        obtain ⟨hk3, hi3⟩ := hp
        obtain ⟨hr, hl3, hl4, hk4⟩ := fin (some (.exit id)) W3 hk3
        exact ⟨_, _, hr, .inr ⟨rfl, .exit id, (hIx _).putObj _ hi3 (by omega) hl3 rfl, hl4, hk4⟩⟩
      | goto t =>
        obtain ⟨hk3, hi3⟩ := hp
        obtain ⟨hr, hl3, hl4, hk4⟩ := fin (some (.goto t)) W3 hk3
        exact ⟨_, _, hr, .inr ⟨rfl, .goto t, (hIx _).putObj _ hi3 (by omega) hl3 rfl, hl4, hk4⟩⟩
      | panic ch => exact hp.elim
      | outgrown => exact hp.elim
    · -- behind the iterator
      rintro e W2 ⟨⟨v, rfl⟩, (⟨hi, hl, hk⟩ | ⟨pre, hSp, c, hi, hl, hk⟩)⟩
      · exact ⟨none, _, by have := run_endLoop (P := P) hl (by rw [hrec]; simp); rw [hrec] at this; exact this, hdone _ _ (Nat.le_refl _) (hI.putObj _ hi (by omega) hl rfl) ((World.putObj_heap_other (by omega)).trans hk)⟩
      · exact ⟨some c, _, by have := run_endLoop (P := P) hl (by rw [hrec]; simp); rw [hrec] at this; exact this, hstop _ c pre _ (Nat.le_refl _) hSp ((hIx c).putObj _ hi (by omega) hl rfl) ((World.putObj_heap_other (by omega)).trans hk)⟩

/-- All cells stay: what a round may do. -/
structure KC (a b : World) : Prop where
  os : b.os = a.os
  tape : b.tape = a.tape
  output : b.output = a.output
  size : a.heap.size ≤ b.heap.size
  cells : ∀ (k : Nat) (o : Obj), a.heap[k]? = some o → o.isCells = true → b.heap[k]? = some o
/-- Blocks below n0, and what is no row of cells, stay: what an iterator may do between rounds. -/
structure RI (n0 : Nat) (a b : World) : Prop where
  below : Below n0 a b
  other : ∀ (k : Nat) (o : Obj), a.heap[k]? = some o → o.isCells = false → b.heap[k]? = some o
section
variable {a b c : World} {n0 : Nat}
theorem KC.refl (a : World) : KC a a := ⟨rfl, rfl, rfl, Nat.le_refl _, fun _ _ h _ => h⟩
theorem KC.trans (h : KC a b) (k : KC b c) : KC a c := ⟨k.os.trans h.os, k.tape.trans h.tape, k.output.trans h.output, Nat.le_trans h.size k.size, fun i o h1 h2 => k.cells i o (h.cells i o h1 h2) h2⟩
theorem KC.put {l : Nat} {o o' : Obj} (h : a.heap[l]? = some o) (ho : o.isCells = false) : KC a (a.putObj l o') :=
  ⟨rfl, rfl, rfl, by simp [World.putObj], fun k q h1 h2 => by
    have hne : k ≠ l := by
      rintro rfl
      rw [h] at h1
      cases h1
      rw [ho] at h2
      cases h2
    rw [World.putObj_heap_other hne]
    exact h1⟩
theorem KC.of_bel (h : Free.Bel a b) : KC a b := ⟨h.os, h.tape, h.output, h.size, fun k o h1 _ => (h.block k (lt_of_heap h1)).trans h1⟩
theorem KC.of_grown {r : Nat} {o : Obj} (h : a.grownBy b (some r)) (hr : a.heap[r]? = some o) (ho : o.isCells = false) : KC a b :=
  ⟨h.os, h.tape, h.output, h.size, fun k q h1 h2 => (h.block k (lt_of_heap h1) (fun e => by
    cases e
    rw [hr] at h1
    cases h1
    rw [ho] at h2
    cases h2)).trans h1⟩
theorem RI.refl (n0 : Nat) (a : World) : RI n0 a a := ⟨Below.refl _ _, fun _ _ h _ => h⟩
theorem RI.trans (h : RI n0 a b) (k : RI n0 b c) : RI n0 a c := ⟨h.below.trans k.below, fun i o h1 h2 => k.other i o (h.other i o h1 h2) h2⟩
theorem RI.of_bel (h : Free.Bel a b) (hn : n0 ≤ a.heap.size) : RI n0 a b := ⟨h.mono hn, fun k o h1 _ => (h.block k (lt_of_heap h1)).trans h1⟩
theorem RI.set {g o : Nat} {v : Value} {q : Obj} (hg : n0 ≤ g) (hq : a.heap[g]? = some q) (hc : q.isCells = true) : RI n0 a (a.setCell ⟨g, o, none⟩ v) :=
  ⟨(Below.refl _ a).setCell (by simpa using hg) v, fun k p h1 h2 => by
    have hne : k ≠ g := by
      rintro rfl
      rw [hq] at h1
      cases h1
      rw [hc] at h2
      cases h2
    exact (Below.heap_setCell _ _ _ _ (by simpa using hne)).trans h1⟩
end
end Go.Proofs.YtknpglgpkkhhiaaDoor.RR

/- A key is deleted from a map. No function of the program here. -/
namespace Go.Proofs.YtknpglgpkkhhiaaDoor.ML
set_option linter.unusedSimpArgs false
set_option linter.unusedVariables false
open Go.RowKit

variable {κ : Type} {P : Program} {kt : TypeId} {kv : κ → Value} {b : Nat} {l : List (κ × Value)} {w : World} [DecidableEq κ]
def assocDel (x : κ) (l : List (κ × Value)) : List (κ × Value) := match assocI x l 0 with | none => l | some y => l.eraseIdx y.1
theorem map_eraseIdx' {α β : Type} (f : α → β) : ∀ (l : List α) (i : Nat), (l.eraseIdx i).map f = (l.map f).eraseIdx i
  | [], _ => rfl
  | _ :: _, 0 => rfl
  | a :: r, i + 1 => by simp [map_eraseIdx' f r i]
theorem MapIs.delete (K : KeyL P kt kv) {t e ty : TypeId} (ht : P.underlying t = some (.map kt e)) (h : MapIs kv b l w) (x : κ) :
    ∃ w', (Builtin.delete_ #[t, kt] ty #[.map (some b), kv x]).run P w = .ok (.tuple #[]) w' ∧ w.grownBy w' (some b) ∧ MapIs kv b (assocDel x l) w' ∧ w'.heap.size = w.heap.size := by
  obtain ⟨es, c, h1, h2, h3, h4⟩ := h
  have hf := K.find x es.toList l w h2
  have hg := MapKept.run_getObj_map (P := P) h1
  have hlt := (Array.getElem?_eq_some_iff.1 h1).1
  unfold Builtin.delete_ assocDel
  cases ha : assocI x l 0 with
  | none =>
    refine ⟨put w b (.map es c), ?_, put_grown w b _, ⟨_, _, put_same hlt, h2, h3, h4⟩, by simp [put]⟩
    simp [run_underlying ht, hg, K.check, hf, ha, MapKept.run_setObj_map _ h1, put]
  | some y =>
    obtain ⟨j, u⟩ := y
    have hm : (es.eraseIdxIfInBounds j).toList = es.toList.eraseIdx j := by
      unfold Array.eraseIdxIfInBounds
      split
      · simp
      · rw [List.eraseIdx_of_length_le (by simpa using by omega)]
    refine ⟨put w b (.map (es.eraseIdxIfInBounds j) c), ?_, put_grown w b _, ⟨_, _, put_same hlt, ?_, ?_, ?_⟩, by simp [put]⟩
    · simp [run_underlying ht, hg, K.check, hf, ha, MapKept.run_setObj_map _ h1, put]
    · rw [hm, map_eraseIdx', map_eraseIdx', h2]
    · rw [hm, map_eraseIdx']
      exact h3.sublist (List.eraseIdx_sublist _ _)
    · rw [hm]
      exact fun e he => h4 e ((List.eraseIdx_sublist _ _).subset he)
end Go.Proofs.YtknpglgpkkhhiaaDoor.ML

/- What is found behind a deletion; keys without doubles. -/
namespace Go.Proofs.YtknpglgpkkhhiaaDoor.ML
set_option linter.unusedSimpArgs false
set_option linter.unusedVariables false
variable {κ : Type} [DecidableEq κ]

def delR (x : κ) : List (κ × Value) → List (κ × Value)
  | [] => []
  | y :: r => if x = y.1 then r else y :: delR x r
theorem delR_from (x : κ) : ∀ (l : List (κ × Value)) (i : Nat), (match assocI x l i with | none => l | some y => l.eraseIdx (y.1 - i)) = delR x l
  | [], i => rfl
  | y :: r, i => by
    by_cases h : x = y.1
    · simp [assocI, delR, h]
    · have ih := delR_from x r (i + 1)
      simp only [assocI, delR, if_neg h]
      cases ha : assocI x r (i + 1) with
      | none => rw [ha] at ih; simp only at ih ⊢; rw [← ih]
      | some z =>
        obtain ⟨j, v⟩ := z
        rw [ha] at ih
        have hj := (assocI_spec x r (i + 1) j v ha).1
        simp only at ih ⊢
        rw [← ih, show j - i = (j - (i + 1)) + 1 by omega]
        rfl
theorem assocDel_eq (x : κ) (l : List (κ × Value)) : assocDel x l = delR x l := by
  have := delR_from x l 0
  unfold assocDel
  cases ha : assocI x l 0 with
  | none => rw [ha] at this; exact this
  | some y => rw [ha] at this; simpa using this
theorem assoc_none {x : κ} : ∀ {l : List (κ × Value)}, x ∉ l.map (·.1) → assoc x l = none
  | [], _ => rfl
  | y :: r, h => by
    simp only [List.map_cons, List.mem_cons, not_or] at h
    rw [assoc, if_neg h.1]
    exact assoc_none h.2
theorem assoc_del_other (x z : κ) (hz : z ≠ x) : ∀ l : List (κ × Value), assoc z (delR x l) = assoc z l
  | [] => rfl
  | y :: r => by
    by_cases h : x = y.1
    · simp [delR, assoc, h, show z ≠ y.1 from fun e => hz (e.trans h.symm)]
    · by_cases h2 : z = y.1
      · simp [delR, assoc, h, h2]
      · simp [delR, assoc, h, h2, assoc_del_other x z hz r]
theorem assoc_del_same (x : κ) : ∀ l : List (κ × Value), (l.map (·.1)).Nodup → assoc x (delR x l) = none
  | [], _ => rfl
  | y :: r, h => by
    simp only [List.map_cons, List.nodup_cons] at h
    by_cases e : x = y.1
    · simp only [delR, if_pos e]
      exact assoc_none (by rw [e]; exact h.1)
    · simp [delR, assoc, e, assoc_del_same x r h.2]
theorem delR_keys (x : κ) : ∀ l : List (κ × Value), ((delR x l).map (·.1)).Sublist (l.map (·.1))
  | [] => List.Sublist.refl _
  | y :: r => by
    by_cases e : x = y.1
    · simp only [delR, if_pos e, List.map_cons]; exact List.sublist_cons_self _ _
    · simp only [delR, if_neg e, List.map_cons]; exact (delR_keys x r).cons_cons _
theorem delR_nodup (x : κ) {l : List (κ × Value)} (h : (l.map (·.1)).Nodup) : ((delR x l).map (·.1)).Nodup := h.sublist (delR_keys x l)
end Go.Proofs.YtknpglgpkkhhiaaDoor.ML

/- Maps whose keys are arrays of four numbers; ranges over a map that stays as it is. No function of the program here. -/
namespace Go.Proofs.YtknpglgpkkhhiaaDoor.ML
open Go
set_option linter.unusedSimpArgs false
set_option linter.unusedVariables false

abbrev Q4 := Int × Int × Int × Int
def quadV (x : Q4) : Value := .agg #[.int .i64 x.1, .int .i64 x.2.1, .int .i64 x.2.2.1, .int .i64 x.2.2.2]
section
variable {P : Program} {kt e : TypeId}
theorem eqIn_quad (hu : P.underlying kt = some (.array 4 e)) (he : P.underlying e = some (.int .i64)) (hc : P.cellsOf e = 1) (n : Nat) (x y : Q4) (w : World) :
    (Op.equalIn (n + 2) kt (quadV x) (quadV y)).run P w = .ok (decide (x = y)) w := by
  obtain ⟨a, b, a3, a4⟩ := x
  obtain ⟨c, d, c3, c4⟩ := y
  obtain ⟨i, hi⟩ := info_of_underlying he
  have pk : P.plainKey e = true := by simp [Program.plainKey, he]
  unfold quadV
  rw [Op.equalIn]
  have p0 (x y z u : Int) : (part e #[.int .i64 x, .int .i64 y, .int .i64 z, .int .i64 u] 0).run P w = .ok (.int .i64 x) w := run_part_plain w pk rfl
  have p1 (x y z u : Int) : (part e #[.int .i64 x, .int .i64 y, .int .i64 z, .int .i64 u] 1).run P w = .ok (.int .i64 y) w := run_part_plain w pk rfl
  have p2 (x y z u : Int) : (part e #[.int .i64 x, .int .i64 y, .int .i64 z, .int .i64 u] 2).run P w = .ok (.int .i64 z) w := run_part_plain w pk rfl
  have p3 (x y z u : Int) : (part e #[.int .i64 x, .int .i64 y, .int .i64 z, .int .i64 u] 3).run P w = .ok (.int .i64 u) w := run_part_plain w pk rfl
  simp [run_underlying hu, run_sizeOf w hi, hc]
  rw [show List.range' 0 4 = [0, 1, 2, 3] from rfl]
  by_cases h1 : a = c <;> by_cases h2 : b = d <;> by_cases h3 : a3 = c3 <;> by_cases h4 : a4 = c4 <;> simp [List.forIn_cons, p0, p1, p2, p3, run_equalIn_int _ _ _ _ _ _ _ he, h1, h2, h3, h4]
theorem check_quad (hu : P.underlying kt = some (.array 4 e)) (he : P.underlying e = some (.int .i64)) (hc : P.cellsOf e = 1) (q : Bool) (n : Nat) (x : Q4) (w : World) :
    (Instr.checkKey q (n + 2) kt (quadV x)).run P w = .ok () w := by
  obtain ⟨a, b, c, d⟩ := x
  obtain ⟨i, hi⟩ := info_of_underlying he
  have pk : P.plainKey e = true := by simp [Program.plainKey, he]
  unfold quadV
  rw [Instr.checkKey]
  have p0 (x y z u : Int) : (part e #[.int .i64 x, .int .i64 y, .int .i64 z, .int .i64 u] 0).run P w = .ok (.int .i64 x) w := run_part_plain w pk rfl
  have p1 (x y z u : Int) : (part e #[.int .i64 x, .int .i64 y, .int .i64 z, .int .i64 u] 1).run P w = .ok (.int .i64 y) w := run_part_plain w pk rfl
  have p2 (x y z u : Int) : (part e #[.int .i64 x, .int .i64 y, .int .i64 z, .int .i64 u] 2).run P w = .ok (.int .i64 z) w := run_part_plain w pk rfl
  have p3 (x y z u : Int) : (part e #[.int .i64 x, .int .i64 y, .int .i64 z, .int .i64 u] 3).run P w = .ok (.int .i64 u) w := run_part_plain w pk rfl
  simp [run_underlying hu]
  rw [show List.range' 0 4 = [0, 1, 2, 3] from rfl]
  have hq (x : Int) : (Instr.checkKey q (n + 1) e (.int .i64 x)).run P w = .ok () w := by
    rw [Instr.checkKey]; simp [run_underlying he]
  simp [List.forIn_cons, run_sizeOf w hi, hc, p0, p1, p2, p3, hq]
theorem quad_keys (hu : P.underlying kt = some (.array 4 e)) (he : P.underlying e = some (.int .i64)) (hc : P.cellsOf e = 1) : KeyL P kt quadV where
  check q x w := check_quad hu he hc q 9998 x w
  find x es l w h := by
    unfold Instr.findKey
    cases es with
    | nil => cases l with
      | nil => simp [run_underlying hu, Instr.findNow, assocI]
      | cons y l => cases h
    | cons e0 es =>
      simp [run_underlying hu, Instr.findNow, Instr.sameNow]
      exact findAsking_of (fun x y w => eqIn_quad hu he hc 9998 x y w) x w _ l 0 h
  stays x w := by
    unfold Instr.keyThatStays
    have : Instr.sameBits 10000 (quadV x) (quadV x) = true := by
      show Instr.sameBits (9999 + 1) (quadV x) (quadV x) = true
      simp [quadV, Instr.sameBits]
    simp [this]
end

/-! ### Sets -/
def setK {κ : Type} (L : List κ) : List (κ × Value) := L.map fun x => (x, .bool true)
section
variable {κ : Type} [DecidableEq κ]
theorem assoc_setK (x : κ) : ∀ L : List κ, assoc x (setK L) = if x ∈ L then some (.bool true) else none
  | [] => by simp [setK, assoc]
  | y :: r => by
    have ih := assoc_setK x r
    unfold setK at ih ⊢
    simp only [List.map_cons, assoc, ih, List.mem_cons]
    by_cases h : x = y
    · simp [h]
    · simp [h]
theorem setK_has (x : κ) (L : List κ) : (assoc x (setK L)).getD (.bool false) = .bool (decide (x ∈ L)) := by
  rw [assoc_setK]
  by_cases h : x ∈ L <;> simp [h]
def addK (x : κ) (L : List κ) : List κ := if x ∈ L then L else L ++ [x]
theorem mem_addK {x y : κ} {L : List κ} : y ∈ addK x L ↔ y = x ∨ y ∈ L := by
  unfold addK
  split
  · rename_i h
    exact ⟨.inr, fun e => e.elim (fun e => e ▸ h) id⟩
  · simp [or_comm]
theorem nodup_addK {x : κ} {L : List κ} (h : L.Nodup) : (addK x L).Nodup := by
  unfold addK
  split
  · exact h
  · rename_i hx
    exact List.nodup_append.2 ⟨h, by simp, fun a ha b hb => by simp at hb; subst hb; exact fun e => hx (e ▸ ha)⟩
theorem set_setK (x : κ) : ∀ L : List κ, assocSet x (.bool true) (setK L) = setK (addK x L)
  | [] => by simp [setK, assocSet, addK]
  | y :: r => by
    have ih := set_setK x r
    unfold setK addK at *
    simp only [List.map_cons, assocSet]
    by_cases h : x = y
    · simp [h]
    · simp only [h, if_false, ih, List.mem_cons, false_or]
      split <;> simp
end

/-! ### Ranges -/
/-- Block b is a map of these, block r an iterator over it that has handed out those keys. -/
def IterIs {κ : Type} (kv : κ → Value) (b : Nat) (l : List (κ × Value)) (r : Nat) (done : List κ) (w : World) : Prop :=
  ∃ es clock since seen c0, w.heap[b]? = some (.map es clock) ∧ es.toList.map (fun e => (e.key, e.val)) = l.map (fun y => (kv y.1, y.2)) ∧
    (es.toList.map (·.born)).Pairwise (· < ·) ∧ (∀ e ∈ es.toList, e.born < clock) ∧ (∀ e ∈ es.toList, e.born < since) ∧ (since ≤ c0 ∧ since ≤ clock) ∧ w.heap[r]? = some (.mapIter (some b) since seen c0) ∧
    ∀ (j : Nat) (e : MapEntry) (y : κ × Value), es.toList[j]? = some e → l[j]? = some y → (seen.contains e.born = true ↔ y.1 ∈ done)
section
variable {κ : Type} {P : Program} {kv : κ → Value} {b r : Nat} {l : List (κ × Value)} {done : List κ} {w w' : World}
theorem IterIs.map (h : IterIs kv b l r done w) : MapIs kv b l w := by
  obtain ⟨es, clock, since, seen, c0, h1, h2, h3, h4, h5, h6, h7, h8⟩ := h
  exact ⟨es, clock, h1, h2, h3, h4⟩
theorem IterIs.of_blocks (h : IterIs kv b l r done w) (hb : w'.heap[b]? = w.heap[b]?) (hr : w'.heap[r]? = w.heap[r]?) : IterIs kv b l r done w' := by
  obtain ⟨es, clock, since, seen, c0, h1, h2, h3, h4, h5, h6, h7, h8⟩ := h
  exact ⟨es, clock, since, seen, c0, hb.trans h1, h2, h3, h4, h5, h6, hr.trans h7, h8⟩
theorem IterIs.lt (h : IterIs kv b l r done w) : b < w.heap.size ∧ r < w.heap.size := by
  obtain ⟨es, clock, since, seen, c0, h1, h2, h3, h4, h5, h6, h7, h8⟩ := h
  exact ⟨(Array.getElem?_eq_some_iff.1 h1).1, (Array.getElem?_eq_some_iff.1 h7).1⟩
/-- 'range m'. -/
theorem MapIs.range {t k e : TypeId} (ht : P.underlying t = some (.map k e)) (h : MapIs kv b l w) :
    ∃ o, (Instr.range t (.map (some b))).run P w = .ok (.pointer (some ⟨w.heap.size, 0, none⟩)) (w.alloc o) ∧ IterIs kv b l w.heap.size [] (w.alloc o) := by
  obtain ⟨es, clock, h1, h2, h3, h4⟩ := h
  refine ⟨.mapIter (some b) clock #[] clock, run_range_map w t k e b es clock ht h1, es, clock, clock, #[], clock, ?_, h2, h3, h4, h4, ⟨Nat.le_refl _, Nat.le_refl _⟩, heap_alloc_new w _, fun j e y _ _ => by simp⟩
  rw [heap_alloc_old w _ (Array.getElem?_eq_some_iff.1 h1).1]
  exact h1
/-- 'next', and what stands there then. -/
theorem IterIs.next (h : IterIs kv b l r done w) (hnd : (l.map (·.1)).Nodup) (ty : TypeId) :
    ((∀ y ∈ l, y.1 ∈ done) ∧ (Instr.next (.pointer (some ⟨r, 0, none⟩)) false ty).run P w = .ok (.tuple #[.bool false]) w) ∨
    ∃ x v, (x, v) ∈ l ∧ x ∉ done ∧ ∃ w', (Instr.next (.pointer (some ⟨r, 0, none⟩)) false ty).run P w = .ok (.tuple #[.bool true, kv x, v]) w' ∧ IterIs kv b l r (x :: done) w' ∧
      (Instr.entry (.pointer (some ⟨r, 0, none⟩))).run P w' = .ok (.tuple #[kv x, v]) w' ∧ w.grownBy w' (some r) ∧ w'.heap.size = w.heap.size := by
  obtain ⟨es, clock, since, seen, c0, h1, h2, h3, h4, h5, h6, h7, h8⟩ := h
  have hlen : es.toList.length = l.length := by simpa using congrArg List.length h2
  have hbr : b ≠ r := by
    rintro rfl
    rw [h1] at h7
    cases h7
  have hnb : (es.toList.map (·.born)).Nodup := h3.imp fun h => Nat.ne_of_lt h
  rcases run_next_at (P := P) w ty r b since c0 seen es clock h7 h1 h5 h6.1 with ⟨h0, hrun⟩ | ⟨e, he, w1, hw1, hrun⟩
  · refine .inl ⟨fun y hy => ?_, hrun⟩
    obtain ⟨j, hj, hjy⟩ := List.mem_iff_getElem.1 hy
    have hj2 : j < es.toList.length := by omega
    refine (h8 j es.toList[j] y (List.getElem?_eq_getElem hj2) (by rw [List.getElem?_eq_getElem hj, hjy])).1 ?_
    cases hc : seen.contains es.toList[j].born with
    | true => rfl
    | false =>
      have hm : es.toList[j] ∈ leftOf es seen := by
        unfold leftOf
        rw [Array.mem_filter]
        exact ⟨by simp, by rw [hc]; rfl⟩
      have : 0 < (leftOf es seen).size := Array.size_pos_of_mem hm
      omega
  · have he' : e ∈ leftOf es seen := by simpa using he
    unfold leftOf at he'
    rw [Array.mem_filter] at he'
    obtain ⟨hee, hes⟩ := he'
    have hel : e ∈ es.toList := by simpa using hee
    obtain ⟨j, hj, hje⟩ := List.mem_iff_getElem.1 hel
    have hj2 : j < l.length := by omega
    have hkv : (e.key, e.val) = (kv l[j].1, l[j].2) := by
      have := congrArg (fun z => z[j]?) h2
      simp only [List.getElem?_map, List.getElem?_eq_getElem hj, List.getElem?_eq_getElem hj2, Option.map_some, Option.some.injEq, hje] at this
      exact this
    simp only [Prod.mk.injEq] at hkv
    have hejs : es.toList[j]? = some e := by rw [List.getElem?_eq_getElem hj, hje]
    have hljs : l[j]? = some l[j] := List.getElem?_eq_getElem hj2
    have hw1h : w1.heap = w.heap := by rcases hw1 with rfl | rfl <;> rfl
    have hrlt : r < w1.heap.size := by rw [hw1h]; exact (Array.getElem?_eq_some_iff.1 h7).1
    have hR : (ChangeMaps.setBlock w1 r (.mapIter (some b) since (seen.push e.born) clock)).heap[r]? = some (.mapIter (some b) since (seen.push e.born) clock) := by simp [ChangeMaps.setBlock, hrlt]
    have hO : ∀ k, k ≠ r → (ChangeMaps.setBlock w1 r (.mapIter (some b) since (seen.push e.born) clock)).heap[k]? = w.heap[k]? := fun k hk => by
      have : r ≠ k := fun e => hk e.symm
      simp [ChangeMaps.setBlock, this, hw1h]
    have hB := (hO b hbr).trans h1
    refine .inr ⟨l[j].1, l[j].2, List.getElem_mem hj2, fun hd => ?_, _, by rw [hrun, hkv.1, hkv.2], ⟨es, clock, since, seen.push e.born, clock, hB, h2, h3, h4, h5, ?_, hR, fun i e2 y2 hi hy => ?_⟩, ?_, ⟨?_, ?_, ?_, ?_, fun k hk hn => hO k fun e => hn (by rw [e])⟩, ?_⟩
    · have := (h8 j e l[j] hejs hljs).2 hd
      rw [this] at hes
      cases hes
    · exact ⟨h6.2, h6.2⟩
    · have key : e2.born = e.born ↔ y2.1 = l[j].1 := by
        constructor
        · intro hb2
          have hij : i = j := by
            have hil := (List.getElem?_eq_some_iff.1 hi)
            obtain ⟨hil1, hil2⟩ := hil
            rw [List.nodup_iff_pairwise_ne, List.pairwise_iff_getElem] at hnb
            rcases Nat.lt_trichotomy i j with h9 | h9 | h9
            · exact (hnb i j (by simpa using hil1) (by simpa using hj) h9 (by simp [hil2, hje, hb2])).elim
            · exact h9
            · exact (hnb j i (by simpa using hj) (by simpa using hil1) h9 (by simp [hil2, hje, hb2])).elim
          subst hij
          rw [hljs] at hy
          cases hy
          rfl
        · intro hb2
          have hij : i = j := by
            obtain ⟨hil1, hil2⟩ := List.getElem?_eq_some_iff.1 hy
            rw [List.nodup_iff_pairwise_ne, List.pairwise_iff_getElem] at hnd
            rcases Nat.lt_trichotomy i j with h9 | h9 | h9
            · exact (hnd i j (by simpa using hil1) (by simpa using hj2) h9 (by simp [hil2, hb2])).elim
            · exact h9
            · exact (hnd j i (by simpa using hj2) (by simpa using hil1) h9 (by simp [hil2, hb2])).elim
          subst hij
          rw [hejs] at hi
          cases hi
          rfl
      have h9 := h8 i e2 y2 hi hy
      rw [Array.contains_push, Bool.or_eq_true, beq_iff_eq, List.mem_cons, h9, key, or_comm]
    · have := run_entry_at (P := P) _ r b since seen es clock e hR hB hel hnb
      rw [hkv.1, hkv.2] at this
      exact this
    · rcases hw1 with rfl | rfl <;> rfl
    · rcases hw1 with rfl | rfl <;> rfl
    · rcases hw1 with rfl | rfl <;> rfl
    · simp [ChangeMaps.setBlock, hw1h]
    · simp [ChangeMaps.setBlock, hw1h]
end
end Go.Proofs.YtknpglgpkkhhiaaDoor.ML

/- slices.IndexFunc, slices.ContainsFunc at ricks. -/
namespace Go.Proofs.YtknpglgpkkhhiaaDoor
set_option linter.unusedSimpArgs false
set_option linter.unusedVariables false
open Go.RowKit
abbrev encR (x : Int × Int × Int) : Value := .agg #[.int .i64 x.1, .int .i64 x.2.1, .int .i64 x.2.2]
def idxR (p : Int × Int × Int → Bool) (xs : List (Int × Int × Int)) : Int := match xs.findIdx? p with | some i => (i : Int) | none => -1

set_option maxRecDepth 100000 in
set_option maxHeartbeats 2000000 in
theorem indexFuncR_any (g : Nat) (caps : Array Value) (p : Int × Int × Int → Bool) (xs : List (Int × Int × Int)) (u : Value) (w : World) (hu : RL xs u w)
    (hg : Asks g caps encR p w) :
    Calls Tryd.prog 105 #[u, .func (.func g) #[] caps] w
      fun e w' => e = .returned (.int .i64 (idxR p xs)) ∧ Below w.heap.size w w' := by
  obtain ⟨p0, cp, rfl, hm, hc⟩ := hu
  unfold maxLen at hm
  have HG := Lib.hid hg
  have HC := Lib.hid hc
  clear hg hc
  go_enter Tryd.func105, Tryd.ntmps105
  go_wp2
  go_loopw [8] (fun i wr => ∃ k : Nat, k ≤ xs.length ∧ i = .int .i64 k ∧ (∀ x ∈ xs.take k, p x = false) ∧ Below w.heap.size w wr) (fun i _ => xs.length - (intOf i).toNat)
  case atStart => exact ⟨0, Nat.zero_le _, rfl, by simp, Below.refl _ _⟩
  case round =>
    obtain ⟨k, hk, rfl, hno, hB⟩ := hrel
    by_cases hlt : k < xs.length
    · have hx : xs ≠ [] := by intro e; simp [e] at hlt
      obtain ⟨b, off, rfl, hcp⟩ := HC.out hx
      obtain ⟨d1, d2, d3⟩ := hcp k hlt
      have e1 := keepsB hB d1
      have e2 := keepsB hB d2
      have e3 := keepsB hB d3
      have hklt : (k : Int) < xs.length := by omega
      have hent := HG.out.1
      have hcall := Lib.hid (HG.out.2 wr xs[k] hB)
      have hget : Hid (xs[k]? = some xs[k]) := List.getElem?_eq_getElem hlt
      clear d1 d2 d3 hcp hx
      generalize xs[k] = x at *
      obtain ⟨x1, x2, x3⟩ := x
      have HNO := Lib.hid hno
      clear hno
      cases hp : p (x1, x2, x3)
      · have hp' := Lib.hid hp
        rw [hp] at hcall
        clear hp
        go_wp2_with fail
        refine hcall.out.mono ?_
        rintro e W1 ⟨rfl, hB1⟩
        have hB2 := hB.trans (hB1.mono hB.size)
        go_wp2_with fail
        go_roundw
        case rel =>
          refine ⟨k + 1, by omega, by go_num, ?_, hB2⟩
          rw [List.take_add_one, hget.out]
          intro y hy
          simp at hy
          rcases hy with hy | rfl
          · exact HNO.out y hy
          · exact hp'.out
        case measure => simp [intOf]; omega
      · have hp' := Lib.hid hp
        rw [hp] at hcall
        clear hp
        go_wp2_with fail
        refine hcall.out.mono ?_
        rintro e W1 ⟨rfl, hB1⟩
        have hB2 := hB.trans (hB1.mono hB.size)
        go_wp2_with fail
        go_ret
        refine ⟨?_, hB2⟩
        have : xs.findIdx? p = some k := by
          rw [List.findIdx?_eq_some_iff_getElem]
          refine ⟨hlt, ?_, ?_⟩
          · have := hget.out; rw [List.getElem?_eq_getElem hlt] at this; rw [Option.some.inj this]; exact hp'.out
          · intro j hj
            have := HNO.out xs[j] (by rw [List.mem_take_iff_getElem]; exact ⟨j, by omega, rfl⟩)
            simp [this]
        simp [idxR, this]
    · obtain rfl : k = xs.length := by omega
      go_wp2_with fail
      go_ret
      refine ⟨?_, hB⟩
      have : xs.findIdx? p = none := by
        rw [List.findIdx?_eq_none_iff]
        simpa using hno
      simp [idxR, this]

theorem containsFuncR_any (g : Nat) (caps : Array Value) (p : Int × Int × Int → Bool) (xs : List (Int × Int × Int)) (u : Value) (w : World) (hu : RL xs u w)
    (hg : Asks g caps encR p w) :
    Calls Tryd.prog 138 #[u, .func (.func g) #[] caps] w
      fun e w' => e = .returned (.bool (xs.any p)) ∧ Below w.heap.size w w' := by
  have H := Lib.hid (indexFuncR_any g caps p xs u w hu hg)
  have hv : xs.any p = decide (0 ≤ idxR p xs) := by
    unfold idxR
    cases h : xs.findIdx? p with
    | none =>
      rw [List.findIdx?_eq_none_iff] at h
      simp
      intro a c d hx
      exact h _ hx
    | some i =>
      rw [List.findIdx?_eq_some_iff_getElem] at h
      obtain ⟨hi, hp, _⟩ := h
      simp
      exact ⟨xs[i].1, xs[i].2.1, xs[i].2.2, List.getElem_mem hi, hp⟩
  rw [hv]
  generalize idxR p xs = v at *
  obtain ⟨p0, cp, rfl, _, _⟩ := hu
  clear hg hv
  go_enter Tryd.func138, Tryd.ntmps138
  go_wp2_with fail
  refine H.out.mono ?_
  rintro e W1 ⟨rfl, hB1⟩
  go_wp2_with fail
  go_ret
  exact ⟨rfl, hB1⟩

end Go.Proofs.YtknpglgpkkhhiaaDoor

/- The place of a rick. -/
namespace Go.Proofs.YtknpglgpkkhhiaaDoor
set_option linter.unusedSimpArgs false
set_option linter.unusedVariables false
open Go.RowKit

/-- r is the place of the first with the number; -1: there is none. -/
def RickIs (xs : List (Int × Int × Int)) (id r : Int) : Prop := (r = -1 ∧ ∀ x ∈ xs, x.1 ≠ id) ∨ (∃ k : Nat, ∃ h : k < xs.length, r = k ∧ xs[k].1 = id ∧ ∀ j (hj : j < k), (xs[j]'(Nat.lt_trans hj h)).1 ≠ id)
theorem RickIs.unique {xs : List (Int × Int × Int)} {id r r' : Int} (h : RickIs xs id r) (h' : RickIs xs id r') : r = r' := by
  rcases h with ⟨rfl, h⟩ | ⟨k, hk, rfl, h1, h2⟩
  · rcases h' with ⟨rfl, _⟩ | ⟨k, hk, rfl, h1, _⟩
    · rfl
    · exact absurd h1 (h _ (List.getElem_mem hk))
  · rcases h' with ⟨rfl, h⟩ | ⟨k', hk', rfl, h1', h2'⟩
    · exact absurd h1 (h _ (List.getElem_mem hk))
    · rcases Nat.lt_trichotomy k k' with h | h | h
      · exact absurd h1 (h2' k h)
      · rw [h]
      · exact absurd h1' (h2 k' h)
set_option maxRecDepth 100000 in
set_option maxHeartbeats 2000000 in
theorem rickR_any (h id : Int) (xs : List (Int × Int × Int)) (u : Value) (w : World) (hu : RL xs u w) :
    Calls Tryd.prog 88 #[.agg #[.int .i64 h, u], .int .i64 id] w fun e w' => (∃ r : Int, e = .returned (.int .i64 r) ∧ RickIs xs id r) ∧ Below w.heap.size w w' := by
  obtain ⟨p, cp, rfl, hm, hp⟩ := hu
  unfold maxLen at hm
  have HP := Lib.hid hp
  clear hp
  have hB0 : Below w.heap.size w (w.alloc (.cells #[.int .i64 h, .slice p xs.length cp] 24)) := (Below.refl _ w).alloc (Nat.le_refl _) _
  have n0 : (w.alloc (.cells #[.int .i64 h, .slice p xs.length cp] 24)).cell? ⟨w.heap.size, 1, none⟩ = some (.slice p xs.length cp) := by simp [go_sem]
  have FA : ∀ W, Free.Bel (w.alloc (.cells #[.int .i64 h, .slice p xs.length cp] 24)) W → W.cell? ⟨w.heap.size, 1, none⟩ = some (.slice p xs.length cp) := fun W hW => keepsB hW n0
  clear n0
  go_enter Tryd.func88, Tryd.ntmps88
  go_wp2_with fail
  generalize w.alloc (.cells #[.int .i64 h, .slice p xs.length cp] 24) = w1 at *
  go_loopw [5] (fun i wr => ∃ k : Nat, k ≤ xs.length ∧ i = .int .i64 k ∧ Hid (∀ j (hj : j < xs.length), j < k → xs[j].1 ≠ id) ∧ Free.Bel w1 wr) (fun i _ => xs.length - (intOf i).toNat)
  case atStart => exact ⟨0, Nat.zero_le _, rfl, fun j _ hj => by omega, Free.Bel.refl _⟩
  case round =>
    obtain ⟨k, hk, rfl, hno, hB⟩ := hrel
    have hww : Below w.heap.size w wr := hB0.trans (hB.mono hB0.size)
    by_cases hlt : k < xs.length
    · have hx : xs ≠ [] := by intro e; simp [e] at hlt
      obtain ⟨b, off, rfl, hcp⟩ := HP.out hx
      have e1 := keepsB hww (hcp k hlt).1
      have hklt : (k : Int) < xs.length := by omega
      clear hcp hx
      by_cases he : xs[k].1 = id
      · have HE := Lib.hid he
        have k1 : (xs[k].1 == id) = true := by simp [he]
        clear he
        generalize xs[k].1 = x at e1 k1
        go_wp2_with fail
        go_ret
        exact ⟨⟨_, rfl, .inr ⟨k, hlt, rfl, HE.out, fun j hj => hno.out j (by omega) hj⟩⟩, hww⟩
      · have HE := Lib.hid he
        have k1 : (xs[k].1 == id) = false := by simp [he]
        clear he
        generalize xs[k].1 = x at e1 k1
        go_wp2_with fail
        go_roundw
        case rel => exact ⟨k + 1, by omega, by go_num, fun j hj hjk => by
          rcases Nat.lt_or_ge j k with h9 | h9
          · exact hno.out j hj h9
          · obtain rfl : j = k := by omega
            exact HE.out, hB⟩
        case measure => simp [intOf]; omega
    · obtain rfl : k = xs.length := by omega
      go_wp2_with fail
      go_ret
      exact ⟨⟨_, rfl, .inl ⟨rfl, fun x hx => by
        obtain ⟨j, hj, rfl⟩ := List.mem_iff_getElem.1 hx
        exact hno.out j hj hj⟩⟩, hww⟩
theorem RickIs.some (xs : List (Int × Int × Int)) (id : Int) : ∃ r, RickIs xs id r := by
  cases hf : xs.findIdx? (fun x => x.1 == id) with
  | none =>
    rw [List.findIdx?_eq_none_iff] at hf
    exact ⟨-1, .inl ⟨rfl, fun x hx => by simpa using hf x hx⟩⟩
  | some k =>
    rw [List.findIdx?_eq_some_iff_getElem] at hf
    obtain ⟨h1, h2, h3⟩ := hf
    exact ⟨k, .inr ⟨k, h1, rfl, by simpa using h2, fun j hj => by simpa using h3 j hj⟩⟩
theorem rickR_v (h id : Int) (xs : List (Int × Int × Int)) (u : Value) (w : World) (hu : RL xs u w) (r : Int) (hr : Hid (RickIs xs id r)) :
    Calls Tryd.prog 88 #[.agg #[.int .i64 h, u], .int .i64 id] w fun e w' => e = .returned (.int .i64 r) ∧ Below w.heap.size w w' :=
  (rickR_any h id xs u w hu).mono fun e w' ⟨⟨r', h1, h2⟩, hB⟩ => ⟨by rw [h1, h2.unique hr.out], hB⟩
end Go.Proofs.YtknpglgpkkhhiaaDoor

/- The program's Check of a watch; the place of a rick. -/
namespace Go.Proofs.YtknpglgpkkhhiaaDoor
set_option linter.unusedSimpArgs false
set_option linter.unusedVariables false
open Go.RowKit

def timeB (x : Int × Int × Int) : Bool := inB 1 6 [x.2.1] && inB 0 (x.2.1 - 1) [x.2.2]
def idsB (last : Int) : List (Int × Int × Int) → Bool
  | [] => true
  | x :: r => inB (last + 1) 9999 [x.1] && idsB x.1 r
theorem risesB_parts : ∀ (last : Int) (xs : List (Int × Int × Int)), risesB last xs = (idsB last xs && xs.all timeB)
  | _, [] => rfl
  | last, x :: r => by
    simp only [risesB, idsB, List.all_cons, timeB, risesB_parts x.1 r]
    cases inB (last + 1) 9999 [x.1] <;> cases inB 1 6 [x.2.1] <;> cases inB 0 (x.2.1 - 1) [x.2.2] <;> cases idsB x.1 r <;> simp

set_option maxRecDepth 100000 in
set_option maxHeartbeats 2000000 in
theorem index1_any (x1 x2 x3 id : Int) (ab : Nat) (w : World) (h : w.cell? ⟨ab, 0, none⟩ = some (.int .i64 id)) :
    Calls Tryd.prog 106 #[.agg #[.int .i64 x1, .int .i64 x2, .int .i64 x3], .pointer (some ⟨ab, 0, none⟩)] w fun e w' => e = .returned (.bool (x1 == id)) ∧ Below w.heap.size w w' := by
  have KA : Free.Bel w (w.alloc (.cells #[.int .i64 x1, .int .i64 x2, .int .i64 x3] 47)) := belAlloc _ _
  have h1 := keepsB KA h
  go_enter Tryd.func106, Tryd.ntmps106
  go_wp2_with fail
  go_ret
  exact ⟨by simp, KA⟩

theorem idxR_is (xs : List (Int × Int × Int)) (id : Int) : RickIs xs id (idxR (fun x => x.1 == id) xs) := by
  unfold idxR
  cases hf : xs.findIdx? (fun x => x.1 == id) with
  | none =>
    rw [List.findIdx?_eq_none_iff] at hf
    exact .inl ⟨rfl, fun x hx => by simpa using hf x hx⟩
  | some k =>
    rw [List.findIdx?_eq_some_iff_getElem] at hf
    obtain ⟨h1, h2, h3⟩ := hf
    exact .inr ⟨k, h1, rfl, by simpa using h2, fun j hj => by simpa using h3 j hj⟩

set_option maxRecDepth 100000 in
set_option maxHeartbeats 2000000 in
theorem indexP_v (h id : Int) (xs : List (Int × Int × Int)) (u : Value) (w : World) (hu : RL xs u w) (r : Int) (hr : Hid (RickIs xs id r)) :
    Calls Tryd.prog 86 #[.agg #[.int .i64 h, u], .int .i64 id] w fun e w' => e = .returned (.int .i64 r) ∧ Below w.heap.size w w' := by
  have hu' := hu
  obtain ⟨p, cp, rfl, _, _⟩ := hu'
  have hB : Below w.heap.size w ((w.alloc (.cells #[.int .i64 h, .slice p xs.length cp] 24)).alloc (.cells #[.int .i64 id] 3)) := ((Below.refl _ w).alloc (Nat.le_refl _) _).alloc (by simp) _
  have H := Lib.hid (indexFuncR_any 106 #[.pointer (some ⟨w.heap.size + 1, 0, none⟩)] (fun x => x.1 == id) xs _ _ (hu.keeps hB)
    ⟨Go.Proofs.enters_of Tryd.func106 (by kernel_rfl) rfl, fun W x hW => index1_any x.1 x.2.1 x.2.2 id _ W ((hW.cell (p := ⟨w.heap.size + 1, 0, none⟩) (by simp)).trans (by simp [go_sem]))⟩)
  have hv : idxR (fun x => x.1 == id) xs = r := (idxR_is xs id).unique hr.out
  rw [hv] at H
  clear hu hv
  go_enter Tryd.func86, Tryd.ntmps86
  go_wp2_with fail
  refine H.out.mono ?_
  rintro e W1 ⟨rfl, hB1⟩
  go_wp2_with fail
  go_ret
  exact ⟨rfl, hB.trans (hB1.mono (by simp; omega))⟩

set_option maxRecDepth 100000 in
set_option maxHeartbeats 2000000 in
theorem chk31_any (x1 x2 x3 : Int) (w : World) :
    Calls Tryd.prog 139 #[.agg #[.int .i64 x1, .int .i64 x2, .int .i64 x3]] w fun e w' => e = .returned (.bool (!timeB (x1, x2, x3))) ∧ Below w.heap.size w w' := by
  have KA : Free.Bel w (w.alloc (.cells #[.int .i64 x1, .int .i64 x2, .int .i64 x3] 47)) := belAlloc _ _
  cases h1 : inB 1 6 [x2]
  · have H1 := Lib.hid h1
    have hv : timeB (x1, x2, x3) = false := by simp [timeB, h1]
    rw [hv]
    clear h1 hv
    go_enter Tryd.func139, Tryd.ntmps139
    go_wp2_with fail
    refine (in_one _ _ x2 false _ _ H1.out (by simp [go_sem])).mono ?_
    rintro e w1 ⟨rfl, hB1⟩
    go_wp2_with fail
    go_ret
    exact ⟨rfl, bt KA (bt (belAlloc _ _) hB1)⟩
  · have H1 := Lib.hid h1
    have hb : 1 ≤ x2 ∧ x2 ≤ 6 := by simpa [inB] using h1
    have hwr : IntKind.i64.wrap (x2 - 1) = x2 - 1 := IntWalk.i64_in _ (by omega)
    obtain ⟨r, hr⟩ : ∃ r, inB 0 (x2 - 1) [x3] = r := ⟨_, rfl⟩
    have hv : timeB (x1, x2, x3) = r := by simp [timeB, h1, hr]
    have HR := Lib.hid hr
    have hx1 : ∀ W, Free.Bel (w.alloc (.cells #[.int .i64 x1, .int .i64 x2, .int .i64 x3] 47)) W → W.cell? ⟨w.heap.size, 1, none⟩ = some (.int .i64 x2) ∧ W.cell? ⟨w.heap.size, 2, none⟩ = some (.int .i64 x3) := fun W hW => ⟨keepsB hW (by simp [go_sem]), keepsB hW (by simp [go_sem])⟩
    rw [hv]
    clear h1 hv hr hb
    go_enter Tryd.func139, Tryd.ntmps139
    go_wp2_with fail
    refine (in_one _ _ x2 true _ _ H1.out (by simp [go_sem])).mono ?_
    rintro e w1 ⟨rfl, hB1⟩
    have K1 : Free.Bel (w.alloc (.cells #[.int .i64 x1, .int .i64 x2, .int .i64 x3] 47)) w1 := bt (belAlloc _ _) hB1
    clear hB1
    have hB9 : Free.Bel w w1 := bt KA K1
    clear KA
    go_wp2_with fail
    refine (in_one _ _ x3 r _ _ HR.out (by simp [go_sem])).mono ?_
    rintro e w2 ⟨rfl, hB2⟩
    go_wp2_with fail
    go_ret
    exact ⟨rfl, bt hB9 (bt (belAlloc _ _) hB2)⟩

set_option maxRecDepth 100000 in
set_option maxHeartbeats 2000000 in
theorem chk3_any (h : Int) (xs : List (Int × Int × Int)) (u : Value) (w : World) (hu : RL xs u w) :
    Calls Tryd.prog 137 #[.agg #[.int .i64 h, u]] w fun e w' => e = .returned (.bool (xs.all timeB)) ∧ Below w.heap.size w w' := by
  have hu' := hu
  obtain ⟨p, cp, rfl, _, _⟩ := hu'
  have hB : Below w.heap.size w (w.alloc (.cells #[.int .i64 h, .slice p xs.length cp] 24)) := (Below.refl _ w).alloc (Nat.le_refl _) _
  have H := Lib.hid (containsFuncR_any 139 #[] (fun x => !timeB x) xs _ _ (hu.keeps hB)
    ⟨Go.Proofs.enters_of Tryd.func139 (by kernel_rfl) rfl, fun W x _ => chk31_any x.1 x.2.1 x.2.2 W⟩)
  have hv : xs.all timeB = !(xs.any fun x => !timeB x) := by
    rw [List.not_any_eq_all_not]; simp
  rw [hv]
  generalize (xs.any fun x => !timeB x) = v at *
  clear hu hv
  go_enter Tryd.func137, Tryd.ntmps137
  go_wp2_with fail
  refine H.out.mono ?_
  rintro e W1 ⟨rfl, hB1⟩
  go_wp2_with fail
  go_ret
  exact ⟨rfl, hB.trans (hB1.mono (by simp))⟩

set_option maxRecDepth 100000 in
set_option maxHeartbeats 2000000 in
theorem chk1_any (h : Int) (n : Nat) (p : Option Addr) (cp : Nat) (w : World) :
    Calls Tryd.prog 135 #[.agg #[.int .i64 h, .slice p n cp]] w fun e w' => e = .returned (.bool (inB 0 3 [h] && decide ((n : Int) ≤ 4))) ∧ Below w.heap.size w w' := by
  have KA : Free.Bel w (w.alloc (.cells #[.int .i64 h, .slice p n cp] 24)) := belAlloc _ _
  have hx1 : ∀ W, Free.Bel (w.alloc (.cells #[.int .i64 h, .slice p n cp] 24)) W → W.cell? ⟨w.heap.size, 0, none⟩ = some (.int .i64 h) ∧ W.cell? ⟨w.heap.size, 1, none⟩ = some (.slice p n cp) := fun W hW => ⟨keepsB hW (by simp [go_sem]), keepsB hW (by simp [go_sem])⟩
  obtain ⟨r, hr⟩ : ∃ r, inB 0 3 [h] = r := ⟨_, rfl⟩
  have HR := Lib.hid hr
  rw [hr]
  clear hr
  cases r
  · go_enter Tryd.func135, Tryd.ntmps135
    go_wp2_with fail
    refine (in_one _ _ h false _ _ HR.out (by simp [go_sem])).mono ?_
    rintro e w1 ⟨rfl, hB1⟩
    have K1 : Free.Bel (w.alloc (.cells #[.int .i64 h, .slice p n cp] 24)) w1 := bt (belAlloc _ _) hB1
    clear hB1
    go_wp2_with fail
    go_ret
    exact ⟨rfl, bt KA K1⟩
  · go_enter Tryd.func135, Tryd.ntmps135
    go_wp2_with fail
    refine (in_one _ _ h true _ _ HR.out (by simp [go_sem])).mono ?_
    rintro e w1 ⟨rfl, hB1⟩
    have K1 : Free.Bel (w.alloc (.cells #[.int .i64 h, .slice p n cp] 24)) w1 := bt (belAlloc _ _) hB1
    clear hB1
    go_wp2_with fail
    go_ret
    exact ⟨by simp, bt KA K1⟩

set_option maxRecDepth 100000 in
set_option maxHeartbeats 4000000 in
theorem chk2_v (h : Int) (xs : List (Int × Int × Int)) (u : Value) (w : World) (hu : RL xs u w) (r : Bool) (hr : Hid (idsB 0 xs = r)) :
    Calls Tryd.prog 136 #[.agg #[.int .i64 h, u]] w fun e w' => e = .returned (.bool r) ∧ Below w.heap.size w w' := by
  obtain ⟨p, cp, rfl, hm, hp⟩ := hu
  unfold maxLen at hm
  have HP := Lib.hid hp
  clear hp
  have hB0 : Below w.heap.size w (w.alloc (.cells #[.int .i64 h, .slice p xs.length cp] 24)) := (Below.refl _ w).alloc (Nat.le_refl _) _
  go_enter Tryd.func136, Tryd.ntmps136
  go_wp2_with fail
  have HB0 := Lib.hid hB0
  clear hB0
  generalize w.alloc (.cells #[.int .i64 h, .slice p xs.length cp] 24) = w1 at *
  go_loopw [9, 3] (fun i l wr => ∃ (k : Nat) (last : Int), k ≤ xs.length ∧ i = .int .i64 k ∧ l = .int .i64 last ∧ 0 ≤ last ∧ last ≤ 9999 ∧ Hid (idsB last (xs.drop k) = r) ∧ Free.Bel w1 wr) (fun i _ _ => xs.length - (intOf i).toNat)
  case atStart => exact ⟨0, 0, Nat.zero_le _, rfl, rfl, by omega, by omega, hr, Free.Bel.refl _⟩
  case round =>
    obtain ⟨k, last, hk, rfl, rfl, hl0, hl1, hrest, hB⟩ := hrel
    have hww : Below w.heap.size w wr := HB0.out.trans (hB.mono HB0.out.size)
    by_cases hlt : k < xs.length
    · have hx : xs ≠ [] := by intro e; simp [e] at hlt
      obtain ⟨b, off, rfl, hcp⟩ := HP.out hx
      obtain ⟨d1, d2, d3⟩ := hcp k hlt
      have e1 := keepsB hww d1
      have e2 := keepsB hww d2
      have e3 := keepsB hww d3
      have hklt : (k : Int) < xs.length := by omega
      have hst : Hid ((inB (last + 1) 9999 [xs[k].1] && idsB xs[k].1 (xs.drop (k + 1))) = r) := by
        show _ = _
        rw [← hrest.out, List.drop_eq_getElem_cons hlt]; rfl
      clear hcp hx d1 d2 d3 hrest
      generalize xs[k] = x at *
      obtain ⟨x1, x2, x3⟩ := x
      have hlw : IntKind.i64.wrap (last + 1) = last + 1 := IntWalk.i64_in _ (by omega)
      have KA : Free.Bel wr (wr.alloc (.cells #[.int .i64 x1, .int .i64 x2, .int .i64 x3] 47)) := belAlloc _ _
      have hx1 : ∀ W, Free.Bel (wr.alloc (.cells #[.int .i64 x1, .int .i64 x2, .int .i64 x3] 47)) W → W.cell? ⟨wr.heap.size, 0, none⟩ = some (.int .i64 x1) := fun W hW => keepsB hW (by simp [go_sem])
      obtain ⟨q, hq⟩ : ∃ q, inB (last + 1) 9999 [x1] = q := ⟨_, rfl⟩
      have HQ := Lib.hid hq
      rw [hq] at hst
      cases q
      · obtain rfl : r = false := by rw [← hst.out, Bool.false_and]
        clear hq
        go_wp2_with fail
        refine (in_one _ _ x1 false _ _ HQ.out (by simp [go_sem])).mono ?_
        rintro e w3 ⟨rfl, hB3⟩
        have K3 : Free.Bel (wr.alloc (.cells #[.int .i64 x1, .int .i64 x2, .int .i64 x3] 47)) w3 := bt (belAlloc _ _) hB3
        clear hB3
        go_wp2_with fail
        go_ret
        exact ⟨rfl, hww.trans ((bt KA K3).mono hww.size)⟩
      · have hnext : Hid (idsB x1 (xs.drop (k + 1)) = r) := by show _ = _; rw [← hst.out, Bool.true_and]
        have hb1 : last + 1 ≤ x1 ∧ x1 ≤ 9999 := by simpa [inB] using hq
        clear hq
        go_wp2_with fail
        refine (in_one _ _ x1 true _ _ HQ.out (by simp [go_sem])).mono ?_
        rintro e w3 ⟨rfl, hB3⟩
        have K3 : Free.Bel (wr.alloc (.cells #[.int .i64 x1, .int .i64 x2, .int .i64 x3] 47)) w3 := bt (belAlloc _ _) hB3
        clear hB3
        go_wp2_with fail
        go_roundw
        case rel => exact ⟨k + 1, x1, by omega, by go_num, rfl, by omega, by omega, hnext, bt hB (bt KA K3)⟩
        case measure => simp [intOf]; omega
    · obtain rfl : k = xs.length := by omega
      obtain rfl : r = true := by rw [← hrest.out, List.drop_length]; rfl
      go_wp2_with fail
      go_ret
      exact ⟨rfl, hww⟩
end Go.Proofs.YtknpglgpkkhhiaaDoor

/- The program's Check of a watch, over its table. -/
namespace Go.Proofs.YtknpglgpkkhhiaaDoor
set_option linter.unusedSimpArgs false
set_option linter.unusedVariables false
open Go.RowKit

abbrev chkF (n : Nat) : Value := .func (.func n) #[] #[]
/-- The table of what a watch is asked. -/
def TabR (w : World) : Prop := w.cell? ⟨0, 0, none⟩ = some (chkF 135) ∧ w.cell? ⟨0, 1, none⟩ = some (chkF 136) ∧ w.cell? ⟨0, 2, none⟩ = some (chkF 137)
theorem TabR.bel {w W : World} (h : TabR w) (hB : Free.Bel w W) : TabR W := ⟨keepsB hB h.1, keepsB hB h.2.1, keepsB hB h.2.2⟩

set_option maxRecDepth 100000 in
set_option maxHeartbeats 4000000 in
theorem checkP_v (h : Int) (xs : List (Int × Int × Int)) (u : Value) (w : World) (hT : TabR w) (hu : RL xs u w) (c : Int) (hc : Hid ((if watchB h xs = true then 0 else 70) = c)) :
    Calls Tryd.prog 36 #[.agg #[.int .i64 h, u]] w fun e w' => e = .returned (.int .i64 c) ∧ Below w.heap.size w w' := by
  have HU := Lib.hid hu
  obtain ⟨p, cp, rfl, hm, _⟩ := hu
  have hw : watchB h xs = ((inB 0 3 [h] && decide ((xs.length : Int) ≤ 4)) && (idsB 0 xs && xs.all timeB)) := by
    rw [watchB, risesB_parts, show decide (xs.length ≤ 4) = decide ((xs.length : Int) ≤ 4) by simp; omega, Bool.and_assoc]
  have HW := Lib.hid hw
  clear hw
  have hB0 : Free.Bel w (w.alloc (.cells #[.int .i64 h, .slice p xs.length cp] 24)) := belAlloc _ _
  have FA : ∀ W, Free.Bel (w.alloc (.cells #[.int .i64 h, .slice p xs.length cp] 24)) W → W.cell? ⟨0, 0, none⟩ = some (chkF 135) ∧ W.cell? ⟨0, 1, none⟩ = some (chkF 136) ∧ W.cell? ⟨0, 2, none⟩ = some (chkF 137) ∧ W.cell? ⟨w.heap.size, 0, none⟩ = some (.int .i64 h) ∧ W.cell? ⟨w.heap.size, 1, none⟩ = some (.slice p xs.length cp) := fun W hW => ⟨keepsB (bt hB0 hW) hT.1, keepsB (bt hB0 hW) hT.2.1, keepsB (bt hB0 hW) hT.2.2, keepsB hW (by simp [go_sem]), keepsB hW (by simp [go_sem])⟩
  have KR : Free.Bel (w.alloc (.cells #[.int .i64 h, .slice p xs.length cp] 24)) (w.alloc (.cells #[.int .i64 h, .slice p xs.length cp] 24)) := Free.Bel.refl _
  clear hT
  go_enter Tryd.func36, Tryd.ntmps36
  go_wp2_with fail
  have HB0 := Lib.hid hB0
  clear hB0 KR
  generalize w.alloc (.cells #[.int .i64 h, .slice p xs.length cp] 24) = w1 at *
  go_loopw [6] (fun i wr => ∃ k : Nat, k ≤ 3 ∧ i = .int .i64 k ∧ Hid ((0 < k → (inB 0 3 [h] && decide ((xs.length : Int) ≤ 4)) = true) ∧ (1 < k → idsB 0 xs = true) ∧ (2 < k → xs.all timeB = true)) ∧ Free.Bel w1 wr) (fun i _ => 3 - (intOf i).toNat)
  case atStart => exact ⟨0, by omega, rfl, ⟨fun h => by omega, fun h => by omega, fun h => by omega⟩, Free.Bel.refl _⟩
  case round =>
    obtain ⟨k, hk, rfl, hq, hB⟩ := hrel
    by_cases hlt : k < 3
    · obtain rfl | rfl | rfl : k = 0 ∨ k = 1 ∨ k = 2 := by omega
      · obtain ⟨q, hq0⟩ : ∃ q, (inB 0 3 [h] && decide ((xs.length : Int) ≤ 4)) = q := ⟨_, rfl⟩
        have HQ : Hid ((inB 0 3 [h] && decide ((xs.length : Int) ≤ 4)) = q) := hq0
        clear hq0
        have hix : ∀ W : World, (Instr.index 121 (.agg #[chkF 135, chkF 136, chkF 137]) (.int .i64 0)).run Tryd.prog W = .ok (.agg #[chkF 135]) W := fun _ => by kernel_rfl
        have KA : Free.Bel w1 (wr.alloc (.cells #[chkF 135] 120)) := bt hB (belAlloc _ _)
        have KW : Free.Bel w (wr.alloc (.cells #[chkF 135] 120)) := bt HB0.out KA
        go_wp2_with fail
        have hcon : ∀ W, Free.Bel w W → Calls Tryd.prog 135 #[.agg #[.int .i64 h, .slice p xs.length cp]] W fun e w' => e = .returned (.bool q) ∧ Below W.heap.size W w' := fun W hW => by
          have hc9 := chk1_any h xs.length p cp W
          have hv : (inB 0 3 [h] && decide ((xs.length : Int) ≤ 4)) = q := HQ.out
          rw [hv] at hc9
          exact hc9
        refine (hcon _ KW).mono ?_
        rintro e w3 ⟨rfl, hB3⟩
        clear hcon
        have K3 : Free.Bel w1 w3 := bt KA hB3
        clear hB3
        cases q
        · go_wp2_with fail
          go_ret
          obtain rfl : c = 70 := by rw [← hc.out, if_neg]; rw [HW.out, HQ.out]; simp
          exact ⟨rfl, bt HB0.out K3⟩
        · go_wp2_with fail
          go_roundw
          case rel => exact ⟨1, by omega, by go_num, ⟨(fun _ => HQ.out), (fun h => by omega), (fun h => by omega)⟩, K3⟩
          case measure => simp [intOf]
      · obtain ⟨q, hq0⟩ : ∃ q, idsB 0 xs = q := ⟨_, rfl⟩
        have HQ : Hid (idsB 0 xs = q) := hq0
        clear hq0
        have hix : ∀ W : World, (Instr.index 121 (.agg #[chkF 135, chkF 136, chkF 137]) (.int .i64 1)).run Tryd.prog W = .ok (.agg #[chkF 136]) W := fun _ => by kernel_rfl
        have KA : Free.Bel w1 (wr.alloc (.cells #[chkF 136] 120)) := bt hB (belAlloc _ _)
        have KW : Free.Bel w (wr.alloc (.cells #[chkF 136] 120)) := bt HB0.out KA
        go_wp2_with fail
        have hcon : ∀ W, Free.Bel w W → Calls Tryd.prog 136 #[.agg #[.int .i64 h, .slice p xs.length cp]] W fun e w' => e = .returned (.bool q) ∧ Below W.heap.size W w' := fun W hW => by
          have hc9 := chk2_v h xs _ W (HU.out.keeps hW) q HQ
          have hv : idsB 0 xs = q := HQ.out
          clear hv
          exact hc9
        refine (hcon _ KW).mono ?_
        rintro e w3 ⟨rfl, hB3⟩
        clear hcon
        have K3 : Free.Bel w1 w3 := bt KA hB3
        clear hB3
        cases q
        · go_wp2_with fail
          go_ret
          obtain rfl : c = 70 := by rw [← hc.out, if_neg]; rw [HW.out, HQ.out]; simp
          exact ⟨rfl, bt HB0.out K3⟩
        · go_wp2_with fail
          go_roundw
          case rel => exact ⟨2, by omega, by go_num, ⟨(fun _ => hq.out.1 (by omega)), (fun _ => HQ.out), (fun h => by omega)⟩, K3⟩
          case measure => simp [intOf]
      · obtain ⟨q, hq0⟩ : ∃ q, xs.all timeB = q := ⟨_, rfl⟩
        have HQ : Hid (xs.all timeB = q) := hq0
        clear hq0
        have hix : ∀ W : World, (Instr.index 121 (.agg #[chkF 135, chkF 136, chkF 137]) (.int .i64 2)).run Tryd.prog W = .ok (.agg #[chkF 137]) W := fun _ => by kernel_rfl
        have KA : Free.Bel w1 (wr.alloc (.cells #[chkF 137] 120)) := bt hB (belAlloc _ _)
        have KW : Free.Bel w (wr.alloc (.cells #[chkF 137] 120)) := bt HB0.out KA
        go_wp2_with fail
        have hcon : ∀ W, Free.Bel w W → Calls Tryd.prog 137 #[.agg #[.int .i64 h, .slice p xs.length cp]] W fun e w' => e = .returned (.bool q) ∧ Below W.heap.size W w' := fun W hW => by
          have hc9 := chk3_any h xs _ W (HU.out.keeps hW)
          have hv : xs.all timeB = q := HQ.out
          rw [hv] at hc9
          exact hc9
        refine (hcon _ KW).mono ?_
        rintro e w3 ⟨rfl, hB3⟩
        clear hcon
        have K3 : Free.Bel w1 w3 := bt KA hB3
        clear hB3
        cases q
        · go_wp2_with fail
          go_ret
          obtain rfl : c = 70 := by rw [← hc.out, if_neg]; rw [HW.out, HQ.out]; simp
          exact ⟨rfl, bt HB0.out K3⟩
        · go_wp2_with fail
          go_roundw
          case rel => exact ⟨3, by omega, by go_num, ⟨(fun _ => hq.out.1 (by omega)), (fun _ => hq.out.2.1 (by omega)), (fun _ => HQ.out)⟩, K3⟩
          case measure => simp [intOf]
    · obtain rfl : k = 3 := by omega
      go_wp2_with fail
      go_ret
      obtain rfl : c = 0 := by rw [← hc.out, if_pos]; rw [HW.out, hq.out.1 (by omega), hq.out.2.1 (by omega), hq.out.2.2 (by omega)]; rfl
      exact ⟨rfl, bt HB0.out hB⟩
end Go.Proofs.YtknpglgpkkhhiaaDoor

/- The reference's Turnings. -/
namespace Go.Proofs.YtknpglgpkkhhiaaDoor
set_option linter.unusedSimpArgs false
set_option linter.unusedVariables false
open Go.RowKit

theorem hasR_rick {xs : List (Int × Int × Int)} {id r : Int} (h : RickIs xs id r) : hasR xs id = decide (0 ≤ r) := by
  rcases h with ⟨rfl, h⟩ | ⟨k, hk, rfl, h1, _⟩
  · simp [hasR]
    intro a b c hx he
    exact h _ hx he
  · have : hasR xs id = true := by
      simp only [hasR, List.any_eq_true]
      exact ⟨_, List.getElem_mem hk, by simp [h1]⟩
    rw [this]
    simp

set_option maxRecDepth 100000 in
set_option maxHeartbeats 8000000 in
theorem turnR_v (h : Int) (xs : List (Int × Int × Int)) (day : List Int) (u v : Value) (w : World) (hu : RL xs u w) (hv : IL day v w) (hpos : ∀ x ∈ xs, 1 ≤ x.1) (r : Bool) (hr : Hid (turnB h xs day = r)) :
    Calls Tryd.prog 58 #[.agg #[.int .i64 h, u], v] w fun e w' => e = .returned (.bool r) ∧ Below w.heap.size w w' := by
  have HU := Lib.hid hu
  obtain ⟨p, cp, rfl, _, _⟩ := hu
  obtain ⟨q, cq, rfl, hm, hq⟩ := hv
  unfold maxLen at hm
  have HC := Lib.hid hq
  have HPOS := Lib.hid hpos
  clear hq hpos
  have hB0 : Below w.heap.size w (w.alloc (.cells #[.int .i64 h, .slice p xs.length cp] 24)) := (Below.refl _ w).alloc (Nat.le_refl _) _
  have n0 : (w.alloc (.cells #[.int .i64 h, .slice p xs.length cp] 24)).cell? ⟨w.heap.size, 0, none⟩ = some (.int .i64 h) := by simp [go_sem]
  have n1 : (w.alloc (.cells #[.int .i64 h, .slice p xs.length cp] 24)).cell? ⟨w.heap.size, 1, none⟩ = some (.slice p xs.length cp) := by simp [go_sem]
  have FA : ∀ W, Free.Bel (w.alloc (.cells #[.int .i64 h, .slice p xs.length cp] 24)) W → W.cell? ⟨w.heap.size, 0, none⟩ = some (.int .i64 h) ∧ W.cell? ⟨w.heap.size, 1, none⟩ = some (.slice p xs.length cp) := fun W hW => ⟨keepsB hW n0, keepsB hW n1⟩
  clear n0 n1
  by_cases hl : (day.length : Int) ≤ h
  · have k4 : decide (h < (day.length : Int)) = false := decide_eq_false (by omega)
    have hr2 : Hid (turnF xs 0 day = r) := by show _ = _; rw [← hr.out, turnB, decide_eq_true hl, Bool.true_and]
    clear hr
    go_enter Tryd.func58, Tryd.ntmps58
    go_wp2_with fail
    have HB9 := Lib.hid hB0
    clear hB0 k4
    generalize (w.alloc (.cells #[.int .i64 h, .slice p xs.length cp] 24)) = w1 at *
    go_loopw [5] (fun i wr => ∃ (k : Nat) (prev : Int), k ≤ day.length ∧ i = .int .i64 k ∧ Hid (turnF xs prev (day.drop k) = r) ∧ Hid (k = 0 → prev = 0) ∧ Hid (∀ j (hj : j < day.length), j + 1 = k → day[j] = prev) ∧ Free.Bel w1 wr) (fun i _ => day.length - (intOf i).toNat)
    case atStart => exact ⟨0, 0, Nat.zero_le _, rfl, hr2, fun _ => rfl, fun j hj e => by omega, Free.Bel.refl _⟩
    case round =>
      obtain ⟨k, prev, hk, rfl, hrest, HZ0, HPR, hB⟩ := hrel
      have hww : Below w.heap.size w wr := HB9.out.trans (hB.mono HB9.out.size)
      by_cases hlt : k < day.length
      · have hx : day ≠ [] := by intro e; simp [e] at hlt
        obtain ⟨b, off, rfl, hcp⟩ := HC.out hx
        have e1 := keepsB hww (hcp k hlt)
        have hklt : (k : Int) < day.length := by omega
        have hst : Hid ((hasR xs day[k] && (decide (prev < day[k]) && turnF xs day[k] (day.drop (k + 1)))) = r) := by
          show _ = _
          rw [← hrest.out, List.drop_eq_getElem_cons hlt]; rfl
        have HPN : Hid (∀ j (hj : j < day.length), j + 1 = k + 1 → day[j] = day[k]) := fun j hj e => by
          obtain rfl : j = k := by omega
          rfl
        obtain ⟨r0, hr0⟩ := RickIs.some xs day[k]
        have HR := Lib.hid hr0
        have hin := hasR_rick hr0
        have HCP := Lib.hid hcp
        have HLT := Lib.hid hlt
        clear hcp hx hrest hr0
        generalize day[k] = a at *
        by_cases h0 : r0 < 0
        · have h1 : hasR xs a = false := by rw [hin]; exact decide_eq_false (by omega)
          obtain rfl : r = false := by rw [← hst.out, h1, Bool.false_and]
          have g0 : decide (r0 < 0) = true := decide_eq_true h0
          clear h1 hin
          go_wp2_with fail
          have HQ : ∀ W, Free.Bel wr.drew W → Free.Bel w1 W := fun W hW => bt hB (Free.Bel.first hW)
          have hF : ∀ W, Free.Bel wr.drew W → (W.cell? ⟨w.heap.size, 0, none⟩ = some (.int .i64 h) ∧ W.cell? ⟨w.heap.size, 1, none⟩ = some (.slice p xs.length cp) ∧ W.cell? ⟨b, off + k, none⟩ = some (.int .i64 a)) ∧ Below w.heap.size w W := fun W hW => ⟨⟨(FA W (HQ W hW)).1, (FA W (HQ W hW)).2, keepsB (Free.Bel.first hW) e1⟩, hww.trans ((Free.Bel.first hW).mono hww.size)⟩
          refine Free.wp_free (R := Free.Bel) (by kernel_rfl) (by kernel_rfl) Free.Bel.refl Free.Bel.trans ?_
          refine Free.Chain.ex ?_ [] [2] (by kernel_rfl) (by kernel_rfl) rfl Free.Bel.refl ?_ ?_
          rotate_left 2
          simp only [an1, an2]
          refine Free.Chain.ex ?_ [] [1] (by kernel_rfl) (by kernel_rfl) rfl Free.Bel.refl ?_ ?_
          rotate_left 2
          simp only [an1, an2]
          refine Free.Chain.ex ?_ [] [5] (by kernel_rfl) (by kernel_rfl) rfl Free.Bel.refl ?_ ?_
          rotate_left 2
          simp only [an1, an2]
          refine Free.Chain.ex ?_ [(1, 18), (2, 19)] [] (by kernel_rfl) (by kernel_rfl) rfl Free.Bel.refl ?_ ?_
          rotate_left 2
          simp only [an1, an2]
          refine Free.Chain.ex ?_ [(3, 20)] [] (by kernel_rfl) (by kernel_rfl) rfl Free.Bel.refl ?_ ?_
          rotate_left 2
          simp only [an1, an2]
          rotate_left
          iterate 5 (rotate_left; intro ev W hb hR hO hD; have hS := hF W hR; obtain ⟨hb1, hb2, hb3⟩ := hb; simp only [Free.AllDeps, Free.AllOuts, Free.At, al1, al2, al3, al4, al5, and_true] at hO hD; go_simp; rfl)
          refine Free.Chain.pr (fun v _ => v = .int .i64 r0) [(0, 17), (4, 21)] [] (by kernel_rfl) (by kernel_rfl) rfl (fun _ _ _ _ h => h) ?_ ?_
          · (intro ev W hb hR hO hD; have hS := hF W hR; obtain ⟨hb1, hb2, hb3⟩ := hb; simp only [Free.AllDeps, Free.AllOuts, Free.At, al1, al2, al3, al4, al5, and_true] at hO hD; obtain ⟨hS, hS2⟩ := hS; go_simp; refine yields_enter ?_; (with_reducible refine (rickR_v h a xs _ _ (HU.out.keeps hS2) r0 HR).mono ?_); rintro e W2 ⟨rfl, hB2⟩; exact ⟨_, rfl, hB2, rfl⟩)
          simp only [an1, an2]
          refine Free.Chain.ex ?_ [(5, 22)] [] (by kernel_rfl) (by kernel_rfl) rfl Free.Bel.refl ?_ ?_
          rotate_left 2
          simp only [an1, an2]
          refine Free.Chain.ex ?_ [(6, 23), (5, 22)] [] (by kernel_rfl) (by kernel_rfl) rfl Free.Bel.refl ?_ ?_
          rotate_left 2
          simp only [an1, an2]
          rotate_left
          iterate 2 (rotate_left; intro ev W hb hR hO hD; have hS := hF W hR; obtain ⟨hb1, hb2, hb3⟩ := hb; simp only [Free.AllDeps, Free.AllOuts, Free.At, al1, al2, al3, al4, al5, and_true] at hO hD; go_simp; rfl)
          refine Free.Chain.no [(7, 24)] [5] 7 false 24 (by kernel_rfl) (by kernel_rfl) rfl (by kernel_rfl) ?_ ?_
          · (intro ev W hR hD; simp only [Free.AllDeps, Free.At, List.getElem?_cons_succ, List.getElem?_cons_zero, and_true] at hD; simp [hD])
          simp only [an1, an2]
          refine Free.Chain.no [(8, 25), (7, 24)] [] 7 false 24 (by kernel_rfl) (by kernel_rfl) rfl (by kernel_rfl) ?_ ?_
          · (intro ev W hR hD; simp only [Free.AllDeps, Free.At, List.getElem?_cons_succ, List.getElem?_cons_zero, and_true] at hD; simp [hD])
          simp only [an1, an2]
          refine Free.Chain.no [(9, 26), (7, 24), (7, 24)] [] 7 false 24 (by kernel_rfl) (by kernel_rfl) rfl (by kernel_rfl) ?_ ?_
          · (intro ev W hR hD; simp only [Free.AllDeps, Free.At, List.getElem?_cons_succ, List.getElem?_cons_zero, and_true] at hD; simp [hD])
          simp only [an1, an2]
          refine Free.Chain.no [(10, 27)] [1] 10 true 27 (by kernel_rfl) (by kernel_rfl) rfl (by kernel_rfl) ?_ ?_
          · (intro ev W hR hD; simp only [Free.AllDeps, Free.At, List.getElem?_cons_succ, List.getElem?_cons_zero, and_true] at hD; simp [hD])
          simp only [an1, an2]
          refine Free.Chain.no [(10, 27)] [5] 10 true 27 (by kernel_rfl) (by kernel_rfl) rfl (by kernel_rfl) ?_ ?_
          · (intro ev W hR hD; simp only [Free.AllDeps, Free.At, List.getElem?_cons_succ, List.getElem?_cons_zero, and_true] at hD; simp [hD])
          simp only [an1, an2]
          refine Free.Chain.no [(12, 29), (10, 27)] [] 10 true 27 (by kernel_rfl) (by kernel_rfl) rfl (by kernel_rfl) ?_ ?_
          · (intro ev W hR hD; simp only [Free.AllDeps, Free.At, List.getElem?_cons_succ, List.getElem?_cons_zero, and_true] at hD; simp [hD])
          simp only [an1, an2]
          refine Free.Chain.no [(11, 28), (13, 30), (10, 27)] [] 10 true 27 (by kernel_rfl) (by kernel_rfl) rfl (by kernel_rfl) ?_ ?_
          · (intro ev W hR hD; simp only [Free.AllDeps, Free.At, List.getElem?_cons_succ, List.getElem?_cons_zero, and_true] at hD; simp [hD])
          simp only [an1, an2]
          refine Free.Chain.no [(14, 31), (10, 27)] [] 10 true 27 (by kernel_rfl) (by kernel_rfl) rfl (by kernel_rfl) ?_ ?_
          · (intro ev W hR hD; simp only [Free.AllDeps, Free.At, List.getElem?_cons_succ, List.getElem?_cons_zero, and_true] at hD; simp [hD])
          simp only [an1, an2]
          refine Free.Chain.no [(10, 27)] [1] 10 true 27 (by kernel_rfl) (by kernel_rfl) rfl (by kernel_rfl) ?_ ?_
          · (intro ev W hR hD; simp only [Free.AllDeps, Free.At, List.getElem?_cons_succ, List.getElem?_cons_zero, and_true] at hD; simp [hD])
          simp only [an1, an2]
          refine Free.Chain.no [(10, 27)] [5] 10 true 27 (by kernel_rfl) (by kernel_rfl) rfl (by kernel_rfl) ?_ ?_
          · (intro ev W hR hD; simp only [Free.AllDeps, Free.At, List.getElem?_cons_succ, List.getElem?_cons_zero, and_true] at hD; simp [hD])
          simp only [an1, an2]
          refine Free.Chain.no [(16, 33), (17, 34), (10, 27)] [] 10 true 27 (by kernel_rfl) (by kernel_rfl) rfl (by kernel_rfl) ?_ ?_
          · (intro ev W hR hD; simp only [Free.AllDeps, Free.At, List.getElem?_cons_succ, List.getElem?_cons_zero, and_true] at hD; simp [hD])
          simp only [an1, an2]
          refine Free.Chain.no [(18, 35), (10, 27)] [] 10 true 27 (by kernel_rfl) (by kernel_rfl) rfl (by kernel_rfl) ?_ ?_
          · (intro ev W hR hD; simp only [Free.AllDeps, Free.At, List.getElem?_cons_succ, List.getElem?_cons_zero, and_true] at hD; simp [hD])
          simp only [an1, an2]
          refine Free.Chain.no [(15, 32), (19, 36), (10, 27)] [] 10 true 27 (by kernel_rfl) (by kernel_rfl) rfl (by kernel_rfl) ?_ ?_
          · (intro ev W hR hD; simp only [Free.AllDeps, Free.At, List.getElem?_cons_succ, List.getElem?_cons_zero, and_true] at hD; simp [hD])
          simp only [an1, an2]
          refine Free.Chain.no [(10, 27), (20, 37), (7, 24)] [] 7 false 24 (by kernel_rfl) (by kernel_rfl) rfl (by kernel_rfl) ?_ ?_
          · (intro ev W hR hD; simp only [Free.AllDeps, Free.At, List.getElem?_cons_succ, List.getElem?_cons_zero, and_true] at hD; simp [hD])
          simp only [an1, an2]
          refine Free.Chain.ex ?_ [(7, 24), (21, 38)] [] (by kernel_rfl) (by kernel_rfl) rfl Free.Bel.refl ?_ ?_
          rotate_left 2
          simp only [an1, an2]
          rotate_left
          rotate_left
          · (intro ev W hb hR hO hD; have hS := hF W hR; obtain ⟨hb1, hb2, hb3⟩ := hb; simp only [Free.AllDeps, Free.AllOuts, Free.At, al1, al2, al3, al4, al5, and_true] at hO hD; go_simp; rfl)
          intro xs w' hR hV
          simp only [Free.AllV, Free.At, List.length_cons, List.length_nil, Nat.reduceAdd, List.getElem?_cons_succ, List.getElem?_cons_zero, true_and] at hV
          simp only [Free.putsFrom, Act.put, Nat.zero_add, Nat.reduceAdd, hV, List.setIfInBounds_toArray, List.set_cons_succ, List.set_cons_zero]
          have HB2 : Free.Bel w1 w' := HQ w' hR
          clear hR hV hF HQ
          go_wp2_with fail
          go_ret
          exact ⟨rfl, HB9.out.trans (HB2.mono HB9.out.size)⟩
        · have h1 : hasR xs a = true := by rw [hin]; exact decide_eq_true (by omega)
          have g0 : decide (r0 < 0) = false := decide_eq_false h0
          have hpa : 1 ≤ a := by
            simp only [hasR, List.any_eq_true, beq_iff_eq] at h1
            obtain ⟨x, hx1, hx2⟩ := h1
            have := HPOS.out x hx1
            omega
          have hst2 : Hid ((decide (prev < a) && turnF xs a (day.drop (k + 1))) = r) := by show _ = _; rw [← hst.out, h1, Bool.true_and]
          clear h1 hin hst
          by_cases hk0 : k = 0
          · have hp0 := HZ0.out hk0
            have hnext : Hid (turnF xs a (day.drop (k + 1)) = r) := by show _ = _; rw [← hst2.out, hp0, decide_eq_true (show (0 : Int) < a by omega), Bool.true_and]
            have g1 : decide (0 < (k : Int)) = false := decide_eq_false (by omega)
            clear hst2 hp0
            subst hk0
            have e1 : wr.cell? ⟨b, off, none⟩ = some (.int .i64 a) := by simpa using e1
            go_wp2_with fail
            have HQ : ∀ W, Free.Bel wr.drew W → Free.Bel w1 W := fun W hW => bt hB (Free.Bel.first hW)
            have hF : ∀ W, Free.Bel wr.drew W → (W.cell? ⟨w.heap.size, 0, none⟩ = some (.int .i64 h) ∧ W.cell? ⟨w.heap.size, 1, none⟩ = some (.slice p xs.length cp) ∧ W.cell? ⟨b, off, none⟩ = some (.int .i64 a)) ∧ Below w.heap.size w W := fun W hW => ⟨⟨(FA W (HQ W hW)).1, (FA W (HQ W hW)).2, keepsB (Free.Bel.first hW) e1⟩, hww.trans ((Free.Bel.first hW).mono hww.size)⟩
            refine Free.wp_free (R := Free.Bel) (by kernel_rfl) (by kernel_rfl) Free.Bel.refl Free.Bel.trans ?_
            refine Free.Chain.ex ?_ [] [2] (by kernel_rfl) (by kernel_rfl) rfl Free.Bel.refl ?_ ?_
            rotate_left 2
            simp only [an1, an2]
            refine Free.Chain.ex ?_ [] [1] (by kernel_rfl) (by kernel_rfl) rfl Free.Bel.refl ?_ ?_
            rotate_left 2
            simp only [an1, an2]
            refine Free.Chain.ex ?_ [] [5] (by kernel_rfl) (by kernel_rfl) rfl Free.Bel.refl ?_ ?_
            rotate_left 2
            simp only [an1, an2]
            refine Free.Chain.ex ?_ [(1, 18), (2, 19)] [] (by kernel_rfl) (by kernel_rfl) rfl Free.Bel.refl ?_ ?_
            rotate_left 2
            simp only [an1, an2]
            refine Free.Chain.ex ?_ [(3, 20)] [] (by kernel_rfl) (by kernel_rfl) rfl Free.Bel.refl ?_ ?_
            rotate_left 2
            simp only [an1, an2]
            rotate_left
            iterate 5 (rotate_left; intro ev W hb hR hO hD; have hS := hF W hR; obtain ⟨hb1, hb2, hb3⟩ := hb; simp only [Free.AllDeps, Free.AllOuts, Free.At, al1, al2, al3, al4, al5, and_true] at hO hD; go_simp; rfl)
            refine Free.Chain.pr (fun v _ => v = .int .i64 r0) [(0, 17), (4, 21)] [] (by kernel_rfl) (by kernel_rfl) rfl (fun _ _ _ _ h => h) ?_ ?_
            · (intro ev W hb hR hO hD; have hS := hF W hR; obtain ⟨hb1, hb2, hb3⟩ := hb; simp only [Free.AllDeps, Free.AllOuts, Free.At, al1, al2, al3, al4, al5, and_true] at hO hD; obtain ⟨hS, hS2⟩ := hS; go_simp; refine yields_enter ?_; (with_reducible refine (rickR_v h a xs _ _ (HU.out.keeps hS2) r0 HR).mono ?_); rintro e W2 ⟨rfl, hB2⟩; exact ⟨_, rfl, hB2, rfl⟩)
            simp only [an1, an2]
            refine Free.Chain.ex ?_ [(5, 22)] [] (by kernel_rfl) (by kernel_rfl) rfl Free.Bel.refl ?_ ?_
            rotate_left 2
            simp only [an1, an2]
            refine Free.Chain.ex ?_ [(6, 23), (5, 22)] [] (by kernel_rfl) (by kernel_rfl) rfl Free.Bel.refl ?_ ?_
            rotate_left 2
            simp only [an1, an2]
            rotate_left
            iterate 2 (rotate_left; intro ev W hb hR hO hD; have hS := hF W hR; obtain ⟨hb1, hb2, hb3⟩ := hb; simp only [Free.AllDeps, Free.AllOuts, Free.At, al1, al2, al3, al4, al5, and_true] at hO hD; go_simp; rfl)
            refine Free.Chain.exG ?_ [(7, 24)] [5] 7 false 24 (by kernel_rfl) (by kernel_rfl) rfl (by kernel_rfl) Free.Bel.refl ?_ ?_
            rotate_left 2
            simp only [an1, an2]
            refine Free.Chain.exG ?_ [(8, 25), (7, 24)] [] 7 false 24 (by kernel_rfl) (by kernel_rfl) rfl (by kernel_rfl) Free.Bel.refl ?_ ?_
            rotate_left 2
            simp only [an1, an2]
            refine Free.Chain.exG ?_ [(9, 26), (7, 24), (7, 24)] [] 7 false 24 (by kernel_rfl) (by kernel_rfl) rfl (by kernel_rfl) Free.Bel.refl ?_ ?_
            rotate_left 2
            simp only [an1, an2]
            rotate_left
            iterate 3 (rotate_left; intro ev W hb hR hO hD; have hS := hF W hR; obtain ⟨hb1, hb2, hb3⟩ := hb; simp only [Free.AllDeps, Free.AllOuts, Free.At, al1, al2, al3, al4, al5, and_true] at hO hD; refine ⟨by simp [hD], ?_⟩; go_simp; rfl)
            refine Free.Chain.no [(10, 27)] [1] 10 true 27 (by kernel_rfl) (by kernel_rfl) rfl (by kernel_rfl) ?_ ?_
            · (intro ev W hR hD; simp only [Free.AllDeps, Free.At, List.getElem?_cons_succ, List.getElem?_cons_zero, and_true] at hD; simp [hD])
            simp only [an1, an2]
            refine Free.Chain.no [(10, 27)] [5] 10 true 27 (by kernel_rfl) (by kernel_rfl) rfl (by kernel_rfl) ?_ ?_
            · (intro ev W hR hD; simp only [Free.AllDeps, Free.At, List.getElem?_cons_succ, List.getElem?_cons_zero, and_true] at hD; simp [hD])
            simp only [an1, an2]
            refine Free.Chain.no [(12, 29), (10, 27)] [] 10 true 27 (by kernel_rfl) (by kernel_rfl) rfl (by kernel_rfl) ?_ ?_
            · (intro ev W hR hD; simp only [Free.AllDeps, Free.At, List.getElem?_cons_succ, List.getElem?_cons_zero, and_true] at hD; simp [hD])
            simp only [an1, an2]
            refine Free.Chain.no [(11, 28), (13, 30), (10, 27)] [] 10 true 27 (by kernel_rfl) (by kernel_rfl) rfl (by kernel_rfl) ?_ ?_
            · (intro ev W hR hD; simp only [Free.AllDeps, Free.At, List.getElem?_cons_succ, List.getElem?_cons_zero, and_true] at hD; simp [hD])
            simp only [an1, an2]
            refine Free.Chain.no [(14, 31), (10, 27)] [] 10 true 27 (by kernel_rfl) (by kernel_rfl) rfl (by kernel_rfl) ?_ ?_
            · (intro ev W hR hD; simp only [Free.AllDeps, Free.At, List.getElem?_cons_succ, List.getElem?_cons_zero, and_true] at hD; simp [hD])
            simp only [an1, an2]
            refine Free.Chain.no [(10, 27)] [1] 10 true 27 (by kernel_rfl) (by kernel_rfl) rfl (by kernel_rfl) ?_ ?_
            · (intro ev W hR hD; simp only [Free.AllDeps, Free.At, List.getElem?_cons_succ, List.getElem?_cons_zero, and_true] at hD; simp [hD])
            simp only [an1, an2]
            refine Free.Chain.no [(10, 27)] [5] 10 true 27 (by kernel_rfl) (by kernel_rfl) rfl (by kernel_rfl) ?_ ?_
            · (intro ev W hR hD; simp only [Free.AllDeps, Free.At, List.getElem?_cons_succ, List.getElem?_cons_zero, and_true] at hD; simp [hD])
            simp only [an1, an2]
            refine Free.Chain.no [(16, 33), (17, 34), (10, 27)] [] 10 true 27 (by kernel_rfl) (by kernel_rfl) rfl (by kernel_rfl) ?_ ?_
            · (intro ev W hR hD; simp only [Free.AllDeps, Free.At, List.getElem?_cons_succ, List.getElem?_cons_zero, and_true] at hD; simp [hD])
            simp only [an1, an2]
            refine Free.Chain.no [(18, 35), (10, 27)] [] 10 true 27 (by kernel_rfl) (by kernel_rfl) rfl (by kernel_rfl) ?_ ?_
            · (intro ev W hR hD; simp only [Free.AllDeps, Free.At, List.getElem?_cons_succ, List.getElem?_cons_zero, and_true] at hD; simp [hD])
            simp only [an1, an2]
            refine Free.Chain.no [(15, 32), (19, 36), (10, 27)] [] 10 true 27 (by kernel_rfl) (by kernel_rfl) rfl (by kernel_rfl) ?_ ?_
            · (intro ev W hR hD; simp only [Free.AllDeps, Free.At, List.getElem?_cons_succ, List.getElem?_cons_zero, and_true] at hD; simp [hD])
            simp only [an1, an2]
            refine Free.Chain.exG ?_ [(10, 27), (20, 37), (7, 24)] [] 7 false 24 (by kernel_rfl) (by kernel_rfl) rfl (by kernel_rfl) Free.Bel.refl ?_ ?_
            rotate_left 2
            simp only [an1, an2]
            rotate_left
            rotate_left
            · (intro ev W hb hR hO hD; have hS := hF W hR; obtain ⟨hb1, hb2, hb3⟩ := hb; simp only [Free.AllDeps, Free.AllOuts, Free.At, al1, al2, al3, al4, al5, and_true] at hO hD; refine ⟨by simp [hD], ?_⟩; go_simp; rfl)
            refine Free.Chain.ex ?_ [(7, 24), (21, 38)] [] (by kernel_rfl) (by kernel_rfl) rfl Free.Bel.refl ?_ ?_
            rotate_left 2
            simp only [an1, an2]
            rotate_left
            rotate_left
            · (intro ev W hb hR hO hD; have hS := hF W hR; obtain ⟨hb1, hb2, hb3⟩ := hb; simp only [Free.AllDeps, Free.AllOuts, Free.At, al1, al2, al3, al4, al5, and_true] at hO hD; go_simp; rfl)
            intro xs w' hR hV
            simp only [Free.AllV, Free.At, List.length_cons, List.length_nil, Nat.reduceAdd, List.getElem?_cons_succ, List.getElem?_cons_zero, true_and] at hV
            simp only [Free.putsFrom, Act.put, Nat.zero_add, Nat.reduceAdd, hV, List.setIfInBounds_toArray, List.set_cons_succ, List.set_cons_zero]
            have HB2 : Free.Bel w1 w' := HQ w' hR
            clear hR hV hF HQ
            go_wp2_with fail
            go_roundw
            case rel => exact ⟨0 + 1, a, by omega, by go_num, hnext, (fun h => by omega), HPN, HB2⟩
            case measure => simp [intOf]; omega
          · obtain ⟨j, hj⟩ : ∃ j, j + 1 = k := ⟨k - 1, by omega⟩
            have hjl : j < day.length := by omega
            have hjlt : (j : Int) < day.length := by omega
            have hwj : IntKind.i64.wrap ((k : Int) - 1) = (j : Int) := by rw [IntWalk.i64_in _ (by omega)]; omega
            have e2 := keepsB hww (HCP.out j hjl)
            rw [HPR.out j hjl hj] at e2
            have g1 : decide (0 < (k : Int)) = true := decide_eq_true (by omega)
            have HJ := Lib.hid hj
            have hkp : 0 < k := by omega
            clear hj hk0
            by_cases hle : a ≤ prev
            · have g2 : decide (a ≤ prev) = true := decide_eq_true hle
              obtain rfl : r = false := by rw [← hst2.out, decide_eq_false (show ¬ prev < a by omega), Bool.false_and]
              clear hst2
              go_wp2_with fail
              have HQ : ∀ W, Free.Bel wr.drew W → Free.Bel w1 W := fun W hW => bt hB (Free.Bel.first hW)
              have hF : ∀ W, Free.Bel wr.drew W → (W.cell? ⟨w.heap.size, 0, none⟩ = some (.int .i64 h) ∧ W.cell? ⟨w.heap.size, 1, none⟩ = some (.slice p xs.length cp) ∧ W.cell? ⟨b, off + k, none⟩ = some (.int .i64 a) ∧ W.cell? ⟨b, off + j, none⟩ = some (.int .i64 prev)) ∧ Below w.heap.size w W := fun W hW => ⟨⟨(FA W (HQ W hW)).1, (FA W (HQ W hW)).2, keepsB (Free.Bel.first hW) e1, keepsB (Free.Bel.first hW) e2⟩, hww.trans ((Free.Bel.first hW).mono hww.size)⟩
              refine Free.wp_free (R := Free.Bel) (by kernel_rfl) (by kernel_rfl) Free.Bel.refl Free.Bel.trans ?_
              refine Free.Chain.ex ?_ [] [2] (by kernel_rfl) (by kernel_rfl) rfl Free.Bel.refl ?_ ?_
              rotate_left 2
              simp only [an1, an2]
              refine Free.Chain.ex ?_ [] [1] (by kernel_rfl) (by kernel_rfl) rfl Free.Bel.refl ?_ ?_
              rotate_left 2
              simp only [an1, an2]
              refine Free.Chain.ex ?_ [] [5] (by kernel_rfl) (by kernel_rfl) rfl Free.Bel.refl ?_ ?_
              rotate_left 2
              simp only [an1, an2]
              refine Free.Chain.ex ?_ [(1, 18), (2, 19)] [] (by kernel_rfl) (by kernel_rfl) rfl Free.Bel.refl ?_ ?_
              rotate_left 2
              simp only [an1, an2]
              refine Free.Chain.ex ?_ [(3, 20)] [] (by kernel_rfl) (by kernel_rfl) rfl Free.Bel.refl ?_ ?_
              rotate_left 2
              simp only [an1, an2]
              rotate_left
              iterate 5 (rotate_left; intro ev W hb hR hO hD; have hS := hF W hR; obtain ⟨hb1, hb2, hb3⟩ := hb; simp only [Free.AllDeps, Free.AllOuts, Free.At, al1, al2, al3, al4, al5, and_true] at hO hD; go_simp; rfl)
              refine Free.Chain.pr (fun v _ => v = .int .i64 r0) [(0, 17), (4, 21)] [] (by kernel_rfl) (by kernel_rfl) rfl (fun _ _ _ _ h => h) ?_ ?_
              · (intro ev W hb hR hO hD; have hS := hF W hR; obtain ⟨hb1, hb2, hb3⟩ := hb; simp only [Free.AllDeps, Free.AllOuts, Free.At, al1, al2, al3, al4, al5, and_true] at hO hD; obtain ⟨hS, hS2⟩ := hS; go_simp; refine yields_enter ?_; (with_reducible refine (rickR_v h a xs _ _ (HU.out.keeps hS2) r0 HR).mono ?_); rintro e W2 ⟨rfl, hB2⟩; exact ⟨_, rfl, hB2, rfl⟩)
              simp only [an1, an2]
              refine Free.Chain.ex ?_ [(5, 22)] [] (by kernel_rfl) (by kernel_rfl) rfl Free.Bel.refl ?_ ?_
              rotate_left 2
              simp only [an1, an2]
              refine Free.Chain.ex ?_ [(6, 23), (5, 22)] [] (by kernel_rfl) (by kernel_rfl) rfl Free.Bel.refl ?_ ?_
              rotate_left 2
              simp only [an1, an2]
              rotate_left
              iterate 2 (rotate_left; intro ev W hb hR hO hD; have hS := hF W hR; obtain ⟨hb1, hb2, hb3⟩ := hb; simp only [Free.AllDeps, Free.AllOuts, Free.At, al1, al2, al3, al4, al5, and_true] at hO hD; go_simp; rfl)
              refine Free.Chain.exG ?_ [(7, 24)] [5] 7 false 24 (by kernel_rfl) (by kernel_rfl) rfl (by kernel_rfl) Free.Bel.refl ?_ ?_
              rotate_left 2
              simp only [an1, an2]
              refine Free.Chain.exG ?_ [(8, 25), (7, 24)] [] 7 false 24 (by kernel_rfl) (by kernel_rfl) rfl (by kernel_rfl) Free.Bel.refl ?_ ?_
              rotate_left 2
              simp only [an1, an2]
              refine Free.Chain.exG ?_ [(9, 26), (7, 24), (7, 24)] [] 7 false 24 (by kernel_rfl) (by kernel_rfl) rfl (by kernel_rfl) Free.Bel.refl ?_ ?_
              rotate_left 2
              simp only [an1, an2]
              refine Free.Chain.exG ?_ [(10, 27)] [1] 10 true 27 (by kernel_rfl) (by kernel_rfl) rfl (by kernel_rfl) Free.Bel.refl ?_ ?_
              rotate_left 2
              simp only [an1, an2]
              refine Free.Chain.exG ?_ [(10, 27)] [5] 10 true 27 (by kernel_rfl) (by kernel_rfl) rfl (by kernel_rfl) Free.Bel.refl ?_ ?_
              rotate_left 2
              simp only [an1, an2]
              refine Free.Chain.exG ?_ [(12, 29), (10, 27)] [] 10 true 27 (by kernel_rfl) (by kernel_rfl) rfl (by kernel_rfl) Free.Bel.refl ?_ ?_
              rotate_left 2
              simp only [an1, an2]
              refine Free.Chain.exG ?_ [(11, 28), (13, 30), (10, 27)] [] 10 true 27 (by kernel_rfl) (by kernel_rfl) rfl (by kernel_rfl) Free.Bel.refl ?_ ?_
              rotate_left 2
              simp only [an1, an2]
              refine Free.Chain.exG ?_ [(14, 31), (10, 27)] [] 10 true 27 (by kernel_rfl) (by kernel_rfl) rfl (by kernel_rfl) Free.Bel.refl ?_ ?_
              rotate_left 2
              simp only [an1, an2]
              refine Free.Chain.exG ?_ [(10, 27)] [1] 10 true 27 (by kernel_rfl) (by kernel_rfl) rfl (by kernel_rfl) Free.Bel.refl ?_ ?_
              rotate_left 2
              simp only [an1, an2]
              refine Free.Chain.exG ?_ [(10, 27)] [5] 10 true 27 (by kernel_rfl) (by kernel_rfl) rfl (by kernel_rfl) Free.Bel.refl ?_ ?_
              rotate_left 2
              simp only [an1, an2]
              refine Free.Chain.exG ?_ [(16, 33), (17, 34), (10, 27)] [] 10 true 27 (by kernel_rfl) (by kernel_rfl) rfl (by kernel_rfl) Free.Bel.refl ?_ ?_
              rotate_left 2
              simp only [an1, an2]
              refine Free.Chain.exG ?_ [(18, 35), (10, 27)] [] 10 true 27 (by kernel_rfl) (by kernel_rfl) rfl (by kernel_rfl) Free.Bel.refl ?_ ?_
              rotate_left 2
              simp only [an1, an2]
              refine Free.Chain.exG ?_ [(15, 32), (19, 36), (10, 27)] [] 10 true 27 (by kernel_rfl) (by kernel_rfl) rfl (by kernel_rfl) Free.Bel.refl ?_ ?_
              rotate_left 2
              simp only [an1, an2]
              refine Free.Chain.exG ?_ [(10, 27), (20, 37), (7, 24)] [] 7 false 24 (by kernel_rfl) (by kernel_rfl) rfl (by kernel_rfl) Free.Bel.refl ?_ ?_
              rotate_left 2
              simp only [an1, an2]
              rotate_left
              iterate 14 (rotate_left; intro ev W hb hR hO hD; have hS := hF W hR; obtain ⟨hb1, hb2, hb3⟩ := hb; simp only [Free.AllDeps, Free.AllOuts, Free.At, al1, al2, al3, al4, al5, and_true] at hO hD; refine ⟨by simp [hD], ?_⟩; go_simp; rfl)
              refine Free.Chain.ex ?_ [(7, 24), (21, 38)] [] (by kernel_rfl) (by kernel_rfl) rfl Free.Bel.refl ?_ ?_
              rotate_left 2
              simp only [an1, an2]
              rotate_left
              rotate_left
              · (intro ev W hb hR hO hD; have hS := hF W hR; obtain ⟨hb1, hb2, hb3⟩ := hb; simp only [Free.AllDeps, Free.AllOuts, Free.At, al1, al2, al3, al4, al5, and_true] at hO hD; go_simp; rfl)
              intro xs w' hR hV
              simp only [Free.AllV, Free.At, List.length_cons, List.length_nil, Nat.reduceAdd, List.getElem?_cons_succ, List.getElem?_cons_zero, true_and] at hV
              simp only [Free.putsFrom, Act.put, Nat.zero_add, Nat.reduceAdd, hV, List.setIfInBounds_toArray, List.set_cons_succ, List.set_cons_zero]
              have HB2 : Free.Bel w1 w' := HQ w' hR
              clear hR hV hF HQ
              go_wp2_with fail
              go_ret
              exact ⟨rfl, HB9.out.trans (HB2.mono HB9.out.size)⟩
            · have g2 : decide (a ≤ prev) = false := decide_eq_false hle
              have hnext : Hid (turnF xs a (day.drop (k + 1)) = r) := by show _ = _; rw [← hst2.out, decide_eq_true (show prev < a by omega), Bool.true_and]
              clear hst2
              go_wp2_with fail
              have HQ : ∀ W, Free.Bel wr.drew W → Free.Bel w1 W := fun W hW => bt hB (Free.Bel.first hW)
              have hF : ∀ W, Free.Bel wr.drew W → (W.cell? ⟨w.heap.size, 0, none⟩ = some (.int .i64 h) ∧ W.cell? ⟨w.heap.size, 1, none⟩ = some (.slice p xs.length cp) ∧ W.cell? ⟨b, off + k, none⟩ = some (.int .i64 a) ∧ W.cell? ⟨b, off + j, none⟩ = some (.int .i64 prev)) ∧ Below w.heap.size w W := fun W hW => ⟨⟨(FA W (HQ W hW)).1, (FA W (HQ W hW)).2, keepsB (Free.Bel.first hW) e1, keepsB (Free.Bel.first hW) e2⟩, hww.trans ((Free.Bel.first hW).mono hww.size)⟩
              refine Free.wp_free (R := Free.Bel) (by kernel_rfl) (by kernel_rfl) Free.Bel.refl Free.Bel.trans ?_
              refine Free.Chain.ex ?_ [] [2] (by kernel_rfl) (by kernel_rfl) rfl Free.Bel.refl ?_ ?_
              rotate_left 2
              simp only [an1, an2]
              refine Free.Chain.ex ?_ [] [1] (by kernel_rfl) (by kernel_rfl) rfl Free.Bel.refl ?_ ?_
              rotate_left 2
              simp only [an1, an2]
              refine Free.Chain.ex ?_ [] [5] (by kernel_rfl) (by kernel_rfl) rfl Free.Bel.refl ?_ ?_
              rotate_left 2
              simp only [an1, an2]
              refine Free.Chain.ex ?_ [(1, 18), (2, 19)] [] (by kernel_rfl) (by kernel_rfl) rfl Free.Bel.refl ?_ ?_
              rotate_left 2
              simp only [an1, an2]
              refine Free.Chain.ex ?_ [(3, 20)] [] (by kernel_rfl) (by kernel_rfl) rfl Free.Bel.refl ?_ ?_
              rotate_left 2
              simp only [an1, an2]
              rotate_left
              iterate 5 (rotate_left; intro ev W hb hR hO hD; have hS := hF W hR; obtain ⟨hb1, hb2, hb3⟩ := hb; simp only [Free.AllDeps, Free.AllOuts, Free.At, al1, al2, al3, al4, al5, and_true] at hO hD; go_simp; rfl)
              refine Free.Chain.pr (fun v _ => v = .int .i64 r0) [(0, 17), (4, 21)] [] (by kernel_rfl) (by kernel_rfl) rfl (fun _ _ _ _ h => h) ?_ ?_
              · (intro ev W hb hR hO hD; have hS := hF W hR; obtain ⟨hb1, hb2, hb3⟩ := hb; simp only [Free.AllDeps, Free.AllOuts, Free.At, al1, al2, al3, al4, al5, and_true] at hO hD; obtain ⟨hS, hS2⟩ := hS; go_simp; refine yields_enter ?_; (with_reducible refine (rickR_v h a xs _ _ (HU.out.keeps hS2) r0 HR).mono ?_); rintro e W2 ⟨rfl, hB2⟩; exact ⟨_, rfl, hB2, rfl⟩)
              simp only [an1, an2]
              refine Free.Chain.ex ?_ [(5, 22)] [] (by kernel_rfl) (by kernel_rfl) rfl Free.Bel.refl ?_ ?_
              rotate_left 2
              simp only [an1, an2]
              refine Free.Chain.ex ?_ [(6, 23), (5, 22)] [] (by kernel_rfl) (by kernel_rfl) rfl Free.Bel.refl ?_ ?_
              rotate_left 2
              simp only [an1, an2]
              rotate_left
              iterate 2 (rotate_left; intro ev W hb hR hO hD; have hS := hF W hR; obtain ⟨hb1, hb2, hb3⟩ := hb; simp only [Free.AllDeps, Free.AllOuts, Free.At, al1, al2, al3, al4, al5, and_true] at hO hD; go_simp; rfl)
              refine Free.Chain.exG ?_ [(7, 24)] [5] 7 false 24 (by kernel_rfl) (by kernel_rfl) rfl (by kernel_rfl) Free.Bel.refl ?_ ?_
              rotate_left 2
              simp only [an1, an2]
              refine Free.Chain.exG ?_ [(8, 25), (7, 24)] [] 7 false 24 (by kernel_rfl) (by kernel_rfl) rfl (by kernel_rfl) Free.Bel.refl ?_ ?_
              rotate_left 2
              simp only [an1, an2]
              refine Free.Chain.exG ?_ [(9, 26), (7, 24), (7, 24)] [] 7 false 24 (by kernel_rfl) (by kernel_rfl) rfl (by kernel_rfl) Free.Bel.refl ?_ ?_
              rotate_left 2
              simp only [an1, an2]
              refine Free.Chain.exG ?_ [(10, 27)] [1] 10 true 27 (by kernel_rfl) (by kernel_rfl) rfl (by kernel_rfl) Free.Bel.refl ?_ ?_
              rotate_left 2
              simp only [an1, an2]
              refine Free.Chain.exG ?_ [(10, 27)] [5] 10 true 27 (by kernel_rfl) (by kernel_rfl) rfl (by kernel_rfl) Free.Bel.refl ?_ ?_
              rotate_left 2
              simp only [an1, an2]
              refine Free.Chain.exG ?_ [(12, 29), (10, 27)] [] 10 true 27 (by kernel_rfl) (by kernel_rfl) rfl (by kernel_rfl) Free.Bel.refl ?_ ?_
              rotate_left 2
              simp only [an1, an2]
              refine Free.Chain.exG ?_ [(11, 28), (13, 30), (10, 27)] [] 10 true 27 (by kernel_rfl) (by kernel_rfl) rfl (by kernel_rfl) Free.Bel.refl ?_ ?_
              rotate_left 2
              simp only [an1, an2]
              refine Free.Chain.exG ?_ [(14, 31), (10, 27)] [] 10 true 27 (by kernel_rfl) (by kernel_rfl) rfl (by kernel_rfl) Free.Bel.refl ?_ ?_
              rotate_left 2
              simp only [an1, an2]
              refine Free.Chain.exG ?_ [(10, 27)] [1] 10 true 27 (by kernel_rfl) (by kernel_rfl) rfl (by kernel_rfl) Free.Bel.refl ?_ ?_
              rotate_left 2
              simp only [an1, an2]
              refine Free.Chain.exG ?_ [(10, 27)] [5] 10 true 27 (by kernel_rfl) (by kernel_rfl) rfl (by kernel_rfl) Free.Bel.refl ?_ ?_
              rotate_left 2
              simp only [an1, an2]
              refine Free.Chain.exG ?_ [(16, 33), (17, 34), (10, 27)] [] 10 true 27 (by kernel_rfl) (by kernel_rfl) rfl (by kernel_rfl) Free.Bel.refl ?_ ?_
              rotate_left 2
              simp only [an1, an2]
              refine Free.Chain.exG ?_ [(18, 35), (10, 27)] [] 10 true 27 (by kernel_rfl) (by kernel_rfl) rfl (by kernel_rfl) Free.Bel.refl ?_ ?_
              rotate_left 2
              simp only [an1, an2]
              refine Free.Chain.exG ?_ [(15, 32), (19, 36), (10, 27)] [] 10 true 27 (by kernel_rfl) (by kernel_rfl) rfl (by kernel_rfl) Free.Bel.refl ?_ ?_
              rotate_left 2
              simp only [an1, an2]
              refine Free.Chain.exG ?_ [(10, 27), (20, 37), (7, 24)] [] 7 false 24 (by kernel_rfl) (by kernel_rfl) rfl (by kernel_rfl) Free.Bel.refl ?_ ?_
              rotate_left 2
              simp only [an1, an2]
              rotate_left
              iterate 14 (rotate_left; intro ev W hb hR hO hD; have hS := hF W hR; obtain ⟨hb1, hb2, hb3⟩ := hb; simp only [Free.AllDeps, Free.AllOuts, Free.At, al1, al2, al3, al4, al5, and_true] at hO hD; refine ⟨by simp [hD], ?_⟩; go_simp; rfl)
              refine Free.Chain.ex ?_ [(7, 24), (21, 38)] [] (by kernel_rfl) (by kernel_rfl) rfl Free.Bel.refl ?_ ?_
              rotate_left 2
              simp only [an1, an2]
              rotate_left
              rotate_left
              · (intro ev W hb hR hO hD; have hS := hF W hR; obtain ⟨hb1, hb2, hb3⟩ := hb; simp only [Free.AllDeps, Free.AllOuts, Free.At, al1, al2, al3, al4, al5, and_true] at hO hD; go_simp; rfl)
              intro xs w' hR hV
              simp only [Free.AllV, Free.At, List.length_cons, List.length_nil, Nat.reduceAdd, List.getElem?_cons_succ, List.getElem?_cons_zero, true_and] at hV
              simp only [Free.putsFrom, Act.put, Nat.zero_add, Nat.reduceAdd, hV, List.setIfInBounds_toArray, List.set_cons_succ, List.set_cons_zero]
              have HB2 : Free.Bel w1 w' := HQ w' hR
              clear hR hV hF HQ
              go_wp2_with fail
              go_roundw
              case rel => exact ⟨k + 1, a, by omega, by go_num, hnext, (fun h => by omega), HPN, HB2⟩
              case measure => simp [intOf]; omega
      · obtain rfl : k = day.length := by omega
        obtain rfl : r = true := by rw [← hrest.out, List.drop_length]; rfl
        go_wp2_with fail
        go_ret
        exact ⟨rfl, hww⟩
  · have k4 : decide (h < (day.length : Int)) = true := decide_eq_true (by omega)
    obtain rfl : r = false := by rw [← hr.out, turnB, decide_eq_false hl, Bool.false_and]
    go_enter Tryd.func58, Tryd.ntmps58
    go_wp2_with fail
    go_ret
    exact ⟨rfl, hB0⟩

set_option maxRecDepth 100000 in
set_option maxHeartbeats 4000000 in
theorem validR_v (h : Int) (xs : List (Int × Int × Int)) (ds : List (List Int)) (u v : Value) (w : World) (hu : RL xs u w) (hv : DL ds v w) (hpos : ∀ x ∈ xs, 1 ≤ x.1) (r : Bool) (hr : Hid (validB h xs ds = r)) :
    Calls Tryd.prog 57 #[.agg #[.int .i64 h, u], v] w fun e w' => e = .returned (.bool r) ∧ Below w.heap.size w w' := by
  have HU := Lib.hid hu
  obtain ⟨p, cp, rfl, _, _⟩ := hu
  obtain ⟨q, cq, rfl, hm, hq⟩ := hv
  unfold maxLen at hm
  have HC := Lib.hid hq
  have HPOS := Lib.hid hpos
  clear hq hpos
  have hB0 : Below w.heap.size w (w.alloc (.cells #[.int .i64 h, .slice p xs.length cp] 24)) := (Below.refl _ w).alloc (Nat.le_refl _) _
  have n0 : (w.alloc (.cells #[.int .i64 h, .slice p xs.length cp] 24)).cell? ⟨w.heap.size, 0, none⟩ = some (.int .i64 h) := by simp [go_sem]
  have n1 : (w.alloc (.cells #[.int .i64 h, .slice p xs.length cp] 24)).cell? ⟨w.heap.size, 1, none⟩ = some (.slice p xs.length cp) := by simp [go_sem]
  have FA : ∀ W, Free.Bel (w.alloc (.cells #[.int .i64 h, .slice p xs.length cp] 24)) W → W.cell? ⟨w.heap.size, 0, none⟩ = some (.int .i64 h) ∧ W.cell? ⟨w.heap.size, 1, none⟩ = some (.slice p xs.length cp) := fun W hW => ⟨keepsB hW n0, keepsB hW n1⟩
  clear n0 n1
  by_cases hl : ds.length ≤ 60
  · have k4 : decide (60 < (ds.length : Int)) = false := decide_eq_false (by omega)
    have hr2 : Hid (ds.all (turnB h xs) = r) := by show _ = _; rw [← hr.out, validB, decide_eq_true hl, Bool.true_and]
    clear hr
    go_enter Tryd.func57, Tryd.ntmps57
    go_wp2_with fail
    have HB9 := Lib.hid hB0
    clear hB0 k4
    generalize (w.alloc (.cells #[.int .i64 h, .slice p xs.length cp] 24)) = w1 at *
    go_loopw [12, 6] (fun i _ wr => ∃ k : Nat, k ≤ ds.length ∧ i = .int .i64 k ∧ Hid ((ds.drop k).all (turnB h xs) = r) ∧ Free.Bel w1 wr) (fun i _ _ => ds.length - (intOf i).toNat)
    case atStart => exact ⟨0, Nat.zero_le _, rfl, hr2, Free.Bel.refl _⟩
    case round =>
      obtain ⟨k, hk, rfl, hrest, hB⟩ := hrel
      have hww : Below w.heap.size w wr := HB9.out.trans (hB.mono HB9.out.size)
      by_cases hlt : k < ds.length
      · have hx : ds ≠ [] := by intro e; simp [e] at hlt
        obtain ⟨b, off, rfl, hcp⟩ := HC.out hx
        obtain ⟨u1, d1, i1⟩ := hcp k hlt
        have e1 := keepsB hww d1
        have HI := Lib.hid (i1.keeps hww)
        have hklt : (k : Int) < ds.length := by omega
        have hst : Hid ((turnB h xs ds[k] && (ds.drop (k + 1)).all (turnB h xs)) = r) := by
          show _ = _
          rw [← hrest.out, List.drop_eq_getElem_cons hlt]; rfl
        obtain ⟨r0, hr0⟩ : ∃ r0, turnB h xs ds[k] = r0 := ⟨_, rfl⟩
        have HR : Hid (turnB h xs ds[k] = r0) := hr0
        rw [hr0] at hst
        clear hcp hx hrest d1 i1 hr0
        generalize ds[k] = day at *
        cases r0
        · obtain rfl : r = false := by rw [← hst.out, Bool.false_and]
          go_wp2_with fail
          refine (turnR_v h xs day _ _ _ (HU.out.keeps hww) HI.out HPOS.out false HR).mono ?_
          rintro e w2 ⟨rfl, hB2⟩
          go_wp2_with fail
          go_ret
          exact ⟨rfl, hww.trans (hB2.mono hww.size)⟩
        · have hnext : Hid ((ds.drop (k + 1)).all (turnB h xs) = r) := by show _ = _; rw [← hst.out, Bool.true_and]
          go_wp2_with fail
          refine (turnR_v h xs day _ _ _ (HU.out.keeps hww) HI.out HPOS.out true HR).mono ?_
          rintro e w2 ⟨rfl, hB2⟩
          go_wp2_with fail
          go_roundw
          case rel => exact ⟨k + 1, by omega, by go_num, hnext, bt hB hB2⟩
          case measure => simp [intOf]; omega
      · obtain rfl : k = ds.length := by omega
        obtain rfl : r = true := by rw [← hrest.out, List.drop_length]; rfl
        go_wp2_with fail
        go_ret
        exact ⟨rfl, hww⟩
  · have k4 : decide (60 < (ds.length : Int)) = true := decide_eq_true (by omega)
    obtain rfl : r = false := by rw [← hr.out, validB, decide_eq_false hl, Bool.false_and]
    go_enter Tryd.func57, Tryd.ntmps57
    go_wp2_with fail
    go_ret
    exact ⟨rfl, hB0⟩
end Go.Proofs.YtknpglgpkkhhiaaDoor

/- Two numbers and two chances without an error. -/
namespace Go.Proofs.YtknpglgpkkhhiaaDoor
set_option linter.unusedSimpArgs false
set_option linter.unusedVariables false
open Go.RowKit

theorem riskedE_zero {lo hi g b sn sd bn bd : Int} (h : riskedE lo hi g b sn sd bn bd = 0) : (lo ≤ g ∧ g ≤ hi) ∧ (lo ≤ b ∧ b ≤ hi) ∧ g < b ∧ givenB sn sd = true ∧ givenB bn bd = true := by
  unfold riskedE at h
  have h2 : inB lo hi [g, b] = true := by
    cases hm : inB lo hi [g, b]
    · rw [hm] at h; simp [firstE, unlessV] at h
    · rfl
  have h3 : ([(sn, sd), (bn, bd)].all fun x => givenB x.1 x.2) = true := by
    cases hm : ([(sn, sd), (bn, bd)].all fun x => givenB x.1 x.2)
    · rw [h2, hm] at h; simp [firstE, unlessV] at h
    · rfl
  have h4 : decide (g < b) = true := by
    cases hm : decide (g < b)
    · rw [h2, h3, hm] at h; simp [firstE, unlessV] at h
    · rfl
  simp [inB] at h2
  simp at h3 h4
  exact ⟨by omega, by omega, h4, h3.1, h3.2⟩
theorem Kept.below_of {B mb : Nat} {a w w' : World} (h : Kept mb w w') (h0 : Below B a w) (hm : B ≤ mb) (hs : B ≤ w.heap.size) : Below B a w' :=
  ⟨h.os.trans h0.os, h.tape.trans h0.tape, h.output.trans h0.output, Nat.le_trans h0.size h.size, fun k hk => (h.block k (by omega) (by omega)).trans (h0.block k hk)⟩

end Go.Proofs.YtknpglgpkkhhiaaDoor

/- Rules: Good, and the reference's. -/
namespace Go.Proofs.YtknpglgpkkhhiaaDoor
set_option linter.unusedSimpArgs false
set_option linter.unusedVariables false
open Go.RowKit Go.Proofs.YtknpglgpkkhhiaaDoor.ML Go.Proofs.YtknpglgpkkhhiaaDoor.Samp

/-- The error of a rule, of two numbers and of two chances. -/
def goodE (N lo hi g b o a sn sd bn bd : Int) : Int := firstE [unlessV (drawB N o a) 13, riskedE lo hi g b sn sd bn bd]

end Go.Proofs.YtknpglgpkkhhiaaDoor

/- Rules: Curve. -/
namespace Go.Proofs.YtknpglgpkkhhiaaDoor
set_option linter.unusedSimpArgs false
set_option linter.unusedVariables false
open Go.RowKit Go.Proofs.YtknpglgpkkhhiaaDoor.ML Go.Proofs.YtknpglgpkkhhiaaDoor.Samp

/-- The chance that a rule accepts, as two numbers. -/
def partP (N D o f : Int) : Int × Int := (((lowest (mostI N D o f).toNat (chI N o).toNat).1 : Nat), ((lowest (mostI N D o f).toNat (chI N o).toNat).2 : Nat))
theorem partP_eq (N D o f : Int) : mostV N D o f = encP (partP N D o f) := rfl
theorem partP_val {N D o f p q : Int} (h : partP N D o f = (p, q)) : mostV N D o f = .agg #[.int .i64 p, .int .i64 q] := by rw [partP_eq, h]; rfl
/-- The chances of the first k numbers of dirty bags from lo on. -/
def curveL (N lo o f : Int) (k : Nat) : List (Int × Int) := (List.range k).map fun (i : Nat) => partP N (lo + i) o f
def cellsP (xs : List (Int × Int)) : List Value := xs.flatMap fun x => [.int .i64 x.1, .int .i64 x.2]
theorem T.infoPart : (Tryd.prog.info? 51).map (fun i => (i.zero, i.size, i.bytes)) = some (some (.agg #[.int .i64 0, .int .i64 0]), 2, 16) := by kernel_rfl
theorem curveL_succ (N lo o f : Int) (k : Nat) : curveL N lo o f (k + 1) = curveL N lo o f k ++ [partP N (lo + k) o f] := by simp [curveL, List.range_succ]
theorem cellsP_append (xs ys : List (Int × Int)) : cellsP (xs ++ ys) = cellsP xs ++ cellsP ys := by simp [cellsP]
theorem cellsP_length (xs : List (Int × Int)) : (cellsP xs).length = xs.length * 2 := by
  induction xs with
  | nil => rfl
  | cons x r ih => simp only [cellsP, List.flatMap_cons, List.length_append, List.length_cons, List.length_nil] at ih ⊢; rw [ih]; omega
theorem cellsP_get (xs : List (Int × Int)) (k : Nat) (h : k < xs.length) : (cellsP xs)[k * 2]? = some (.int .i64 xs[k].1) ∧ (cellsP xs)[k * 2 + 1]? = some (.int .i64 xs[k].2) := by
  induction xs generalizing k with
  | nil => simp at h
  | cons x r ih =>
    cases k with
    | zero => simp [cellsP]
    | succ k =>
      have := ih k (by simpa using h)
      have e : cellsP (x :: r) = .int .i64 x.1 :: .int .i64 x.2 :: cellsP r := by simp [cellsP]
      rw [e, show (k + 1) * 2 = k * 2 + 1 + 1 by omega]
      simpa using this
/-- An owned row is a slice of fractions. -/
theorem PL.of_row {base : Nat} {e : TypeId} {v : Value} {n : Nat} {xs : List (Int × Int)} {w : World} (hn : xs.length = n) (hm : n ≤ maxLen) (h : w.ownsRow base e 2 v n (cellsP xs)) : PL xs v w := by
  subst hn
  rcases h.2 with ⟨rfl, h0⟩ | ⟨g, cap, cur, rfl, _, hg, _, _, _, ht⟩
  · have : xs = [] := List.eq_nil_of_length_eq_zero h0
    subst this
    exact PL.nil w
  · refine ⟨_, cap, rfl, hm, fun _ => ⟨g, 0, rfl, fun k hk => ?_⟩⟩
    have hc := h.cells (g := g) rfl
    obtain ⟨c1, c2⟩ := cellsP_get xs k hk
    have a1 := hc _ _ c1
    have a2 := hc _ _ c2
    simp only [Addr.add] at a1 a2
    refine ⟨?_, by simpa using a2⟩
    by_cases h0 : k = 0
    · subst h0; simpa using a1
    · rw [if_neg (by omega)] at a1; simpa using a1

end Go.Proofs.YtknpglgpkkhhiaaDoor

/- A rick more: where it stands. -/
namespace Go.Proofs.YtknpglgpkkhhiaaDoor
set_option linter.unusedSimpArgs false
set_option linter.unusedVariables false
open Go.RowKit

/-- Ahead of the first that is greater. -/
def insP (x : Rk) : List Rk → List Rk
  | [] => [x]
  | y :: r => if x.1 < y.1 then x :: y :: r else y :: insP x r
/-- Behind those that are less. -/
def insR (x : Rk) : List Rk → List Rk
  | [] => [x]
  | y :: r => if y.1 < x.1 then y :: insR x r else x :: y :: r
theorem insP_perm (x : Rk) : ∀ xs : List Rk, (insP x xs).Perm (x :: xs)
  | [] => .refl _
  | y :: r => by
    unfold insP
    split
    · exact .refl _
    · exact ((insP_perm x r).cons y).trans (.swap x y r)
theorem insR_perm (x : Rk) : ∀ xs : List Rk, (insR x xs).Perm (x :: xs)
  | [] => .refl _
  | y :: r => by
    unfold insR
    split
    · exact ((insR_perm x r).cons y).trans (.swap x y r)
    · exact .refl _
theorem ins_same (x : Rk) : ∀ xs : List Rk, (∀ y ∈ xs, y.1 ≠ x.1) → insP x xs = insR x xs
  | [], _ => rfl
  | y :: r, h => by
    have h0 := h y (by simp)
    unfold insP insR
    by_cases hlt : x.1 < y.1
    · rw [if_pos hlt, if_neg (by omega)]
    · rw [if_neg hlt, if_pos (by omega), ins_same x r fun y hy => h y (by simp [hy])]
theorem risesB_nodup {last : Int} {xs : List Rk} (h : risesB last xs = true) : (∀ x ∈ xs, last < x.1) ∧ (xs.map (·.1)).Nodup := by
  induction xs generalizing last with
  | nil => simp
  | cons y r ih =>
    simp only [risesB, inB, List.all_cons, List.all_nil, Bool.and_true, Bool.and_eq_true, decide_eq_true_eq] at h
    obtain ⟨⟨h1, _⟩, _, _, h7⟩ := h
    obtain ⟨g1, g2⟩ := ih h7
    refine ⟨fun x hx => ?_, ?_⟩
    · rcases List.mem_cons.1 hx with rfl | hx
      · omega
      · have := g1 x hx; omega
    · rw [List.map_cons, List.nodup_cons]
      refine ⟨fun hm => ?_, g2⟩
      obtain ⟨z, hz, he⟩ := List.mem_map.1 hm
      have := g1 z hz
      omega
theorem ins_watch {h : Int} {x : Rk} {xs : List Rk} : watchB h (insP x xs) = watchB h (insR x xs) ∧ (watchB h (insP x xs) = true → insP x xs = insR x xs) := by
  by_cases hn : ∀ y ∈ xs, y.1 ≠ x.1
  · have := ins_same x xs hn
    exact ⟨by rw [this], fun _ => this⟩
  · have hd : ∀ zs : List Rk, zs.Perm (x :: xs) → watchB h zs = false := by
      intro zs hp
      cases hw : watchB h zs
      · rfl
      · exfalso
        have h1 := (risesB_nodup (watchB_iff.1 hw).2.2).2
        have h2 := ((hp.map (·.1)).nodup_iff).1 h1
        rw [List.map_cons, List.nodup_cons] at h2
        refine hn fun y hy he => h2.1 ?_
        rw [← he]
        exact List.mem_map.2 ⟨y, hy, rfl⟩
    rw [hd _ (insP_perm x xs), hd _ (insR_perm x xs)]
    exact ⟨rfl, fun h => by cases h⟩
/-- Where the reference puts it. -/
theorem insR_split (x : Rk) : ∀ (xs : List Rk) (k : Nat), k ≤ xs.length → (∀ j (hj : j < xs.length), j < k → xs[j].1 < x.1) → (∀ hk : k < xs.length, ¬ xs[k].1 < x.1) → insR x xs = xs.take k ++ x :: xs.drop k
  | [], k, _, _, _ => by simp [insR]
  | y :: r, 0, _, _, h => by
    have := h (by simp)
    simp only [List.getElem_cons_zero] at this
    simp [insR, this]
  | y :: r, k + 1, hk, h1, h2 => by
    have h0 := h1 0 (by simp) (by omega)
    simp only [List.getElem_cons_zero] at h0
    rw [insR, if_pos h0, insR_split x r k (by simpa using hk) (fun j hj hjk => h1 (j + 1) (Nat.succ_lt_succ hj) (by omega)) (fun hk' => h2 (Nat.succ_lt_succ hk'))]
    simp
theorem insP_split (x : Rk) : ∀ (xs : List Rk) (k : Nat), k ≤ xs.length → (∀ j (hj : j < xs.length), j < k → ¬ x.1 < xs[j].1) → (∀ hk : k < xs.length, x.1 < xs[k].1) → insP x xs = xs.take k ++ x :: xs.drop k
  | [], k, _, _, _ => by simp [insP]
  | y :: r, 0, _, _, h => by
    have := h (by simp)
    simp only [List.getElem_cons_zero] at this
    simp [insP, this]
  | y :: r, k + 1, hk, h1, h2 => by
    have h0 := h1 0 (by simp) (by omega)
    simp only [List.getElem_cons_zero] at h0
    rw [insP, if_neg h0, insP_split x r k (by simpa using hk) (fun j hj hjk => h1 (j + 1) (Nat.succ_lt_succ hj) (by omega)) (fun hk' => h2 (Nat.succ_lt_succ hk'))]
    simp
end Go.Proofs.YtknpglgpkkhhiaaDoor

