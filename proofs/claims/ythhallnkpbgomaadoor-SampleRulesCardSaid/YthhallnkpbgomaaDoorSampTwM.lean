/- Double rules: what is summed, and its bounds. No function of the program is walked here. -/
import Derived.Test.YthhallnkpbgomaaDoorSampRef
namespace Go.Proofs.YthhallnkpbgomaaDoor
set_option linter.unusedSimpArgs false
set_option linter.unusedVariables false
open Go.RowKit Go.Proofs.YthhallnkpbgomaaDoor.ML Go.Proofs.YthhallnkpbgomaaDoor.Samp

theorem nCk_three : ∀ n a : Nat, a ≤ n → nCk n a * 2 ^ (n - a) ≤ 3 ^ n
  | n, 0, _ => by rw [nCk_zero, Nat.one_mul, Nat.sub_zero]; exact Nat.pow_le_pow_left (by omega) n
  | 0, a + 1, h => by omega
  | n + 1, a + 1, h => by
    have h1 := nCk_three n a (by omega)
    rw [nCk_succ, Nat.add_sub_add_right, Nat.add_mul, Nat.pow_succ]
    by_cases h2 : a + 1 ≤ n
    · have h3 := nCk_three n (a + 1) h2
      have h4 : 2 ^ (n - a) = 2 ^ (n - (a + 1)) * 2 := by rw [← Nat.pow_succ]; congr 1; omega
      have h5 : nCk n (a + 1) * 2 ^ (n - a) = nCk n (a + 1) * 2 ^ (n - (a + 1)) * 2 := by rw [h4, Nat.mul_assoc]
      omega
    · rw [nCk_gt n (a + 1) (by omega)]
      omega
theorem chI_three (N F S : Int) (hN : N ≤ 36) (h0 : 0 ≤ F) (h1 : F ≤ N) : chI N F * chI (N - F) S ≤ 150094635296999121 := by
  obtain ⟨n, rfl⟩ := Int.eq_ofNat_of_zero_le (Int.le_trans h0 h1)
  obtain ⟨a, rfl⟩ := Int.eq_ofNat_of_zero_le h0
  obtain ⟨b0, b1⟩ := chI_pow ((n : Int) - a) S (by omega)
  have e : ((n : Int) - a).toNat = n - a := by omega
  rw [e] at b1
  have h3 := nCk_three n a (by omega)
  have h4 : (3 : Nat) ^ n ≤ 3 ^ 36 := Nat.pow_le_pow_right (by omega) (by omega)
  have h5 : (3 : Nat) ^ 36 = 150094635296999121 := by decide
  have h6 : chI (n : Int) (a : Int) = (nCk n a : Nat) := chI_nat n a
  rw [h6]
  have h7 : ((nCk n a : Nat) : Int) * chI ((n : Int) - a) S ≤ ((nCk n a : Nat) : Int) * ((2 ^ (n - a) : Nat) : Int) := Int.mul_le_mul_of_nonneg_left b1 (by omega)
  have h8 : ((nCk n a : Nat) : Int) * ((2 ^ (n - a) : Nat) : Int) = ((nCk n a * 2 ^ (n - a) : Nat) : Int) := by simp
  omega
theorem chI_ne (n k : Int) (h : chI n k ≠ 0) : k = 0 ∨ (0 ≤ k ∧ k ≤ n) := by
  unfold chI at h
  split at h
  · exact .inl ‹_›
  · split at h
    · exact absurd rfl h
    · exact .inr (by omega)
theorem ways_ne (N D F : Int) (k : Nat) (h0 : 0 ≤ D) (h1 : D ≤ N) (h : waysI N D F k ≠ 0) : (k : Int) ≤ D ∧ (k : Int) ≤ F ∧ F - k ≤ N - D := by
  unfold waysI at h
  have ha : chI D k ≠ 0 := fun e => h (by rw [e, Int.zero_mul])
  have hb : chI (N - D) (F - k) ≠ 0 := fun e => h (by rw [e, Int.mul_zero])
  rcases chI_ne _ _ ha with a | a <;> rcases chI_ne _ _ hb with b | b <;> omega
theorem waysI_cut (N D o : Int) (k : Nat) (h : o < k) : waysI N D o k = 0 := by
  unfold waysI
  rw [chI_out (N - D) (o - k) (by omega) (by omega), Int.mul_zero]
theorem fewI_cut (N D o : Int) : ∀ n : Nat, fewI N D o n = fewI N D o (min n (o + 1).toNat)
  | 0 => by simp
  | n + 1 => by
    rw [fewI_succ, fewI_cut N D o n]
    by_cases h : (n : Int) ≤ o
    · rw [show min (n + 1) (o + 1).toNat = n + 1 by omega, show min n (o + 1).toNat = n by omega, fewI_succ]
    · rw [show min (n + 1) (o + 1).toNat = (o + 1).toNat by omega, show min n (o + 1).toNat = (o + 1).toNat by omega, waysI_cut N D o n (by omega)]
      omega
theorem waysI_natT (N D o k : Nat) (hD : D ≤ N) (hk : k ≤ o) : waysI N D o k = (Samp.ways D (N - D) o k : Nat) := by
  unfold waysI Samp.ways
  rw [if_pos hk, show ((N : Int) - D) = ((N - D : Nat) : Int) by omega, show ((o : Int) - k) = ((o - k : Nat) : Int) by omega, chI_nat, chI_nat]
  simp
theorem fewI_nat (N D o : Nat) (hD : D ≤ N) : ∀ n : Nat, n ≤ o + 1 → fewI N D o n = (sumTo (Samp.ways D (N - D) o) n : Nat)
  | 0, _ => by simp [fewI, midI, sumTo]
  | n + 1, h => by
    rw [fewI_succ, fewI_nat N D o hD n (by omega), waysI_natT N D o n hD (by omega)]
    simp [sumTo]
/-- Together they are all sets. -/
theorem fewI_all (N D o : Int) (h0 : 0 ≤ D) (h1 : D ≤ N) (ho : 0 ≤ o) : fewI N D o (o + 1).toNat = chI N o := by
  obtain ⟨n, rfl⟩ := Int.eq_ofNat_of_zero_le (Int.le_trans h0 h1)
  obtain ⟨d, rfl⟩ := Int.eq_ofNat_of_zero_le h0
  obtain ⟨p, rfl⟩ := Int.eq_ofNat_of_zero_le ho
  have := fewI_nat n d p (by omega) (p + 1) (Nat.le_refl _)
  show fewI (n : Int) (d : Int) (p : Int) _ = chI (n : Int) (p : Int)
  rw [show ((p : Int) + 1).toNat = p + 1 by omega, this, ways_all, chI_nat, show d + (n - d) = n by omega]
theorem waysI_nonneg (N D o f : Int) (h0 : 0 ≤ D) (h1 : D ≤ N) : 0 ≤ waysI N D o f :=
  Int.mul_nonneg (chI_pow D f h0).1 (chI_pow (N - D) (o - f) (by omega)).1
theorem fewI_mono (N D o : Int) (h0 : 0 ≤ D) (h1 : D ≤ N) (m : Nat) : ∀ n : Nat, m ≤ n → fewI N D o m ≤ fewI N D o n
  | 0, h => by obtain rfl : m = 0 := by omega
               exact Int.le_refl _
  | n + 1, h => by
    by_cases e : m = n + 1
    · rw [e]; exact Int.le_refl _
    · have := fewI_mono N D o h0 h1 m n (by omega)
      have := waysI_nonneg N D o n h0 h1
      rw [fewI_succ]; omega
theorem fewI_le (N D o : Int) (h0 : 0 ≤ D) (h1 : D ≤ N) (ho : 0 ≤ o) (n : Nat) : 0 ≤ fewI N D o n ∧ fewI N D o n ≤ chI N o := by
  refine ⟨?_, ?_⟩
  · have := fewI_mono N D o h0 h1 0 n (Nat.zero_le _)
    simpa [fewI, midI] using this
  · rw [fewI_cut, ← fewI_all N D o h0 h1 ho]
    exact fewI_mono N D o h0 h1 _ _ (by omega)

/-- What the second bags add to the sets of the first, if k were found. -/
def restI (N D F A S T : Int) (k : Nat) : Int := if (k : Int) ≤ A then chI (N - F) S else fewI (N - F) (D - k) S (min S (T - k) + 1).toNat
def accI (N D F A S T : Int) : Nat → Int
  | 0 => 0
  | k + 1 => accI N D F A S T k + waysI N D F k * restI N D F A S T k
def againI (N D F A : Int) : Nat → Int
  | 0 => 0
  | k + 1 => againI N D F A k + if (k : Int) ≤ A then 0 else waysI N D F k
theorem restI_bound (N D F A S T : Int) (k : Nat) (h0 : 0 ≤ D) (h1 : D ≤ N) (hF : 0 ≤ F) (hF2 : F ≤ N) (hS : 0 ≤ S) (h : waysI N D F k ≠ 0) : 0 ≤ restI N D F A S T k ∧ restI N D F A S T k ≤ chI (N - F) S := by
  obtain ⟨a, b, c⟩ := ways_ne N D F k h0 h1 h
  unfold restI
  split
  · have := (chI_pow (N - F) S (by omega)).1; omega
  · exact fewI_le (N - F) (D - k) S (by omega) (by omega) hS _
theorem accI_step (N D F A S T : Int) (k : Nat) (h0 : 0 ≤ D) (h1 : D ≤ N) (hF : 0 ≤ F) (hF2 : F ≤ N) (hS : 0 ≤ S) : 0 ≤ waysI N D F k * restI N D F A S T k ∧ waysI N D F k * restI N D F A S T k ≤ waysI N D F k * chI (N - F) S := by
  by_cases h : waysI N D F k = 0
  · rw [h]; simp
  · obtain ⟨a, b⟩ := restI_bound N D F A S T k h0 h1 hF hF2 hS h
    have hw := waysI_nonneg N D F k h0 h1
    exact ⟨Int.mul_nonneg hw a, Int.mul_le_mul_of_nonneg_left b hw⟩
theorem accI_le (N D F A S T : Int) (h0 : 0 ≤ D) (h1 : D ≤ N) (hF : 0 ≤ F) (hF2 : F ≤ N) (hS : 0 ≤ S) : ∀ k : Nat, 0 ≤ accI N D F A S T k ∧ accI N D F A S T k ≤ fewI N D F k * chI (N - F) S
  | 0 => by simp [accI, fewI, midI]
  | k + 1 => by
    obtain ⟨a, b⟩ := accI_le N D F A S T h0 h1 hF hF2 hS k
    obtain ⟨c, d⟩ := accI_step N D F A S T k h0 h1 hF hF2 hS
    rw [accI, fewI_succ, Int.add_mul]
    omega
theorem againI_le (N D F A : Int) (h0 : 0 ≤ D) (h1 : D ≤ N) : ∀ k : Nat, 0 ≤ againI N D F A k ∧ againI N D F A k ≤ fewI N D F k
  | 0 => by simp [againI, fewI, midI]
  | k + 1 => by
    obtain ⟨a, b⟩ := againI_le N D F A h0 h1 k
    have := waysI_nonneg N D F k h0 h1
    rw [againI, fewI_succ]
    split <;> omega
/-- All bounds that the sums want. -/
theorem accI_bound (N D F A S T : Int) (hN : N ≤ 36) (h0 : 0 ≤ D) (h1 : D ≤ N) (hF : 0 ≤ F) (hF2 : F ≤ N) (hS : 0 ≤ S) (k : Nat) :
    0 ≤ accI N D F A S T k ∧ accI N D F A S T k ≤ 150094635296999121 := by
  obtain ⟨a, b⟩ := accI_le N D F A S T h0 h1 hF hF2 hS k
  have h2 := (fewI_le N D F h0 h1 hF k).2
  have h3 := chI_three N F S hN hF hF2
  have h4 : fewI N D F k * chI (N - F) S ≤ chI N F * chI (N - F) S := Int.mul_le_mul_of_nonneg_right h2 (chI_pow (N - F) S (by omega)).1
  omega
theorem againI_bound (N D F A : Int) (hN : N ≤ 36) (h0 : 0 ≤ D) (h1 : D ≤ N) (hF : 0 ≤ F) (k : Nat) : 0 ≤ againI N D F A k ∧ againI N D F A k ≤ 68719476736 := by
  obtain ⟨a, b⟩ := againI_le N D F A h0 h1 k
  have h2 := (fewI_le N D F h0 h1 hF k).2
  have h3 := (chI_bound N F hN).2
  omega
/-- Within a round: one of the second bags' ways more. -/
theorem inner_bound (N D F A S T : Int) (hN : N ≤ 36) (h0 : 0 ≤ D) (h1 : D ≤ N) (hF : 0 ≤ F) (hF2 : F ≤ N) (hS : 0 ≤ S) (k : Nat) (h : waysI N D F k ≠ 0) (m : Nat) :
    0 ≤ accI N D F A S T k + waysI N D F k * fewI (N - F) (D - k) S m ∧ accI N D F A S T k + waysI N D F k * fewI (N - F) (D - k) S m ≤ 150094635296999121 := by
  obtain ⟨a, b⟩ := accI_le N D F A S T h0 h1 hF hF2 hS k
  obtain ⟨x, y, z⟩ := ways_ne N D F k h0 h1 h
  obtain ⟨c, d⟩ := fewI_le (N - F) (D - k) S (by omega) (by omega) hS m
  have hw := waysI_nonneg N D F k h0 h1
  have e1 := Int.mul_nonneg hw c
  have e2 := Int.mul_le_mul_of_nonneg_left d hw
  have e3 : fewI N D F k * chI (N - F) S + waysI N D F k * chI (N - F) S = fewI N D F (k + 1) * chI (N - F) S := by rw [fewI_succ, Int.add_mul]
  have h2 := (fewI_le N D F h0 h1 hF (k + 1)).2
  have h3 := chI_three N F S hN hF hF2
  have h4 : fewI N D F (k + 1) * chI (N - F) S ≤ chI N F * chI (N - F) S := Int.mul_le_mul_of_nonneg_right h2 (chI_pow (N - F) S (by omega)).1
  omega
theorem accI_skip (N D F A S T : Int) (k : Nat) (h : waysI N D F k = 0) : accI N D F A S T (k + 1) = accI N D F A S T k ∧ againI N D F A (k + 1) = againI N D F A k := by
  simp [accI, againI, h]
/-- What a double rule does: the first chance. -/
def twiceV1 (N D F A R S T : Int) : Value := partV (accI N D F A S T R.toNat).toNat (chI N F * chI (N - F) S).toNat
/-- .. and how many it opens in the middle. -/
def twiceV2 (N D F A R S : Int) : Value := partV (F * chI N F + S * againI N D F A R.toNat).toNat (chI N F).toNat
end Go.Proofs.YthhallnkpbgomaaDoor
