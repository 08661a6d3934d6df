/- A slice that grows by an append in a region that draws its order. -/
import Derived.Test.YthhallnkpbgomaaDoorTwoLoc
import Derived.Deep.DeepAppendWide
namespace Go.Proofs.YthhallnkpbgomaaDoor
set_option linter.unusedSimpArgs false
set_option linter.unusedVariables false
open Go.RowKit Go.Proofs.YthhallnkpbgomaaDoor.Free2

section
variable {base mb i n size : Nat} {e : TypeId} {v0 : Value} {xs news : List Value} {X : XT} {w w' : World}
theorem ownsRow_kept {v : Value} (h : w.ownsRow base e size v n xs) (hK : Kept mb w w') (hm : mb < base) : w'.ownsRow base e size v n xs := by
  obtain ⟨h1, h2⟩ := h
  refine ⟨h1, h2.imp id ?_⟩
  rintro ⟨g, cap, cur, rfl, hb, hg, r⟩
  refine ⟨g, cap, cur, rfl, hb, ?_, r⟩
  rw [hK.block g ?_ (by omega)]
  · exact hg
  · by_cases hlt : g < w.heap.size
    · exact hlt
    · rw [Array.getElem?_eq_none (Nat.le_of_not_lt hlt)] at hg; cases hg
/-- Operation j makes a slice of one element, operation i appends it, operation m keeps what came of it. -/
structure J1 (base mb j i m : Nat) (e : TypeId) (size : Nat) (v0 : Value) (n : Nat) (xs news : List Value) (X : XT) (w : World) : Prop where
  first : X i = none → X m = none
  old : X i = none → w.ownsRow base e size v0 n xs
  now : ∀ v, X i = some v → w.ownsRow base e size v (n + 1) (xs ++ news)
  src : ∀ v, X j = some v → X i = none → ∃ b, v = .slice (some ⟨b, 0, none⟩) 1 1 ∧ b ≠ mb ∧ ∀ t u, news[t]? = some u → w.cell? ((⟨b, 0, none⟩ : Addr).add t) = some u
  same : ∀ v, X m = some v → X i = some v
theorem add_block (b t : Nat) : ((⟨b, 0, none⟩ : Addr).add t).block = b := by simp only [Addr.add]; split <;> rfl
theorem J1.start {j m : Nat} (h : w.ownsRow base e size v0 n xs) : J1 base mb j i m e size v0 n xs news (fun _ => none) w := ⟨fun _ => rfl, fun _ => h, (fun v hv => (by cases hv)), (fun v hv => (by cases hv)), fun v hv => (by cases hv)⟩
theorem J1.skip {j m : Nat} (h : J1 base mb j i m e size v0 n xs news X w) (k : Nat) (v : Value) (h1 : k ≠ i) (h2 : k ≠ j) (h3 : k ≠ m) : J1 base mb j i m e size v0 n xs news (upd X k v) w :=
  ⟨by rw [upd_other _ _ h1.symm, upd_other _ _ h3.symm]; exact h.first, by rw [upd_other _ _ h1.symm]; exact h.old, by rw [upd_other _ _ h1.symm]; exact h.now, by rw [upd_other _ _ h1.symm, upd_other _ _ h2.symm]; exact h.src, by rw [upd_other _ _ h1.symm, upd_other _ _ h3.symm]; exact h.same⟩
theorem J1.kept {j m : Nat} (h : J1 base mb j i m e size v0 n xs news X w) (hK : Kept mb w w') (hm : mb < base) : J1 base mb j i m e size v0 n xs news X w' :=
  ⟨h.first, fun hx => ownsRow_kept (h.old hx) hK hm, fun v hv => ownsRow_kept (h.now v hv) hK hm, fun v hv hx => by
    obtain ⟨b, h1, h2, h3⟩ := h.src v hv hx
    exact ⟨b, h1, h2, fun t u ht => hK.cell (h3 t u ht) (by rw [add_block]; exact h2)⟩, h.same⟩
theorem J1.made {j m b : Nat} (h : J1 base mb j i m e size v0 n xs news X w) (hij : i ≠ j) (hmj : m ≠ j) (hb : b ≠ mb) (hc : ∀ t u, news[t]? = some u → w.cell? ((⟨b, 0, none⟩ : Addr).add t) = some u) : J1 base mb j i m e size v0 n xs news (upd X j (.slice (some ⟨b, 0, none⟩) 1 1)) w :=
  ⟨by rw [upd_other _ _ hij, upd_other _ _ hmj]; exact h.first, by rw [upd_other _ _ hij]; exact h.old, by rw [upd_other _ _ hij]; exact h.now, fun v hv _ => (by rw [upd_same] at hv; cases hv; exact ⟨b, rfl, hb, hc⟩), by rw [upd_other _ _ hij, upd_other _ _ hmj]; exact h.same⟩
theorem J1.set {j m : Nat} {v : Value} (h : J1 base mb j i m e size v0 n xs news X w) (him : m ≠ i) (hx : X i = none) (hr : w'.ownsRow base e size v (n + 1) (xs ++ news)) : J1 base mb j i m e size v0 n xs news (upd X i v) w' :=
  ⟨fun hx => (by rw [upd_same] at hx; cases hx), fun hx => (by rw [upd_same] at hx; cases hx), fun u hu => (by rw [upd_same] at hu; cases hu; exact hr), fun u _ hx => (by rw [upd_same] at hx; cases hx), fun u hu => (by rw [upd_other _ _ him, h.first hx] at hu; cases hu)⟩
theorem J1.keep {j m : Nat} {v : Value} (h : J1 base mb j i m e size v0 n xs news X w) (him : i ≠ m) (hjm : j ≠ m) (hx : X i = some v) : J1 base mb j i m e size v0 n xs news (upd X m v) w :=
  ⟨fun h0 => (by rw [upd_other _ _ him, hx] at h0; cases h0), by rw [upd_other _ _ him]; exact h.old, by rw [upd_other _ _ him]; exact h.now, by rw [upd_other _ _ him, upd_other _ _ hjm]; exact h.src, fun u hu => (by rw [upd_same] at hu; cases hu; rw [upd_other _ _ him]; exact hx)⟩
theorem cells2_new (x y : Value) (t : TypeId) (w : World) : ∀ k u, [x, y][k]? = some u → (w.alloc (.cells #[x, y] t)).cell? ((⟨w.heap.size, 0, none⟩ : Addr).add k) = some u := by
  intro k u h
  match k, h with
  | 0, h => simp at h; subst h; simp [Addr.add, go_sem]
  | 1, h => simp at h; subst h; simp [Addr.add, go_sem]
/-- What the append leaves. -/
theorem KeptB.of_grown {v : Value} (hown : w.ownsRow base e size v n xs) (h : w.grownBy w' v.ownBlock) (hm : mb < base) (hb : base ≤ w.heap.size) : KeptB base mb w w' := by
  have hne : ∀ k, k < base → some k ≠ v.ownBlock := by
    intro k hk he
    rcases hown.2 with ⟨rfl, _⟩ | ⟨g, cap, cur, rfl, hbg, _⟩
    · simp [Value.ownBlock] at he
    · simp [Value.ownBlock] at he; omega
  refine ⟨h.os, h.tape, h.output, h.size, fun k hk _ => h.block k (by omega) (hne k hk), fun ⟨l, hl, hv⟩ => ⟨l, hl.of_block (h.block mb hl.lt (hne mb hm)), hv⟩⟩
end
end Go.Proofs.YthhallnkpbgomaaDoor
