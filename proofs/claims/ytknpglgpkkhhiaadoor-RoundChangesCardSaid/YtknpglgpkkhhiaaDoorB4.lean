/- The reference's Drop. -/
import Derived.Test.YtknpglgpkkhhiaaDoorB3
import Derived.Shelf.SlSortCmp.InsertionK
import Derived.Ground.SlsfProg
import Derived.Lib.SliceRun
import Derived.Laws.StructEq
import Derived.Shelf.RegionOpen
import Derived.Deep.RegionLaw
import Derived.Laws.OwnMore
namespace Go.Proofs.YtknpglgpkkhhiaaDoor
set_option linter.unusedSimpArgs false
set_option linter.unusedVariables false
open Go.RowKit Go.Proofs.YtknpglgpkkhhiaaDoor.Free2

/-- A slice's length is not above its room. -/
def Cap (v : Value) : Prop := ∀ p n c, v = .slice p n c → n ≤ c
theorem Cap.row {base : Nat} {e : TypeId} {size : Nat} {v : Value} {n : Nat} {xs : List Value} {w : World} (h : w.ownsRow base e size v n xs) : Cap v := by
  intro p m c he
  rcases h.2 with ⟨rfl, _⟩ | ⟨g, cap, cur, rfl, _, _, hn, _⟩
  · cases he; exact Nat.le_refl _
  · cases he; exact hn
set_option maxRecDepth 100000 in
theorem sizeRick (W : World) : (Go.sizeOf 47).run Tryd.prog W = .ok 3 W := by kernel_rfl
set_option maxRecDepth 100000 in
/-- The first k, and those from k on. -/
theorem slice_head (p : Option Addr) (n cp k : Nat) (h : k ≤ cp) (W : World) : (Instr.slice 22 (.slice p n cp) none (some (.int .i64 (k : Int))) none).run Tryd.prog W = .ok (.slice p k cp) W := by
  rw [run_slice_h W 22 p n cp Tryd.underlying22 .i64 k (by omega) (by omega)]
  have he : Tryd.prog.elem 22 = 47 := by kernel_rfl
  rw [he, sizeRick]
  cases p with
  | none => simp [Result.andThen, sliced]
  | some a => simp [Result.andThen, sliced, Addr.add]
def tailP (p : Option Addr) (cp k : Nat) : Option Addr := if cp = k then p else p.map (·.add (k * 3))
set_option maxRecDepth 100000 in
theorem slice_tail (p : Option Addr) (n cp k : Nat) (h : k ≤ n) (W : World) : (Instr.slice 22 (.slice p n cp) (some (.int .i64 (k : Int))) none none).run Tryd.prog W = .ok (.slice (tailP p cp k) (n - k) (cp - k)) W := by
  rw [run_slice_l W 22 p n cp Tryd.underlying22 .i64 k (by omega) (by omega)]
  have he : Tryd.prog.elem 22 = 47 := by kernel_rfl
  rw [he, sizeRick]
  simp [Result.andThen, sliced, tailP]

def dropE (h : Int) (xs : List Rk) (r : Int) : Int := if watchB h xs = false then 70 else if r < 0 then 6 else 0
def dropH (h : Int) (xs : List Rk) (r : Int) : Int := if dropE h xs r = 0 then h else 0
def dropL (h : Int) (xs : List Rk) (r : Int) : List Rk := if dropE h xs r = 0 then xs.take r.toNat ++ xs.drop (r.toNat + 1) else []
theorem tailP_some (a : Addr) (cp k : Nat) : tailP (some a) cp k ≠ none := by
  unfold tailP; split <;> simp
theorem cellsR_one' (xs : List Rk) : ∀ u ∈ cellsR xs, u.oneCell' = true := cellsR_one xs
theorem cells_part {xs : List Rk} {b off : Nat} {W : World} (h : ∀ k (hk : k < xs.length), W.cell? ⟨b, off + k * 3, none⟩ = some (.int .i64 xs[k].1) ∧ W.cell? ⟨b, off + k * 3 + 1, none⟩ = some (.int .i64 xs[k].2.1) ∧ W.cell? ⟨b, off + k * 3 + 2, none⟩ = some (.int .i64 xs[k].2.2)) (k : Nat) (hk : k ≤ xs.length) :
    (∀ j u, (cellsR (xs.take k))[j]? = some u → W.cell? ((⟨b, off, none⟩ : Addr).add j) = some u) ∧ (∀ j u, (cellsR (xs.drop k))[j]? = some u → W.cell? ((⟨b, off + k * 3, none⟩ : Addr).add j) = some u) := by
  refine ⟨cellsR_news fun i hi => ?_, cellsR_news fun i hi => ?_⟩
  · simp only [List.length_take] at hi
    have := h i (by omega)
    simpa using this
  · simp only [List.length_drop] at hi
    have := h (k + i) (by omega)
    rw [show off + k * 3 + i * 3 = off + (k + i) * 3 by omega]
    simpa using this

set_option maxRecDepth 100000 in
set_option maxHeartbeats 16000000 in
theorem dropR_v (h id : Int) (xs : List Rk) (u : Value) (w : World) (hu : RL xs u w) (hz : NZ u) (hcap : Cap u) (hn : xs.length ≤ 1000) (r : Int) (hr : Hid (RickIs xs id r)) (E Hh : Int) (hE : Hid (dropE h xs r = E)) (hHh : Hid (dropH h xs r = Hh)) :
    Calls Tryd.prog 46 #[.agg #[.int .i64 h, u], .int .i64 id] w fun e w' => (∃ v, e = .returned (.tuple #[.agg #[.int .i64 Hh, v], .int .i64 E]) ∧ RL (dropL h xs r) v w') ∧ Below w.heap.size w w' := by
  have HU := Lib.hid hu
  obtain ⟨p, cp, rfl, hm, hq⟩ := hu
  have hcp : Hid (xs.length ≤ cp) := hcap _ _ _ rfl
  have HQ := Lib.hid hq
  have HNZ := Lib.hid hz
  obtain ⟨i0, hi0, hz0, hz1, hz2⟩ := info_parts T.infoRick
  have HZ := Lib.hid (And.intro hi0 (And.intro hz0 (And.intro hz1 hz2)))
  clear hi0 hz0 hz1 hz2 hq hz hcap
  have KB : Free.Bel w ((w.alloc (.cells #[.int .i64 h, .slice p xs.length cp] 24)).alloc (.cells #[.int .i64 0, .slice none 0 0] 24)) := Bel.allocT (Bel.allocT (Free.Bel.refl _) _) _
  have m0 : ((w.alloc (.cells #[.int .i64 h, .slice p xs.length cp] 24)).alloc (.cells #[.int .i64 0, .slice none 0 0] 24)).heap[w.heap.size]? = some (.cells #[.int .i64 h, .slice p xs.length cp] 24 (0, 0)) := heap_old (World.alloc_heap_new w _)
  have m1 : ((w.alloc (.cells #[.int .i64 h, .slice p xs.length cp] 24)).alloc (.cells #[.int .i64 0, .slice none 0 0] 24)).heap[w.heap.size + 1]? = some (.cells #[.int .i64 0, .slice none 0 0] 24 (0, 0)) := by
    have := World.alloc_heap_new (w.alloc (.cells #[.int .i64 h, .slice p xs.length cp] 24)) (.cells #[.int .i64 0, .slice none 0 0] 24)
    simpa using this
  have FA : ∀ W, Free.Bel ((w.alloc (.cells #[.int .i64 h, .slice p xs.length cp] 24)).alloc (.cells #[.int .i64 0, .slice none 0 0] 24)) W → W.cell? ⟨w.heap.size, 0, none⟩ = some (.int .i64 h) ∧ W.cell? ⟨w.heap.size, 1, none⟩ = some (.slice p xs.length cp) ∧ W.cell? ⟨w.heap.size + 1, 0, none⟩ = some (.int .i64 0) ∧ W.cell? ⟨w.heap.size + 1, 1, none⟩ = some (.slice none 0 0) ∧ W.frozen? ⟨w.heap.size + 1, 0, none⟩ = false ∧ W.frozen? ⟨w.heap.size + 1, 1, none⟩ = false := fun W hW => ⟨keepsB hW (cell_of_heap m0 rfl), keepsB hW (cell_of_heap m0 rfl), keepsB hW (cell_of_heap m1 rfl), keepsB hW (cell_of_heap m1 rfl), frozB hW (cell_of_heap (o := 0) m1 rfl) (frozen_of_heap m1), frozB hW (cell_of_heap (o := 1) m1 rfl) (frozen_of_heap m1)⟩
  have HRZ : Hid (∀ W, Free.Bel ((w.alloc (.cells #[.int .i64 h, .slice p xs.length cp] 24)).alloc (.cells #[.int .i64 0, .slice none 0 0] 24)) W → W.heap[w.heap.size + 1]? = some (.cells #[.int .i64 0, .slice none 0 0] 24 (0, 0))) := fun W hW => (hW.block _ (lt_of_heap m1)).trans m1
  have KE : Free.Bel ((w.alloc (.cells #[.int .i64 h, .slice p xs.length cp] 24)).alloc (.cells #[.int .i64 0, .slice none 0 0] 24)) ((w.alloc (.cells #[.int .i64 h, .slice p xs.length cp] 24)).alloc (.cells #[.int .i64 0, .slice none 0 0] 24)) := Free.Bel.refl _
  clear m0 m1
  cases hw : watchB h xs
  · have HC := Lib.hid (watchR_v h xs _ ((w.alloc (.cells #[.int .i64 h, .slice p xs.length cp] 24)).alloc (.cells #[.int .i64 0, .slice none 0 0] 24)) (HU.out.keeps KB) false hw)
    have hE1 : dropE h xs r = 70 := by simp [dropE, hw]
    obtain rfl : E = 70 := hE.out.symm.trans hE1
    obtain rfl : Hh = 0 := hHh.out.symm.trans (by rw [dropH, hE1]; rfl)
    have HL : Hid (dropL h xs r = []) := by show _ = _; rw [dropL, hE1]; rfl
    clear hw hE1
    go_enter Tryd.func46, Tryd.ntmps46
    go_wp2_with fail
    refine HC.out.mono ?_
    rintro e w1 ⟨rfl, hB1⟩
    have K1 : Free.Bel ((w.alloc (.cells #[.int .i64 h, .slice p xs.length cp] 24)).alloc (.cells #[.int .i64 0, .slice none 0 0] 24)) w1 := hB1
    clear hB1 KE
    go_wp2_with fail
    have hrz := HRZ.out _ K1
    have hst := two_stores (.int .i64 0) (.slice none 0 0) (cell_of_heap (o := 0) hrz rfl) (cell_of_heap (o := 1) hrz rfl)
    exact bodyPost_ret (v := .tuple #[.agg #[.int .i64 0, .slice none 0 0], .int .i64 70]) (by simp [results, Tryd.results46, go_sem, hst]) rfl ⟨⟨_, rfl, by rw [HL.out]; exact RL.nil _⟩, ((bt KB K1).setCell (by simp) _).setCell (by simp) _⟩
  · have HC := Lib.hid (watchR_v h xs _ ((w.alloc (.cells #[.int .i64 h, .slice p xs.length cp] 24)).alloc (.cells #[.int .i64 0, .slice none 0 0] 24)) (HU.out.keeps KB) true hw)
    have HW := Lib.hid hw
    clear hw
    go_enter Tryd.func46, Tryd.ntmps46
    go_wp2_with fail
    refine HC.out.mono ?_
    rintro e w1 ⟨rfl, hB1⟩
    have K1 : Free.Bel ((w.alloc (.cells #[.int .i64 h, .slice p xs.length cp] 24)).alloc (.cells #[.int .i64 0, .slice none 0 0] 24)) w1 := hB1
    clear hB1 KE
    go_wp2_with fail
    refine (rickR_v h id xs _ w1 (HU.out.keeps (bt KB K1)) r hr).mono ?_
    rintro e w2 ⟨rfl, hB2⟩
    have K2 : Free.Bel ((w.alloc (.cells #[.int .i64 h, .slice p xs.length cp] 24)).alloc (.cells #[.int .i64 0, .slice none 0 0] 24)) w2 := bt K1 hB2
    clear hB2 K1
    by_cases h0 : r < 0
    · have g0 : decide (r < 0) = true := decide_eq_true h0
      have hE1 : dropE h xs r = 6 := by rw [dropE, if_neg (by rw [HW.out]; simp), if_pos h0]
      obtain rfl : E = 6 := hE.out.symm.trans hE1
      obtain rfl : Hh = 0 := hHh.out.symm.trans (by rw [dropH, hE1]; rfl)
      have HL : Hid (dropL h xs r = []) := by show _ = _; rw [dropL, hE1]; rfl
      clear hE1
      go_wp2_with fail
      have hrz := HRZ.out _ K2
      have hst := two_stores (.int .i64 0) (.slice none 0 0) (cell_of_heap (o := 0) hrz rfl) (cell_of_heap (o := 1) hrz rfl)
      exact bodyPost_ret (v := .tuple #[.agg #[.int .i64 0, .slice none 0 0], .int .i64 6]) (by simp [results, Tryd.results46, go_sem, hst]) rfl ⟨⟨_, rfl, by rw [HL.out]; exact RL.nil _⟩, ((bt KB K2).setCell (by simp) _).setCell (by simp) _⟩
    · obtain ⟨k, hk, hrk⟩ : ∃ k : Nat, k < xs.length ∧ r = k := by
        rcases hr.out with ⟨h9, _⟩ | ⟨k, h9, h8, _⟩
        · omega
        · exact ⟨k, h9, h8⟩
      subst hrk
      have g0 : decide ((k : Int) < 0) = false := decide_eq_false h0
      have hE1 : dropE h xs (k : Int) = 0 := by rw [dropE, if_neg (by rw [HW.out]; simp), if_neg h0]
      obtain rfl : E = 0 := hE.out.symm.trans hE1
      obtain rfl : Hh = h := hHh.out.symm.trans (by rw [dropH, hE1]; rfl)
      have HL : Hid (dropL Hh xs (k : Int) = xs.take k ++ xs.drop (k + 1)) := by show _ = _; rw [dropL, hE1]; simp
      clear hE1 h0
      have hxs : xs ≠ [] := by intro e; simp [e] at hk
      obtain ⟨b, off, rfl, hcc⟩ := HQ.out hxs
      have hbw : Hid (b < w.heap.size) := by
        have := lt_of_cell (hcc k hk).1
        exact this
      have hpt : ∀ W, Below w.heap.size w W → (∀ j u, (cellsR (xs.take k))[j]? = some u → W.cell? ((⟨b, off, none⟩ : Addr).add j) = some u) ∧ (∀ ad, tailP (some ⟨b, off, none⟩) cp (k + 1) = some ad → ∀ j u, (cellsR (xs.drop (k + 1)))[j]? = some u → W.cell? (ad.add j) = some u) := by
        intro W hW
        have hcc2 : ∀ k (hk : k < xs.length), W.cell? ⟨b, off + k * 3, none⟩ = some (.int .i64 xs[k].1) ∧ W.cell? ⟨b, off + k * 3 + 1, none⟩ = some (.int .i64 xs[k].2.1) ∧ W.cell? ⟨b, off + k * 3 + 2, none⟩ = some (.int .i64 xs[k].2.2) := fun k hk => ⟨keepsB hW (hcc k hk).1, keepsB hW (hcc k hk).2.1, keepsB hW (hcc k hk).2.2⟩
        refine ⟨(cells_part hcc2 k (Nat.le_of_lt hk)).1, fun ad he => ?_⟩
        unfold tailP at he
        split at he
        · rename_i hcq
          have : xs.length ≤ k + 1 := by have := hcp.out; omega
          rw [List.drop_eq_nil_of_le this]
          intro j u hj
          simp [cellsR] at hj
        · simp only [Option.map_some, Option.some.injEq] at he
          rw [← he, addE]
          exact (cells_part hcc2 (k + 1) hk).2
      have HPT := Lib.hid hpt
      clear hpt
      have hsl1 := Lib.hid (slice_head (some ⟨b, off, none⟩) xs.length cp k (by have := hcp.out; omega))
      have hsl2 := Lib.hid (slice_tail (some ⟨b, off, none⟩) xs.length cp (k + 1) hk)
      have hkw : IntKind.i64.wrap ((k : Int) + 1) = ((k + 1 : Nat) : Int) := by rw [IntWalk.i64_in _ (by omega)]; omega
      clear hcc
      go_wp2_with fail
      have hs2 : w.heap.size + 1 + 1 ≤ w2.heap.size := by have := K2.size; simp at this; omega
      have hF : ∀ W, RZ w2.heap.size (w.heap.size + 1) w2.drew W → (W.cell? ⟨w.heap.size, 0, none⟩ = some (.int .i64 Hh) ∧ W.cell? ⟨w.heap.size, 1, none⟩ = some (.slice (some ⟨b, off, none⟩) xs.length cp)) ∧ Below w.heap.size w W := fun W hW => by
        obtain ⟨z0, z1, _⟩ := FA w2 K2
        exact ⟨⟨hW.cell (show w2.drew.cell? _ = _ from z0) (by simp; omega) (by simp), hW.cell (show w2.drew.cell? _ = _ from z1) (by simp; omega) (by simp)⟩, RZ.below ((bt KB K2).drew) hW (by omega) (by omega)⟩
      have hrz2 : w2.drew.heap[w.heap.size + 1]? = some (.cells #[.int .i64 0, .slice none 0 0] 24 (0, 0)) := (show w2.heap[w.heap.size + 1]? = _ from HRZ.out w2 K2)
      refine Free2.wp_free (R := RZ w2.heap.size (w.heap.size + 1)) (J := JS w2.heap.size 47 3 [⟨2, 7, 0, []⟩, ⟨7, 13, k, cellsR (xs.take k)⟩, ⟨13, 1000, k + (xs.length - (k + 1)), cellsR (xs.take k ++ xs.drop (k + 1))⟩] 13 14 15 (w.heap.size + 1) (fun u => .agg #[.int .i64 Hh, u]) (.cells #[.int .i64 0, .slice none 0 0] 24 (0, 0)) (fun u => .cells #[.int .i64 Hh, u] 24 (0, 0))) (by kernel_rfl) (by kernel_rfl) (RZ.refl _ _) RZ.trans (JS.start (Nat.le_refl _) (by omega) hrz2) ?_
      refine Free2.Chain.ex ?_ 0 rfl [] [2] (by kernel_rfl) (by kernel_rfl) rfl (RZ.refl _ _) (fun X W v h => JS.skip h 0 v (by simp) (by simp) (by simp) (by simp)) ?_ ?_
      rotate_left
      · (intro ev W hb hR hO hD; have hS := hF W hR; obtain ⟨hS, hS2⟩ := hS; obtain ⟨hb1, hb2, hb3⟩ := hb; simp only [Free.AllDeps, Free.AllOuts, Free.At, al1, al2, al3, al4, al5, and_true] at hO hD; go_simp; rfl)
      simp only [an1, an2]
      refine Free2.Chain.ex ?_ 1 rfl [(0, 17)] [] (by kernel_rfl) (by kernel_rfl) rfl (RZ.refl _ _) (fun X W v h => JS.skip h 1 v (by simp) (by simp) (by simp) (by simp)) ?_ ?_
      rotate_left
      · (intro ev W hb hR hO hD; have hS := hF W hR; obtain ⟨hS, hS2⟩ := hS; obtain ⟨hb1, hb2, hb3⟩ := hb; simp only [Free.AllDeps, Free.AllOuts, Free.At, al1, al2, al3, al4, al5, and_true] at hO hD; go_simp; rfl)
      simp only [an1, an2]
      refine Free2.Chain.pr (fun v _ => True) 2 rfl [] [] (by kernel_rfl) (by kernel_rfl) rfl (fun _ _ _ _ h => h) ?_ ?_
      · (intro ev W X hb hR hO hD hj hx hax; have hS := hF W hR; obtain ⟨hb1, hb2, hb3⟩ := hb; simp only [Free.AllDeps, Free.AllOuts, Free.At, al1, al2, al3, al4, al5, and_true] at hO hD; simp only [Free2.AllX, and_true] at hax; obtain ⟨hS, hS2⟩ := hS; go_simp; exact ⟨RZ.of_bel (belAlloc _ _) hj.jr.size, JS.new hj ⟨2, 7, 0, []⟩ (by simp) (by simp) (by simp) (by simp) (by simp) (belAlloc _ _) (World.ownsRow_lit W #[] 0 (Nat.le_refl _) (by unfold maxLen; omega) rfl)⟩)
      simp only [an1, an2]
      refine Free2.Chain.ex ?_ 3 rfl [] [2] (by kernel_rfl) (by kernel_rfl) rfl (RZ.refl _ _) (fun X W v h => JS.skip h 3 v (by simp) (by simp) (by simp) (by simp)) ?_ ?_
      rotate_left
      · (intro ev W hb hR hO hD; have hS := hF W hR; obtain ⟨hS, hS2⟩ := hS; obtain ⟨hb1, hb2, hb3⟩ := hb; simp only [Free.AllDeps, Free.AllOuts, Free.At, al1, al2, al3, al4, al5, and_true] at hO hD; go_simp; rfl)
      simp only [an1, an2]
      refine Free2.Chain.ex ?_ 4 rfl [(3, 20)] [] (by kernel_rfl) (by kernel_rfl) rfl (RZ.refl _ _) (fun X W v h => JS.skip h 4 v (by simp) (by simp) (by simp) (by simp)) ?_ ?_
      rotate_left
      · (intro ev W hb hR hO hD; have hS := hF W hR; obtain ⟨hS, hS2⟩ := hS; obtain ⟨hb1, hb2, hb3⟩ := hb; simp only [Free.AllDeps, Free.AllOuts, Free.At, al1, al2, al3, al4, al5, and_true] at hO hD; go_simp; rfl)
      simp only [an1, an2]
      refine Free2.Chain.ex ?_ 5 rfl [] [6] (by kernel_rfl) (by kernel_rfl) rfl (RZ.refl _ _) (fun X W v h => JS.skip h 5 v (by simp) (by simp) (by simp) (by simp)) ?_ ?_
      rotate_left
      · (intro ev W hb hR hO hD; have hS := hF W hR; obtain ⟨hS, hS2⟩ := hS; obtain ⟨hb1, hb2, hb3⟩ := hb; simp only [Free.AllDeps, Free.AllOuts, Free.At, al1, al2, al3, al4, al5, and_true] at hO hD; go_simp; rfl)
      simp only [an1, an2]
      refine Free2.Chain.pr (fun v _ => v = .slice (some ⟨b, off, none⟩) k cp) 6 rfl [(4, 21), (5, 22)] [] (by kernel_rfl) (by kernel_rfl) rfl (fun _ _ _ _ h => h) ?_ ?_
      · (intro ev W X hb hR hO hD hj hx hax; have hS := hF W hR; obtain ⟨hb1, hb2, hb3⟩ := hb; simp only [Free.AllDeps, Free.AllOuts, Free.At, al1, al2, al3, al4, al5, and_true] at hO hD; simp only [Free2.AllX, and_true] at hax; obtain ⟨hS, hS2⟩ := hS; have hq := hsl1.out W; go_simp; exact ⟨RZ.refl _ _ _, rfl, JS.skip hj 6 _ (by simp) (by simp) (by simp) (by simp)⟩)
      simp only [an1, an2]
      refine Free2.Chain.pr (fun v _ => True) 7 rfl [(2, 19), (6, 23)] [] (by kernel_rfl) (by kernel_rfl) rfl (fun _ _ _ _ h => h) ?_ ?_
      · (intro ev W X hb hR hO hD hj hx hax; have hS := hF W hR; obtain ⟨hb1, hb2, hb3⟩ := hb; simp only [Free.AllDeps, Free.AllOuts, Free.At, al1, al2, al3, al4, al5, and_true] at hO hD; simp only [Free2.AllX, and_true] at hax; obtain ⟨hS, hS2⟩ := hS; obtain ⟨hd1, hd2⟩ := hD; obtain ⟨ha1, ha2⟩ := hax; refine yields_append_row W _ (.tmp 19) (.tmp 23) 22 rfl w2.heap.size 47 i0 (.agg #[.int .i64 0, .int .i64 0, .int .i64 0]) 3 24 Tryd.underlying22 HZ.out.1 HZ.out.2.1 HZ.out.2.2.1 HZ.out.2.2.2 rfl (by decide) _ 0 [] rfl (hj.jr.row ⟨2, 7, 0, []⟩ (by simp) hx _ ha1) (some ⟨b, off, none⟩) k cp (cellsR (xs.take k)) hd2 (by rw [cellsR_length, List.length_take]; omega) (fun ad he => by cases he; exact (HPT.out W hS2).1) (fun he => by cases he) (cellsR_one _) (by unfold maxLen; omega) (by omega) hj.jr.size ?_; intro v9 w9 ho9 hk9; have hbl := hk9.below (hj.jr.row ⟨2, 7, 0, []⟩ (by simp) hx _ ha1) hj.jr.size; exact ⟨RZ.of_below hbl, trivial, JS.take hj ⟨2, 7, 0, []⟩ ⟨7, 13, k, cellsR (xs.take k)⟩ (by simp) (by simp) rfl (by simp) (by simp) (by simp) (by simp) ha1 hx hk9 (by simpa using ho9)⟩)
      simp only [an1, an2]
      refine Free2.Chain.ex ?_ 8 rfl [] [2] (by kernel_rfl) (by kernel_rfl) rfl (RZ.refl _ _) (fun X W v h => JS.skip h 8 v (by simp) (by simp) (by simp) (by simp)) ?_ ?_
      rotate_left
      · (intro ev W hb hR hO hD; have hS := hF W hR; obtain ⟨hS, hS2⟩ := hS; obtain ⟨hb1, hb2, hb3⟩ := hb; simp only [Free.AllDeps, Free.AllOuts, Free.At, al1, al2, al3, al4, al5, and_true] at hO hD; go_simp; rfl)
      simp only [an1, an2]
      refine Free2.Chain.ex ?_ 9 rfl [(8, 25)] [] (by kernel_rfl) (by kernel_rfl) rfl (RZ.refl _ _) (fun X W v h => JS.skip h 9 v (by simp) (by simp) (by simp) (by simp)) ?_ ?_
      rotate_left
      · (intro ev W hb hR hO hD; have hS := hF W hR; obtain ⟨hS, hS2⟩ := hS; obtain ⟨hb1, hb2, hb3⟩ := hb; simp only [Free.AllDeps, Free.AllOuts, Free.At, al1, al2, al3, al4, al5, and_true] at hO hD; go_simp; rfl)
      simp only [an1, an2]
      refine Free2.Chain.ex ?_ 10 rfl [] [6] (by kernel_rfl) (by kernel_rfl) rfl (RZ.refl _ _) (fun X W v h => JS.skip h 10 v (by simp) (by simp) (by simp) (by simp)) ?_ ?_
      rotate_left
      · (intro ev W hb hR hO hD; have hS := hF W hR; obtain ⟨hS, hS2⟩ := hS; obtain ⟨hb1, hb2, hb3⟩ := hb; simp only [Free.AllDeps, Free.AllOuts, Free.At, al1, al2, al3, al4, al5, and_true] at hO hD; go_simp; rfl)
      simp only [an1, an2]
      refine Free2.Chain.ex ?_ 11 rfl [(10, 27)] [] (by kernel_rfl) (by kernel_rfl) rfl (RZ.refl _ _) (fun X W v h => JS.skip h 11 v (by simp) (by simp) (by simp) (by simp)) ?_ ?_
      rotate_left
      · (intro ev W hb hR hO hD; have hS := hF W hR; obtain ⟨hS, hS2⟩ := hS; obtain ⟨hb1, hb2, hb3⟩ := hb; simp only [Free.AllDeps, Free.AllOuts, Free.At, al1, al2, al3, al4, al5, and_true] at hO hD; go_simp; rfl)
      simp only [an1, an2]
      refine Free2.Chain.pr (fun v _ => v = .slice (tailP (some ⟨b, off, none⟩) cp (k + 1)) (xs.length - (k + 1)) (cp - (k + 1))) 12 rfl [(9, 26), (11, 28)] [] (by kernel_rfl) (by kernel_rfl) rfl (fun _ _ _ _ h => h) ?_ ?_
      · (intro ev W X hb hR hO hD hj hx hax; have hS := hF W hR; obtain ⟨hb1, hb2, hb3⟩ := hb; simp only [Free.AllDeps, Free.AllOuts, Free.At, al1, al2, al3, al4, al5, and_true] at hO hD; simp only [Free2.AllX, and_true] at hax; obtain ⟨hS, hS2⟩ := hS; have hq : (Instr.slice 22 (.slice (some ⟨b, off, none⟩) xs.length cp) (some (.int .i64 ((k : Int) + 1))) none none).run Tryd.prog W = _ := hsl2.out W; go_simp; exact ⟨RZ.refl _ _ _, rfl, JS.skip hj 12 _ (by simp) (by simp) (by simp) (by simp)⟩)
      simp only [an1, an2]
      refine Free2.Chain.pr (fun v _ => True) 13 rfl [(7, 24), (12, 29), (7, 24)] [] (by kernel_rfl) (by kernel_rfl) rfl (fun _ _ _ _ h => h) ?_ ?_
      · (intro ev W X hb hR hO hD hj hx hax; have hS := hF W hR; obtain ⟨hb1, hb2, hb3⟩ := hb; simp only [Free.AllDeps, Free.AllOuts, Free.At, al1, al2, al3, al4, al5, and_true] at hO hD; simp only [Free2.AllX, and_true] at hax; obtain ⟨hS, hS2⟩ := hS; obtain ⟨hd1, hd2⟩ := hD; obtain ⟨ha1, ha2, ha3⟩ := hax; have hrw := hj.jr.row ⟨7, 13, k, cellsR (xs.take k)⟩ (by simp) hx _ ha1; refine yields_append_row W _ (.tmp 24) (.tmp 29) 22 rfl w2.heap.size 47 i0 (.agg #[.int .i64 0, .int .i64 0, .int .i64 0]) 3 24 Tryd.underlying22 HZ.out.1 HZ.out.2.1 HZ.out.2.2.1 HZ.out.2.2.2 rfl (by decide) _ k (cellsR (xs.take k)) rfl hrw (tailP (some ⟨b, off, none⟩) cp (k + 1)) (xs.length - (k + 1)) (cp - (k + 1)) (cellsR (xs.drop (k + 1))) hd2 (by rw [cellsR_length, List.length_drop]) (fun ad he => (HPT.out W hS2).2 ad he) (fun he => absurd he (tailP_some _ _ _)) (cellsR_one _) (by unfold maxLen; omega) (by omega) hj.jr.size ?_; intro v9 w9 ho9 hk9; have hbl := hk9.below hrw hj.jr.size; exact ⟨RZ.of_below hbl, trivial, JS.take hj ⟨7, 13, k, cellsR (xs.take k)⟩ ⟨13, 1000, k + (xs.length - (k + 1)), cellsR (xs.take k ++ xs.drop (k + 1))⟩ (by simp) (by simp) rfl (by simp) (by simp) (by simp) (by simp) ha1 hx hk9 (by rw [cellsR_append]; exact ho9)⟩)
      simp only [an1, an2]
      refine Free2.Chain.pr (fun v _ => True) 14 rfl [(1, 18), (13, 30)] [] (by kernel_rfl) (by kernel_rfl) rfl (fun _ _ _ _ h => h) ?_ ?_
      · (intro ev W X hb hR hO hD hj hx hax; have hS := hF W hR; obtain ⟨hb1, hb2, hb3⟩ := hb; simp only [Free.AllDeps, Free.AllOuts, Free.At, al1, al2, al3, al4, al5, and_true] at hO hD; simp only [Free2.AllX, and_true] at hax; obtain ⟨hS, hS2⟩ := hS; obtain ⟨ha1, ha2⟩ := hax; obtain ⟨p8, c8, e8⟩ := row_slice (hj.jr.row ⟨13, 1000, k + (xs.length - (k + 1)), cellsR (xs.take k ++ xs.drop (k + 1))⟩ (by simp) hj.jr.nv _ ha2); simp only at e8; rw [e8] at ha2; go_simp; exact ⟨RZ.refl _ _ _, JS.build hj (by simp) (by simp) (by simp) (by simp) ha2⟩)
      simp only [an1, an2]
      refine Free2.Chain.pr (fun v _ => True) 15 rfl [(14, 31), (13, 30), (0, 17), (1, 18), (2, 19), (3, 20), (4, 21), (5, 22), (6, 23), (7, 24), (8, 25), (9, 26), (10, 27), (11, 28), (12, 29), (13, 30), (14, 31)] [4] (by kernel_rfl) (by kernel_rfl) rfl (fun _ _ _ _ h => h) ?_ ?_
      · (intro ev W X hb hR hO hD hj hx hax; have hS := hF W hR; obtain ⟨hb1, hb2, hb3⟩ := hb; simp only [Free.AllDeps, Free.AllOuts, Free.At, al1, al2, al3, al4, al5, and_true] at hO hD; simp only [Free2.AllX, and_true] at hax; obtain ⟨hS, hS2⟩ := hS; have hf := hj.bld _ hax.1; obtain ⟨u8, hu8, he8⟩ := hf; obtain ⟨p8, c8, e8⟩ := row_slice (hj.jr.row ⟨13, 1000, k + (xs.length - (k + 1)), cellsR (xs.take k ++ xs.drop (k + 1))⟩ (by simp) hj.jr.nv _ hu8); simp only at e8; subst e8; have hzz := hj.st0 hx; have q0 := cell_of_heap (o := 0) hzz rfl; have q1 := cell_of_heap (o := 1) hzz rfl; have f0 := frozen_of_heap (o := 0) hzz; have f1 := frozen_of_heap (o := 1) hzz; go_simp; have h9 := heap_setCell_same (o := 1) (.slice p8 (k + (xs.length - (k + 1))) c8) (heap_setCell_same (o := 0) (.int .i64 Hh) hzz); exact ⟨RZ.trans _ _ _ RZ.set RZ.set, JS.store hj (by simp) (by simp) (by simp) (by simp) hu8 (by simp) (by simpa using h9) (fun q hq => (heap_setCell_other hq).trans (heap_setCell_other hq))⟩)
      simp only [an1, an2]
      refine Free2.Chain.ex ?_ 16 rfl [(0, 17), (1, 18), (2, 19), (3, 20), (4, 21), (5, 22), (6, 23), (7, 24), (8, 25), (9, 26), (10, 27), (11, 28), (12, 29), (13, 30), (14, 31)] [] (by kernel_rfl) (by kernel_rfl) rfl (RZ.refl _ _) (fun X W v h => JS.skip h 16 v (by simp) (by simp) (by simp) (by simp)) ?_ ?_
      rotate_left
      · (intro ev W hb hR hO hD; have hS := hF W hR; obtain ⟨hS, hS2⟩ := hS; obtain ⟨hb1, hb2, hb3⟩ := hb; simp only [Free.AllDeps, Free.AllOuts, Free.At, al1, al2, al3, al4, al5, and_true] at hO hD; go_simp; rfl)
      simp only [an1, an2]
      intro ys w' hR hV hX
      obtain ⟨X, hj, hxx⟩ := hX
      simp only [Free.AllV, Free.At, List.length_cons, List.length_nil, Nat.reduceAdd, List.getElem?_cons_succ, List.getElem?_cons_zero, true_and, and_true] at hV
      simp only [Free.putsFrom, Act.put, Nat.zero_add, Nat.reduceAdd, hV, List.setIfInBounds_toArray, List.set_cons_succ, List.set_cons_zero]
      have hx15 : X 15 = some (ys 15) := hxx 15 (by decide)
      obtain ⟨u8, hu8, hb8⟩ := hj.st1 (by rw [hx15]; simp)
      have hr8 := hj.jr.row ⟨13, 1000, k + (xs.length - (k + 1)), cellsR (xs.take k ++ xs.drop (k + 1))⟩ (by simp) hj.jr.nv _ hu8
      have q0 := cell_of_heap (o := 0) hb8 rfl
      have q1 := cell_of_heap (o := 1) hb8 rfl
      have HR8 := Lib.hid (RL.of_row (xs := xs.take k ++ xs.drop (k + 1)) (by simp; omega) (by simp only; unfold maxLen; omega) hr8)
      have HBE := Lib.hid (hF w' hR).2
      clear hR hV hF hj hxx hx15 hb8 hr8 hrz2
      go_wp2_with fail
      exact bodyPost_ret (v := .tuple #[.agg #[.int .i64 Hh, u8], .int .i64 0]) (by simp [results, Tryd.results46, go_sem, q0, q1]) rfl ⟨⟨u8, rfl, by rw [HL.out]; exact HR8.out⟩, HBE.out⟩
end Go.Proofs.YtknpglgpkkhhiaaDoor

/- slices.SortStableFunc at a few ricks. -/
namespace Go.Proofs
open Go.Shelf Go.RowKit Go.Lib Go.Sort
def Tryd.layIns_ren : Go.Shelf.Ren := ⟨fun | 20 => 113 | n => n, fun | 22 => 22 | 24 => 47 | 25 => 133 | 3 => 3 | 4 => 4 | 0 => 0 | n => n, fun | n => n⟩
theorem Tryd.layIns : Go.Proofs.SlLaysF0.n20 Tryd.prog Tryd.layIns_ren := {
  mixed := by kernel_rfl
  f20 := ⟨Tryd.f113.name, by decide, Tryd.func113.trans (congrArg some (by kernel_rfl))⟩
  t0 := Tryd.underlying0
  a0 := Tryd.isAgg0
  z0 := Tryd.sizeOf0
  v0 := Tryd.zeroValue0
  t3 := Tryd.underlying3
  a3 := Tryd.isAgg3
  z3 := Tryd.sizeOf3
  v3 := Tryd.zeroValue3
  t4 := Tryd.underlying4
  a4 := Tryd.isAgg4
  z4 := Tryd.sizeOf4
  v4 := Tryd.zeroValue4
  t22 := Tryd.underlying22
  a22 := Tryd.isAgg22
  z22 := Tryd.sizeOf22
  v22 := Tryd.zeroValue22
  t25 := Tryd.underlying133
  a25 := Tryd.isAgg133
  z25 := Tryd.sizeOf133
  v25 := Tryd.zeroValue133 }
end Go.Proofs
namespace Go.Proofs.YtknpglgpkkhhiaaDoor
set_option linter.unusedSimpArgs false
set_option linter.unusedVariables false
open Go.Shelf Go.RowKit Go.Lib Go.Sort Go.Proofs.YtknpglgpkkhhiaaDoor.Free2

/-- A rick's cells. -/
def enc3 (x : Rk) : List Value := [.int .i64 x.1, .int .i64 x.2.1, .int .i64 x.2.2]
def cfR (x y : Rk) : Int := Lib.compareInt x.1 y.1
theorem flat3 (ys : List Rk) : flatK enc3 3 ys.toArray = (cellsR ys).toArray := by
  refine ext_get! (by simp [cellsR_length]) fun t ht => ?_
  have hl : t < ys.length * 3 := by simpa using ht
  rw [get_flatK _ _ _ t (by simpa using hl)]
  have hq : t / 3 < ys.length := by omega
  obtain ⟨c1, c2, c3⟩ := cellsR_get ys (t / 3) hq
  have hg : ys.toArray[t / 3]! = ys[t / 3] := by simp [hq]
  rw [hg]
  have hr : t % 3 = 0 ∨ t % 3 = 1 ∨ t % 3 = 2 := by omega
  have key : ∀ (v : Value), (cellsR ys)[t]? = some v → (cellsR ys).toArray[t]! = v := by
    intro v hv
    obtain ⟨h1, h2⟩ := List.getElem?_eq_some_iff.1 hv
    simp [h1, h2]
  rcases hr with hr | hr | hr
  · rw [hr, key (.int .i64 ys[t / 3].1) (by rw [← c1]; congr 1; omega)]; rfl
  · rw [hr, key (.int .i64 ys[t / 3].2.1) (by rw [← c2]; congr 1; omega)]; rfl
  · rw [hr, key (.int .i64 ys[t / 3].2.2) (by rw [← c3]; congr 1; omega)]; rfl
theorem holds3 {base g n cap : Nat} {ys : List Rk} {w : World} (h : w.ownsRow base 47 3 (.slice (some ⟨g, 0, none⟩) n cap) n (cellsR ys)) (hn : ys.length = n) : HoldsK enc3 3 w g 0 ys.toArray := by
  intro j hj
  rw [flat3] at hj ⊢
  have hj2 : j < (cellsR ys).length := by simpa using hj
  have hl := cellsR_length ys
  rw [Nat.zero_add]
  refine ⟨?_, h.frozenAt j⟩
  rw [h.cellAt j (by omega)]
  simp [hj2]
/-- What a sort leaves. -/
theorem row_sorted {base g n cap m : Nat} {ys : List Rk} {d : Array Rk} {os : Array Obj} {w : World} (h : w.ownsRow base 47 3 (.slice (some ⟨g, 0, none⟩) n cap) n (cellsR ys)) (hn : ys.length = n) (hd : d.size = n) :
    (sortWorldK enc3 3 w g 0 m d os).ownsRow base 47 3 (.slice (some ⟨g, 0, none⟩) n cap) n (cellsR d.toList) ∧ (∀ k, k < w.heap.size → k ≠ g → (sortWorldK enc3 3 w g 0 m d os).heap[k]? = w.heap[k]?) ∧ w.heap.size ≤ (sortWorldK enc3 3 w g 0 m d os).heap.size := by
  have hK := holdsK_sortWorldK_c enc3 3 w g 0 ys.toArray d m os (holds3 h hn)
  rcases h.2 with ⟨h', _⟩ | ⟨g', cap', cur, h', hb, hg, hnc, hcm, hcs, htake⟩
  · cases h'
  · simp only [Value.slice.injEq, Option.some.injEq, Addr.mk.injEq, and_true, true_and] at h'
    obtain ⟨rfl, rfl⟩ := h'
    have hglt := lt_of_heap hg
    have hheap : ∀ k, k < w.heap.size → (sortWorldK enc3 3 w g 0 m d os).heap[k]? = (putRowK enc3 3 (Sort.ahead w m) g 0 d).heap[k]? := by
      intro k hk
      show (Array.append _ os)[k]? = _
      exact Array.getElem?_append_left (by show k < (putRowK enc3 3 (Sort.ahead w m) g 0 d).heap.size; unfold putRowK; rw [size_putRow]; exact hk)
    have hmod : ∀ k, (putRowK enc3 3 (Sort.ahead w m) g 0 d).heap[k]? = if g = k then (w.heap[k]?).map (onCells (putCells id 0 (flatK enc3 3 d))) else w.heap[k]? := by
      intro k
      show (w.heap.modify g _)[k]? = _
      rw [Array.getElem?_modify]
    have hgb : (sortWorldK enc3 3 w g 0 m d os).heap[g]? = some (.cells (putCells id 0 (flatK enc3 3 d) cur) 47 (0, 0)) := by
      rw [hheap g hglt, hmod g, if_pos rfl, hg]; rfl
    refine ⟨⟨by rw [cellsR_length, Array.length_toList, hd], .inr ⟨g, cap, _, rfl, hb, hgb, hnc, hcm, by simpa [putCells] using hcs, ?_⟩⟩, fun k hk hkg => by rw [hheap k hk, hmod k, if_neg (Ne.symm hkg)], ?_⟩
    · have hf : flatK enc3 3 d = (cellsR d.toList).toArray := by have := flat3 d.toList; simpa using this
      have hl : (cellsR d.toList).length = n * 3 := by rw [cellsR_length, Array.length_toList, hd]
      have hle : n * 3 ≤ cur.size := by rw [hcs]; exact Nat.mul_le_mul_right 3 hnc
      refine List.ext_getElem? fun j => ?_
      rw [List.getElem?_take]
      by_cases hj : j < n * 3
      · rw [if_pos hj, hf]
        simp only [putCells, Array.getElem?_toList, Array.getElem?_mapIdx]
        have hjc : j < cur.size := by omega
        have hj2 : j < (cellsR d.toList).length := by omega
        simp [hjc, hj2]
      · rw [if_neg hj, List.getElem?_eq_none (by omega)]
    · show w.heap.size ≤ (Array.append _ os).size
      have : w.heap.size = (putRowK enc3 3 (Sort.ahead w m) g 0 d).heap.size := by unfold putRowK; rw [size_putRow]; rfl
      rw [this]
      show _ ≤ ((putRowK enc3 3 (Sort.ahead w m) g 0 d).heap ++ os).size
      simp

set_option maxRecDepth 100000 in
set_option maxHeartbeats 1000000 in
theorem closure84 (x y : Rk) (W : World) : Calls Tryd.prog 84 #[.agg (enc3 x).toArray, .agg (enc3 y).toArray] W fun e w' => e = .returned (.int .i64 (cfR x y)) ∧ ∃ q os', w' = grow (W.drewN q) os' := by
  obtain ⟨x1, x2, x3⟩ := x
  obtain ⟨y1, y2, y3⟩ := y
  have hcon := fun W' => Tryd.cmp_Compare_int x1 y1 W'
  have hr : cfR (x1, x2, x3) (y1, y2, y3) = Lib.compareInt x1 y1 := rfl
  rw [hr]
  show Calls Tryd.prog 84 #[.agg #[.int .i64 x1, .int .i64 x2, .int .i64 x3], .agg #[.int .i64 y1, .int .i64 y2, .int .i64 y3]] W _
  clear hr
  generalize Lib.compareInt x1 y1 = r at hcon ⊢
  go_enter Tryd.func84, Tryd.ntmps84
  go_wp2_with fail
  refine (hcon _).mono ?_
  rintro e w' ⟨rfl, rfl⟩
  go_wp2_with fail
  go_ret
  exact ⟨rfl, 0, _, by rw [alloc_eq_grow, alloc_eq_grow, grow_grow]; rfl⟩
theorem cmpLays84 (blk off size : Nat) (w : World) : CmpLays Tryd.prog 84 #[] enc3 3 cfR blk off size w := fun _ _ _ _ x y => closure84 x y _

/-- A few ascending ricks, and one behind them: sorted. -/
theorem cfR_lt (x y : Rk) : ltOf cfR x y = decide (x.1 < y.1) := by
  unfold ltOf cfR Lib.compareInt
  by_cases h : x.1 < y.1
  · simp [h]
  · by_cases h2 : y.1 < x.1 <;> simp [h, h2]
theorem sorted3 {xs : List Rk} (hs : (xs.map (·.1)).Pairwise (· < ·)) (hl : xs.length ≤ 3) (x : Rk) : (Sort.insertionSort (ltOf cfR) (xs ++ [x]).toArray 0 (xs.length + 1)).toList = insP x xs ∧ (Sort.insertionSort (ltOf cfR) (xs ++ [x]).toArray 0 (xs.length + 1)).size = xs.length + 1 := by
  match xs, hs, hl with
  | [], _, _ => 
    simp [Sort.insertionSort, insP]
    unfold Sort.insOuter
    simp
  | [a], hs, _ =>
    simp [Sort.insertionSort, insP]
    unfold Sort.insOuter
    unfold Sort.insOuter
    by_cases h1 : x.1 < a.1 <;> simp [Sort.insInner, cfR_lt, h1, swp]
  | [a, b], hs, _ =>
    have hab : ¬ b.1 < a.1 := by simp at hs; omega
    simp [Sort.insertionSort, insP]
    unfold Sort.insOuter
    unfold Sort.insOuter
    unfold Sort.insOuter
    have hab2 : a.1 < b.1 := by simp at hs; omega
    by_cases h2 : x.1 < b.1
    · by_cases h1 : x.1 < a.1 <;> simp [Sort.insInner, cfR_lt, h1, h2, hab, swp]
    · have h1 : ¬ x.1 < a.1 := by omega
      simp [Sort.insInner, cfR_lt, h1, h2, hab, swp]
  | [a, b, c], hs, _ =>
    have hab : ¬ b.1 < a.1 := by simp at hs; omega
    have hbc : ¬ c.1 < b.1 := by simp at hs; omega
    have hab2 : a.1 < b.1 := by simp at hs; omega
    have hbc2 : b.1 < c.1 := by simp at hs; omega
    simp [Sort.insertionSort, insP]
    unfold Sort.insOuter
    unfold Sort.insOuter
    unfold Sort.insOuter
    unfold Sort.insOuter
    by_cases h3 : x.1 < c.1
    · by_cases h2 : x.1 < b.1
      · by_cases h1 : x.1 < a.1 <;> simp [Sort.insInner, cfR_lt, h1, h2, h3, hab, hbc, swp]
      · have h1 : ¬ x.1 < a.1 := by omega
        simp [Sort.insInner, cfR_lt, h1, h2, h3, hab, hbc, swp]
    · have h2 : ¬ x.1 < b.1 := by omega
      have h1 : ¬ x.1 < a.1 := by omega
      simp [Sort.insInner, cfR_lt, h1, h2, h3, hab, hbc, swp]

set_option maxRecDepth 100000 in
set_option maxHeartbeats 2000000 in
theorem stable_any (g cap : Nat) (d : Array Rk) (w : World) (hH : HoldsK enc3 3 w g 0 d) (hg : g < w.heap.size) (hn : d.size < 20) :
    Calls Tryd.prog 103 #[.slice (some ⟨g, 0, none⟩) d.size cap, .int .i64 d.size, .func (.func 84) #[] #[]] w fun e w' => e = .returned (.tuple #[]) ∧ ∃ n os, w' = sortWorldK enc3 3 w g 0 n (Sort.insertionSort (ltOf cfR) d 0 d.size) os := by
  have eg : ∀ args w, (callFunc 84 args).run Tryd.prog w = .ok (.enter 84 args) w := enters_of Tryd.func84 (by kernel_rfl) rfl
  have hsz : ∀ W : World, (Go.sizeOf 47).run Tryd.prog W = .ok 3 W := fun W => by kernel_rfl
  have hag : ∀ W : World, (isAgg 47).run Tryd.prog W = .ok true W := fun W => by kernel_rfl
  have hcon := AnyQ.insertionSortCmpFunc Tryd.layIns 3 hag hsz enc3 (fun _ => rfl) (fun x v hv => by simp [enc3] at hv; rcases hv with rfl | rfl | rfl <;> rfl) cfR 84 #[] g 0 cap 0 d.size d w eg (cmpLays84 g 0 d.size w) hH hg (Nat.zero_le _) (Nat.le_refl _) (by omega)
  change Calls Tryd.prog 113 _ _ _ at hcon
  have HCON := Lib.hid hcon
  clear hH hcon eg hsz hag
  generalize Sort.insertionSort (ltOf cfR) d 0 d.size = r at HCON ⊢
  have g0 : decide ((20 : Int) ≤ (d.size : Int)) = false := decide_eq_false (by omega)
  have g1 : decide ((20 : Int) < (d.size : Int)) = false := decide_eq_false (by omega)
  have g2 : ¬ (20 ≤ d.size) := by omega
  have g3 : ¬ (20 < d.size) := by omega
  go_enter Tryd.func103, Tryd.ntmps103
  go_wp2_with fail
  go_loopw [7, 8] (fun a b wr => a = .int .i64 0 ∧ b = .int .i64 20 ∧ wr = w) (fun _ _ _ => 0)
  case atStart => exact ⟨rfl, rfl, rfl⟩
  case round =>
    obtain ⟨rfl, rfl, rfl⟩ := hrel
    go_wp2_with fail
    refine HCON.out.mono ?_
    rintro e w1 ⟨rfl, m, os, rfl⟩
    have HX : Hid (∃ m2 os2, sortWorldK enc3 3 wr g 0 m r os = sortWorldK enc3 3 wr g 0 m2 r os2) := ⟨m, os, rfl⟩
    generalize sortWorldK enc3 3 wr g 0 m r os = w1 at *
    go_wp2_with fail
    go_loopw [6] (fun a wr2 => a = .int .i64 20 ∧ wr2 = w1) (fun _ _ => 0)
    case atStart => exact ⟨rfl, rfl⟩
    case round =>
      obtain ⟨rfl, rfl⟩ := hrel
      go_wp2_with fail
      go_end0
      exact ⟨rfl, HX.out⟩

set_option maxRecDepth 100000 in
set_option maxHeartbeats 2000000 in
theorem sortStable_any (g cap : Nat) (d : Array Rk) (w : World) (hH : HoldsK enc3 3 w g 0 d) (hg : g < w.heap.size) (hn : d.size < 20) :
    Calls Tryd.prog 83 #[.slice (some ⟨g, 0, none⟩) d.size cap, .func (.func 84) #[] #[]] w fun e w' => e = .returned (.tuple #[]) ∧ ∃ n os, w' = sortWorldK enc3 3 w g 0 n (Sort.insertionSort (ltOf cfR) d 0 d.size) os := by
  have HCON := Lib.hid (stable_any g cap d w hH hg hn)
  clear hH
  generalize Sort.insertionSort (ltOf cfR) d 0 d.size = r at HCON ⊢
  go_enter Tryd.func83, Tryd.ntmps83
  go_wp2_with fail
  refine HCON.out.mono ?_
  rintro e w1 ⟨rfl, hw⟩
  have HW := Lib.hid hw
  clear hw
  go_wp2_with fail
  go_end0
  exact ⟨rfl, HW.out⟩
end Go.Proofs.YtknpglgpkkhhiaaDoor

/- slices.Contains at numbers; slices.Clone at ricks. -/
namespace Go.Proofs.YtknpglgpkkhhiaaDoor
set_option linter.unusedSimpArgs false
set_option linter.unusedVariables false
open Go.RowKit Go.Proofs.YtknpglgpkkhhiaaDoor.Free2

set_option maxRecDepth 100000 in
set_option maxHeartbeats 2000000 in
theorem indexI7_any (xs : List Int) (a : Int) (u : Value) (w : World) (hu : IL xs u w) :
    Calls Tryd.prog 97 #[u, .int .i64 a] w fun e w' => (∃ r : Int, e = .returned (.int .i64 r) ∧ decide (0 ≤ r) = xs.contains a) ∧ Below w.heap.size w w' := by
  obtain ⟨p, cp, rfl, hm, hq⟩ := hu
  unfold maxLen at hm
  have HC := Lib.hid hq
  clear hq
  go_enter Tryd.func97, Tryd.ntmps97
  go_wp2_with fail
  go_loopw [8] (fun i wr => ∃ k : Nat, k ≤ xs.length ∧ i = .int .i64 k ∧ Hid (a ∉ xs.take k) ∧ Below w.heap.size w wr) (fun i _ => xs.length - (intOf i).toNat)
  case atStart => exact ⟨0, Nat.zero_le _, rfl, (by show a ∉ _; simp), Below.refl _ _⟩
  case round =>
    obtain ⟨k, hk, rfl, hno, hB⟩ := hrel
    by_cases hlt : k < xs.length
    · obtain ⟨b, off, rfl, hcp⟩ := HC.out (by intro e; simp [e] at hlt)
      have e1 := keepsB hB (hcp k hlt)
      have hklt : (k : Int) < xs.length := by omega
      have htk : Hid (xs.take (k + 1) = xs.take k ++ [xs[k]]) := by show _ = _; rw [List.take_add_one, List.getElem?_eq_getElem hlt]; rfl
      have hmem : Hid (xs[k] ∈ xs) := List.getElem_mem hlt
      clear hcp
      generalize xs[k] = x at *
      by_cases he : a = x
      · have g0 : (a == x) = true := by simp [he]
        have HM : Hid (xs.contains a = true) := by show _ = _; rw [he]; simpa using hmem.out
        clear he
        go_wp2_with fail
        go_ret
        exact ⟨⟨_, rfl, by rw [HM.out]; simp⟩, hB⟩
      · have g0 : (a == x) = false := by simp [he]
        have HE := Lib.hid he
        clear he
        go_wp2_with fail
        go_roundw
        case rel => exact ⟨k + 1, by omega, by go_num, (by show a ∉ _; rw [htk.out]; simp [hno.out, HE.out]), hB⟩
        case measure => simp [intOf]; omega
    · obtain rfl : k = xs.length := by omega
      have hno2 : a ∉ xs := by have := hno.out; rw [List.take_length] at this; exact this
      have HN := Lib.hid hno2
      clear hno2
      go_wp2_with fail
      go_ret
      exact ⟨⟨_, rfl, by have := HN.out; simp [this]⟩, hB⟩

set_option maxRecDepth 100000 in
set_option maxHeartbeats 2000000 in
theorem contI7_any (xs : List Int) (a : Int) (u : Value) (w : World) (hu : IL xs u w) :
    Calls Tryd.prog 72 #[u, .int .i64 a] w fun e w' => e = .returned (.bool (xs.contains a)) ∧ Below w.heap.size w w' := by
  have HI := Lib.hid (indexI7_any xs a u w hu)
  obtain ⟨p, cp, rfl, _, _⟩ := hu
  generalize xs.contains a = q at *
  go_enter Tryd.func72, Tryd.ntmps72
  go_wp2_with fail
  refine HI.out.mono ?_
  rintro e w1 ⟨⟨r, rfl, hr⟩, hB⟩
  have HR := Lib.hid hr
  clear hr
  go_wp2_with fail
  go_ret
  exact ⟨by rw [← HR.out]; rfl, hB⟩

set_option maxRecDepth 100000 in
set_option maxHeartbeats 2000000 in
theorem clone_any (xs : List (Int × Int × Int)) (u : Value) (w : World) (hu : RL xs u w) (hz : NZ u) (hn : xs.length ≤ 1000) :
    Calls Tryd.prog 71 #[u] w fun e w' => ∃ v, e = .returned v ∧ w'.ownsRow w.heap.size 47 3 v xs.length (cellsR xs) ∧ Below w.heap.size w w' := by
  obtain ⟨p, cp, rfl, hm, hp⟩ := hu
  have HNEW := Lib.hid (ricks_news (cp := cp) hp)
  have HNIL : Hid (p = none → xs.length = 0 ∧ cp = 0) := fun e => hz _ _ (by rw [e])
  clear hp hz
  obtain ⟨i0, hi0, hz0, hz1, hz2⟩ := info_parts T.infoRick
  have HZ := Lib.hid (And.intro hi0 (And.intro hz0 (And.intro hz1 hz2)))
  clear hi0 hz0 hz1 hz2
  have q22 : ∀ (w : World) (a : Option Addr) (n c n' c' : Nat), (binOp .eql 22 (.slice a n c) (.slice none n' c')).run Tryd.prog w = .ok (.bool a.isNone) w := fun w a n c n' c' => Lib.run_eql_slice_nil w _ _ a n c n' c' Tryd.underlying22
  have KA : Free.Bel w (w.alloc (.cells #[] 47)) := belAlloc _ _
  cases hpc : p with
  | none =>
    obtain ⟨h1, rfl⟩ := HNIL.out hpc
    obtain rfl : xs = [] := List.eq_nil_of_length_eq_zero h1
    subst hpc
    clear h1
    go_enter Tryd.func71, Tryd.ntmps71
    go_wp2_with fail
    go_ret
    exact ⟨_, rfl, by simpa [cellsR] using World.ownsRow_nil _ _ _ _, Below.refl _ _⟩
  | some ad =>
    subst hpc
    go_enter Tryd.func71, Tryd.ntmps71
    go_wp2_with (first | (at_builtin; go_loud (refine wpList_append_full rfl _ _ 22 rfl w.heap.size 47 i0 (.agg #[.int .i64 0, .int .i64 0, .int .i64 0]) 3 24 Tryd.underlying22 HZ.out.1 HZ.out.2.1 HZ.out.2.2.1 HZ.out.2.2.2 rfl (by decide) w.heap.size 0 #[] rfl (World.alloc_heap_new _ _) rfl (Nat.le_refl _) (some ad) xs.length cp (cellsR xs) rfl (cellsR_length xs) (HNEW.out _ KA) HNIL.out (by unfold maxLen; omega) (by omega) ?_); intro v9 w9 ho9 hb9) | fail)
    go_ret
    exact ⟨_, rfl, by simpa using ho9, bt KA hb9⟩
end Go.Proofs.YtknpglgpkkhhiaaDoor

/- The program's Put. -/
namespace Go.Proofs.YtknpglgpkkhhiaaDoor
set_option linter.unusedSimpArgs false
set_option linter.unusedVariables false
open Go.RowKit Go.Proofs.YtknpglgpkkhhiaaDoor.Free2

def putE (h : Int) (xs : List Rk) (x : Rk) : Int := if watchB h xs = false then 70 else if xs.length = 4 then 9 else if watchB h (insR x xs) = true then 0 else 71
def putH (h : Int) (xs : List Rk) (x : Rk) : Int := if putE h xs x = 0 then h else 0
def putL (h : Int) (xs : List Rk) (x : Rk) : List Rk := if putE h xs x = 0 then insR x xs else []
theorem ord_skip {X : XT} (h : X 7 ≠ none → X 1 ≠ none) (n : Nat) (v : Value) (hn : n ≠ 7) : upd X n v 7 ≠ none → upd X n v 1 ≠ none := by
  intro h7
  rw [upd_other _ _ hn.symm] at h7
  by_cases e : n = 1
  · subst e; rw [upd_same]; simp
  · rw [upd_other _ _ (Ne.symm e)]; exact h h7
theorem insP_length (x : Rk) (xs : List Rk) : (insP x xs).length = xs.length + 1 := by rw [(insP_perm x xs).length_eq]; rfl
theorem rises_pair : ∀ {xs : List Rk} {l : Int}, risesB l xs = true → (xs.map (·.1)).Pairwise (· < ·)
  | [], _, _ => .nil
  | y :: r, l, h => by
    have h' := h
    simp only [risesB, Bool.and_eq_true] at h'
    rw [List.map_cons, List.pairwise_cons]
    refine ⟨fun a ha => ?_, rises_pair h'.2.2.2⟩
    obtain ⟨z, hz, rfl⟩ := List.mem_map.1 ha
    exact (risesB_nodup h'.2.2.2).1 z hz
/-- The rick that was put stands where its number is found. -/
theorem put_found {h : Int} {xs : List Rk} {x : Rk} (hw : watchB h (insP x xs) = true) {r : Int} (hr : RickIs (insP x xs) x.1 r) : ∃ k : Nat, ∃ hk : k < (insP x xs).length, r = k ∧ (insP x xs)[k] = x := by
  have hm : x ∈ insP x xs := (insP_perm x xs).mem_iff.2 (by simp)
  rcases hr with ⟨_, h9⟩ | ⟨k, hk, h8, h7, _⟩
  · exact absurd rfl (h9 x hm)
  · refine ⟨k, hk, h8, ?_⟩
    obtain ⟨j, hj, hjx⟩ := List.mem_iff_getElem.1 hm
    have hnd := (risesB_nodup (watchB_iff.1 hw).2.2).2
    have he : j = k := by
      rw [List.nodup_iff_pairwise_ne, List.pairwise_iff_getElem] at hnd
      rcases Nat.lt_trichotomy j k with h1 | h1 | h1
      · have := hnd j k (by simpa using hj) (by simpa using hk) h1
        simp [hjx, h7] at this
      · exact h1
      · have := hnd k j (by simpa using hk) (by simpa using hj) h1
        simp [hjx, h7] at this
    subst he
    exact hjx

set_option maxRecDepth 100000 in
set_option maxHeartbeats 16000000 in
theorem putP_v (h x1 x2 x3 : Int) (xs : List Rk) (u : Value) (w : World) (hT : TabR w) (hu : RL xs u w) (hz : NZ u) (E Hh : Int) (hE : Hid (putE h xs (x1, x2, x3) = E)) (hHh : Hid (putH h xs (x1, x2, x3) = Hh)) :
    Calls Tryd.prog 43 #[.agg #[.int .i64 h, u], .agg #[.int .i64 x1, .int .i64 x2, .int .i64 x3]] w fun e w' => (∃ v, e = .returned (.tuple #[.agg #[.int .i64 Hh, v], .int .i64 E]) ∧ w'.ownsRow w.heap.size 47 3 v (putL h xs (x1, x2, x3)).length (cellsR (putL h xs (x1, x2, x3)))) ∧ Below w.heap.size w w' := by
  have HU := Lib.hid hu
  obtain ⟨p, cp, rfl, hm, _⟩ := hu
  have HNZ := Lib.hid hz
  have HTAB := Lib.hid hT
  obtain ⟨i0, hi0, hz0, hz1, hz2⟩ := info_parts T.infoRick
  have HZ := Lib.hid (And.intro hi0 (And.intro hz0 (And.intro hz1 hz2)))
  clear hi0 hz0 hz1 hz2 hz hT
  have KB : Free.Bel w (((w.alloc (.cells #[.int .i64 h, .slice p xs.length cp] 24)).alloc (.cells #[.int .i64 x1, .int .i64 x2, .int .i64 x3] 47)).alloc (.cells #[.int .i64 0, .slice none 0 0] 24)) := Bel.allocT (Bel.allocT (Bel.allocT (Free.Bel.refl _) _) _) _
  have m0 : (((w.alloc (.cells #[.int .i64 h, .slice p xs.length cp] 24)).alloc (.cells #[.int .i64 x1, .int .i64 x2, .int .i64 x3] 47)).alloc (.cells #[.int .i64 0, .slice none 0 0] 24)).heap[w.heap.size]? = some (.cells #[.int .i64 h, .slice p xs.length cp] 24 (0, 0)) := heap_old (heap_old (World.alloc_heap_new w _))
  have m2 : (((w.alloc (.cells #[.int .i64 h, .slice p xs.length cp] 24)).alloc (.cells #[.int .i64 x1, .int .i64 x2, .int .i64 x3] 47)).alloc (.cells #[.int .i64 0, .slice none 0 0] 24)).heap[w.heap.size + 1]? = some (.cells #[.int .i64 x1, .int .i64 x2, .int .i64 x3] 47 (0, 0)) := heap_old (by
    have := World.alloc_heap_new (w.alloc (.cells #[.int .i64 h, .slice p xs.length cp] 24)) (.cells #[.int .i64 x1, .int .i64 x2, .int .i64 x3] 47)
    simpa using this)
  have m1 : (((w.alloc (.cells #[.int .i64 h, .slice p xs.length cp] 24)).alloc (.cells #[.int .i64 x1, .int .i64 x2, .int .i64 x3] 47)).alloc (.cells #[.int .i64 0, .slice none 0 0] 24)).heap[w.heap.size + 1 + 1]? = some (.cells #[.int .i64 0, .slice none 0 0] 24 (0, 0)) := by
    have := World.alloc_heap_new ((w.alloc (.cells #[.int .i64 h, .slice p xs.length cp] 24)).alloc (.cells #[.int .i64 x1, .int .i64 x2, .int .i64 x3] 47)) (.cells #[.int .i64 0, .slice none 0 0] 24)
    simpa using this
  have FA : ∀ W, Free.Bel (((w.alloc (.cells #[.int .i64 h, .slice p xs.length cp] 24)).alloc (.cells #[.int .i64 x1, .int .i64 x2, .int .i64 x3] 47)).alloc (.cells #[.int .i64 0, .slice none 0 0] 24)) W → W.cell? ⟨w.heap.size, 0, none⟩ = some (.int .i64 h) ∧ W.cell? ⟨w.heap.size, 1, none⟩ = some (.slice p xs.length cp) ∧ W.cell? ⟨w.heap.size + 1, 0, none⟩ = some (.int .i64 x1) ∧ W.cell? ⟨w.heap.size + 1, 1, none⟩ = some (.int .i64 x2) ∧ W.cell? ⟨w.heap.size + 1, 2, none⟩ = some (.int .i64 x3) ∧ W.cell? ⟨w.heap.size + 1 + 1, 0, none⟩ = some (.int .i64 0) ∧ W.cell? ⟨w.heap.size + 1 + 1, 1, none⟩ = some (.slice none 0 0) ∧ W.frozen? ⟨w.heap.size + 1 + 1, 0, none⟩ = false ∧ W.frozen? ⟨w.heap.size + 1 + 1, 1, none⟩ = false := fun W hW => ⟨keepsB hW (cell_of_heap m0 rfl), keepsB hW (cell_of_heap m0 rfl), keepsB hW (cell_of_heap m2 rfl), keepsB hW (cell_of_heap m2 rfl), keepsB hW (cell_of_heap m2 rfl), keepsB hW (cell_of_heap m1 rfl), keepsB hW (cell_of_heap m1 rfl), frozB hW (cell_of_heap (o := 0) m1 rfl) (frozen_of_heap m1), frozB hW (cell_of_heap (o := 1) m1 rfl) (frozen_of_heap m1)⟩
  have HRZ : Hid (∀ W, Free.Bel (((w.alloc (.cells #[.int .i64 h, .slice p xs.length cp] 24)).alloc (.cells #[.int .i64 x1, .int .i64 x2, .int .i64 x3] 47)).alloc (.cells #[.int .i64 0, .slice none 0 0] 24)) W → W.heap[w.heap.size]? = some (.cells #[.int .i64 h, .slice p xs.length cp] 24 (0, 0)) ∧ W.heap[w.heap.size + 1]? = some (.cells #[.int .i64 x1, .int .i64 x2, .int .i64 x3] 47 (0, 0)) ∧ W.heap[w.heap.size + 1 + 1]? = some (.cells #[.int .i64 0, .slice none 0 0] 24 (0, 0))) := fun W hW => ⟨(hW.block _ (lt_of_heap m0)).trans m0, (hW.block _ (lt_of_heap m2)).trans m2, (hW.block _ (lt_of_heap m1)).trans m1⟩
  have KE : Free.Bel (((w.alloc (.cells #[.int .i64 h, .slice p xs.length cp] 24)).alloc (.cells #[.int .i64 x1, .int .i64 x2, .int .i64 x3] 47)).alloc (.cells #[.int .i64 0, .slice none 0 0] 24)) (((w.alloc (.cells #[.int .i64 h, .slice p xs.length cp] 24)).alloc (.cells #[.int .i64 x1, .int .i64 x2, .int .i64 x3] 47)).alloc (.cells #[.int .i64 0, .slice none 0 0] 24)) := Free.Bel.refl _
  clear m0 m1 m2
  cases hw : watchB h xs
  · have HC := Lib.hid (checkP_v h xs _ (((w.alloc (.cells #[.int .i64 h, .slice p xs.length cp] 24)).alloc (.cells #[.int .i64 x1, .int .i64 x2, .int .i64 x3] 47)).alloc (.cells #[.int .i64 0, .slice none 0 0] 24)) (HTAB.out.bel KB) (HU.out.keeps KB) 70 (by show _ = _; simp [hw]))
    have hE1 : putE h xs (x1, x2, x3) = 70 := by simp [putE, hw]
    obtain rfl : E = 70 := hE.out.symm.trans hE1
    obtain rfl : Hh = 0 := hHh.out.symm.trans (by rw [putH, hE1]; rfl)
    have HL : Hid (putL h xs (x1, x2, x3) = []) := by show _ = _; rw [putL, hE1]; rfl
    clear hw hE1
    go_enter Tryd.func43, Tryd.ntmps43
    go_wp2_with fail
    refine HC.out.mono ?_
    rintro e w1 ⟨rfl, hB1⟩
    have K1 : Free.Bel (((w.alloc (.cells #[.int .i64 h, .slice p xs.length cp] 24)).alloc (.cells #[.int .i64 x1, .int .i64 x2, .int .i64 x3] 47)).alloc (.cells #[.int .i64 0, .slice none 0 0] 24)) w1 := hB1
    clear hB1 KE
    go_wp2_with fail
    have hrz := (HRZ.out _ K1).2.2
    have hst := two_stores (.int .i64 0) (.slice none 0 0) (cell_of_heap (o := 0) hrz rfl) (cell_of_heap (o := 1) hrz rfl)
    exact bodyPost_ret (v := .tuple #[.agg #[.int .i64 0, .slice none 0 0], .int .i64 70]) (by simp [results, Tryd.results43, go_sem, hst]) rfl ⟨⟨_, rfl, by rw [HL.out]; simpa [cellsR] using World.ownsRow_nil _ _ _ _⟩, ((bt KB K1).setCell (by simp; omega) _).setCell (by simp; omega) _⟩
  · have HC := Lib.hid (checkP_v h xs _ (((w.alloc (.cells #[.int .i64 h, .slice p xs.length cp] 24)).alloc (.cells #[.int .i64 x1, .int .i64 x2, .int .i64 x3] 47)).alloc (.cells #[.int .i64 0, .slice none 0 0] 24)) (HTAB.out.bel KB) (HU.out.keeps KB) 0 (by show _ = _; simp [hw]))
    have HW := Lib.hid hw
    have hx4 := (watchB_iff.1 hw).2.1
    clear hw
    go_enter Tryd.func43, Tryd.ntmps43
    go_wp2_with fail
    refine HC.out.mono ?_
    rintro e w1 ⟨rfl, hB1⟩
    have K1 : Free.Bel (((w.alloc (.cells #[.int .i64 h, .slice p xs.length cp] 24)).alloc (.cells #[.int .i64 x1, .int .i64 x2, .int .i64 x3] 47)).alloc (.cells #[.int .i64 0, .slice none 0 0] 24)) w1 := hB1
    clear hB1 KE
    by_cases h4 : xs.length = 4
    · have hE1 : putE h xs (x1, x2, x3) = 9 := by rw [putE, if_neg (by rw [HW.out]; simp), if_pos h4]
      obtain rfl : E = 9 := hE.out.symm.trans hE1
      obtain rfl : Hh = 0 := hHh.out.symm.trans (by rw [putH, hE1]; rfl)
      have HL : Hid (putL h xs (x1, x2, x3) = []) := by show _ = _; rw [putL, hE1]; rfl
      have g0 : ((xs.length : Int) == 4) = true := by simp; omega
      have H4 := Lib.hid h4
      clear hE1 h4 hx4
      go_wp2_with fail
      have hrz := (HRZ.out _ K1).2.2
      have hst := two_stores (.int .i64 0) (.slice none 0 0) (cell_of_heap (o := 0) hrz rfl) (cell_of_heap (o := 1) hrz rfl)
      exact bodyPost_ret (v := .tuple #[.agg #[.int .i64 0, .slice none 0 0], .int .i64 9]) (by simp [results, Tryd.results43, go_sem, hst]) rfl ⟨⟨_, rfl, by rw [HL.out]; simpa [cellsR] using World.ownsRow_nil _ _ _ _⟩, ((bt KB K1).setCell (by simp; omega) _).setCell (by simp; omega) _⟩
    · have g0 : ((xs.length : Int) == 4) = false := by simp; omega
      have hE1 : putE h xs (x1, x2, x3) = if watchB h (insR (x1, x2, x3) xs) = true then 0 else 71 := by rw [putE, if_neg (by rw [HW.out]; simp), if_neg h4]
      have HE1 := Lib.hid hE1
      have hs1 : w.heap.size + 1 + 1 + 1 ≤ w1.heap.size := by have := K1.size; simp at this; omega
      have H3 : Hid (xs.length ≤ 3) := by show _ ≤ _; omega
      clear hE1
      go_wp2_with fail
      have hF : ∀ W, RZ w1.heap.size w.heap.size w1.drew W → (W.cell? ⟨w.heap.size + 1, 0, none⟩ = some (.int .i64 x1) ∧ W.cell? ⟨w.heap.size + 1, 1, none⟩ = some (.int .i64 x2) ∧ W.cell? ⟨w.heap.size + 1, 2, none⟩ = some (.int .i64 x3)) ∧ Below w.heap.size w W := fun W hW => by
        obtain ⟨_, _, z0, z1, z2, _⟩ := FA w1 K1
        exact ⟨⟨hW.cell (show w1.drew.cell? _ = _ from z0) (by simp; omega) (by simp), hW.cell (show w1.drew.cell? _ = _ from z1) (by simp; omega) (by simp), hW.cell (show w1.drew.cell? _ = _ from z2) (by simp; omega) (by simp)⟩, RZ.below ((bt KB K1).drew) hW (by omega) (Nat.le_refl _)⟩
      have hrz2 : w1.drew.heap[w.heap.size]? = some (.cells #[.int .i64 h, .slice p xs.length cp] 24 (0, 0)) := (show w1.heap[w.heap.size]? = _ from (HRZ.out w1 K1).1)
      refine Free2.wp_free (R := RZ w1.heap.size w.heap.size) (J := (fun X w9 => JS w1.heap.size 47 3 [⟨2, 5, xs.length, cellsR xs⟩, ⟨4, 5, 1, cellsR [(x1, x2, x3)]⟩, ⟨5, 1000, xs.length + 1, cellsR (xs ++ [(x1, x2, x3)])⟩] 5 999 7 w.heap.size id (.cells #[.int .i64 h, .slice p xs.length cp] 24 (0, 0)) (fun u => .cells #[.int .i64 h, u] 24 (0, 0)) X w9 ∧ (X 7 ≠ none → X 1 ≠ none))) (by kernel_rfl) (by kernel_rfl) (RZ.refl _ _) RZ.trans ⟨JS.start (Nat.le_refl _) (by omega) hrz2, fun h => absurd rfl h⟩ ?_
      refine Free2.Chain.ex ?_ 0 rfl [] [2] (by kernel_rfl) (by kernel_rfl) rfl (RZ.refl _ _) (fun X W v h => ⟨JS.skip h.1 0 v (by simp) (by simp) (by simp) (by simp), ord_skip h.2 0 v (by simp)⟩) ?_ ?_
      rotate_left
      · (intro ev W hb hR hO hD; have hS := hF W hR; obtain ⟨hS, hS2⟩ := hS; obtain ⟨hb1, hb2, hb3⟩ := hb; simp only [Free.AllDeps, Free.AllOuts, Free.At, al1, al2, al3, al4, al5, and_true] at hO hD; go_simp; rfl)
      simp only [an1, an2]
      refine Free2.Chain.pr (fun v _ => v = .slice p xs.length cp) 1 rfl [(0, 18)] [] (by kernel_rfl) (by kernel_rfl) rfl (fun _ _ _ _ h => h) ?_ ?_
      · (intro ev W X hb hR hO hD hj hx hax; have hS := hF W hR; obtain ⟨hb1, hb2, hb3⟩ := hb; simp only [Free.AllDeps, Free.AllOuts, Free.At, al1, al2, al3, al4, al5, and_true] at hO hD; simp only [Free2.AllX, and_true] at hax; obtain ⟨hS, hS2⟩ := hS; have h7 : X 7 = none := (by cases h9 : X 7; rfl; exact absurd hx (hj.2 (by rw [h9]; simp))); have hq1 := cell_of_heap (o := 1) (hj.1.st0 h7) rfl; go_simp; exact ⟨RZ.refl _ _ _, rfl, ⟨JS.skip hj.1 1 _ (by simp) (by simp) (by simp) (by simp), ord_skip hj.2 1 _ (by simp)⟩⟩)
      simp only [an1, an2]
      refine Free2.Chain.pr (fun v _ => True) 2 rfl [(1, 19)] [] (by kernel_rfl) (by kernel_rfl) rfl (fun _ _ _ _ h => h) ?_ ?_
      · (intro ev W X hb hR hO hD hj hx hax; have hS := hF W hR; obtain ⟨hb1, hb2, hb3⟩ := hb; simp only [Free.AllDeps, Free.AllOuts, Free.At, al1, al2, al3, al4, al5, and_true] at hO hD; simp only [Free2.AllX, and_true] at hax; obtain ⟨hS, hS2⟩ := hS; go_simp; refine yields_enter ?_; (with_reducible refine (clone_any xs _ W (HU.out.keeps hS2) HNZ.out (by omega)).mono ?_); rintro e W2 ⟨v2, rfl, ho2, hB2⟩; exact ⟨_, rfl, RZ.of_bel hB2 hj.1.jr.size, JS.new hj.1 ⟨2, 5, xs.length, cellsR xs⟩ (by simp) (by simp) (by simp) (by simp) (by simp) hB2 ho2, ord_skip hj.2 2 _ (by simp)⟩)
      simp only [an1, an2]
      refine Free2.Chain.ex ?_ 3 rfl [] [3] (by kernel_rfl) (by kernel_rfl) rfl (RZ.refl _ _) (fun X W v h => ⟨JS.skip h.1 3 v (by simp) (by simp) (by simp) (by simp), ord_skip h.2 3 v (by simp)⟩) ?_ ?_
      rotate_left
      · (intro ev W hb hR hO hD; have hS := hF W hR; obtain ⟨hS, hS2⟩ := hS; obtain ⟨hb1, hb2, hb3⟩ := hb; simp only [Free.AllDeps, Free.AllOuts, Free.At, al1, al2, al3, al4, al5, and_true] at hO hD; go_simp; rfl)
      simp only [an1, an2]
      refine Free2.Chain.pr (fun v _ => True) 4 rfl [(3, 21)] [] (by kernel_rfl) (by kernel_rfl) rfl (fun _ _ _ _ h => h) ?_ ?_
      · (intro ev W X hb hR hO hD hj hx hax; have hS := hF W hR; obtain ⟨hb1, hb2, hb3⟩ := hb; simp only [Free.AllDeps, Free.AllOuts, Free.At, al1, al2, al3, al4, al5, and_true] at hO hD; simp only [Free2.AllX, and_true] at hax; obtain ⟨hS, hS2⟩ := hS; go_simp; exact ⟨RZ.of_bel (belAlloc _ _) hj.1.jr.size, JS.new hj.1 ⟨4, 5, 1, cellsR [(x1, x2, x3)]⟩ (by simp) (by simp) (by simp) (by simp) (by simp) (belAlloc _ _) (World.ownsRow_lit W #[.int .i64 x1, .int .i64 x2, .int .i64 x3] 1 (Nat.le_refl _) (by unfold maxLen; omega) rfl), ord_skip hj.2 4 _ (by simp)⟩)
      simp only [an1, an2]
      refine Free2.Chain.pr (fun v _ => True) 5 rfl [(2, 20), (4, 22), (2, 20)] [] (by kernel_rfl) (by kernel_rfl) rfl (fun _ _ _ _ h => h) ?_ ?_
      · (intro ev W X hb hR hO hD hj hx hax; have hS := hF W hR; obtain ⟨hb1, hb2, hb3⟩ := hb; simp only [Free.AllDeps, Free.AllOuts, Free.At, al1, al2, al3, al4, al5, and_true] at hO hD; simp only [Free2.AllX, and_true] at hax; obtain ⟨hS, hS2⟩ := hS; have ha1 := hax.1; have hr1 := hj.1.jr.row ⟨2, 5, xs.length, cellsR xs⟩ (by simp) hx _ ha1; have hr2 := hj.1.jr.row ⟨4, 5, 1, cellsR [(x1, x2, x3)]⟩ (by simp) hx _ hax.2.1; obtain ⟨p8, c8, e8⟩ := row_slice hr2; simp only at e8 hr1 hr2; have hs8 : ∀ ad, p8 = some ad → ∀ j u, (cellsR [(x1, x2, x3)])[j]? = some u → W.cell? (ad.add j) = some u := (fun ad he j u hju => by obtain ⟨g, cap, cur, h9, hb9, hg9, _⟩ := hr2.2.resolve_left (fun h => absurd h.2 (by decide)); rw [e8] at h9; simp only [Value.slice.injEq] at h9; rw [e8, h9.1] at hr2; rw [h9.1] at he; cases he; exact hr2.cells (g := g) (by simp [Value.ownBlock]) j u hju); refine yields_append_row W _ (.tmp 20) (.tmp 22) 22 rfl w1.heap.size 47 i0 (.agg #[.int .i64 0, .int .i64 0, .int .i64 0]) 3 24 Tryd.underlying22 HZ.out.1 HZ.out.2.1 HZ.out.2.2.1 HZ.out.2.2.2 rfl (by decide) _ xs.length (cellsR xs) rfl hr1 p8 1 c8 (cellsR [(x1, x2, x3)]) e8 rfl hs8 (fun he => by obtain ⟨g, cap, cur, h9, _⟩ := hr2.2.resolve_left (fun h => absurd h.2 (by decide)); rw [e8, he] at h9; cases h9) (cellsR_one _) (by unfold maxLen; omega) (by omega) hj.1.jr.size ?_; intro v9 w9 ho9 hk9; have hbl := hk9.below hr1 hj.1.jr.size; exact ⟨RZ.of_below hbl, trivial, JS.take hj.1 ⟨2, 5, xs.length, cellsR xs⟩ ⟨5, 1000, xs.length + 1, cellsR (xs ++ [(x1, x2, x3)])⟩ (by simp) (by simp) rfl (by simp) (by simp) (by simp) (by simp) ha1 hx hk9 (by rw [cellsR_append]; exact ho9), ord_skip hj.2 5 _ (by simp)⟩)
      simp only [an1, an2]
      refine Free2.Chain.ex ?_ 6 rfl [(0, 18), (1, 19), (2, 20), (3, 21), (4, 22), (5, 23)] [2] (by kernel_rfl) (by kernel_rfl) rfl (RZ.refl _ _) (fun X W v h => ⟨JS.skip h.1 6 v (by simp) (by simp) (by simp) (by simp), ord_skip h.2 6 v (by simp)⟩) ?_ ?_
      rotate_left
      · (intro ev W hb hR hO hD; have hS := hF W hR; obtain ⟨hS, hS2⟩ := hS; obtain ⟨hb1, hb2, hb3⟩ := hb; simp only [Free.AllDeps, Free.AllOuts, Free.At, al1, al2, al3, al4, al5, and_true] at hO hD; go_simp; rfl)
      simp only [an1, an2]
      refine Free2.Chain.pr (fun v _ => True) 7 rfl [(6, 24), (5, 23), (5, 23), (0, 18), (1, 19), (2, 20), (3, 21), (4, 22), (5, 23)] [] (by kernel_rfl) (by kernel_rfl) rfl (fun _ _ _ _ h => h) ?_ ?_
      · (intro ev W X hb hR hO hD hj hx hax; have hS := hF W hR; obtain ⟨hb1, hb2, hb3⟩ := hb; simp only [Free.AllDeps, Free.AllOuts, Free.At, al1, al2, al3, al4, al5, and_true] at hO hD; simp only [Free2.AllX, and_true] at hax; obtain ⟨hS, hS2⟩ := hS; have hr5 := hj.1.jr.row ⟨5, 1000, xs.length + 1, cellsR (xs ++ [(x1, x2, x3)])⟩ (by simp) hj.1.jr.nv _ hax.2.1; obtain ⟨p8, c8, e8⟩ := row_slice hr5; simp only at e8; have hzz := hj.1.st0 hx; have q1 := cell_of_heap (o := 1) hzz rfl; have f1 := frozen_of_heap (o := 1) hzz; have hv5 := hax.2.1; rw [e8] at hv5; go_simp; have h9 := heap_setCell_same (o := 1) (.slice p8 (xs.length + 1) c8) hzz; exact ⟨RZ.set, JS.store hj.1 (by simp) (by simp) (by simp) (by simp) hv5 (by simp) (by simpa using h9) (fun q hq => heap_setCell_other hq), fun _ => by rw [upd_other _ _ (by simp)]; rw [hax.2.2.2.2.1]; simp⟩)
      simp only [an1, an2]
      intro ys w2 hR hV hX
      obtain ⟨X, hj, hxx⟩ := hX
      simp only [Free.AllV, Free.At, List.length_cons, List.length_nil, Nat.reduceAdd, List.getElem?_cons_succ, List.getElem?_cons_zero, true_and, and_true] at hV
      simp only [Free.putsFrom, Act.put, Nat.zero_add, Nat.reduceAdd, hV, List.setIfInBounds_toArray, List.set_cons_succ, List.set_cons_zero]
      have hx7 : X 7 = some (ys 7) := hxx 7 (by decide)
      obtain ⟨v5, hv5, hb5⟩ := hj.1.st1 (by rw [hx7]; simp)
      have hr5 := hj.1.jr.row ⟨5, 1000, xs.length + 1, cellsR (xs ++ [(x1, x2, x3)])⟩ (by simp) hj.1.jr.nv _ hv5
      simp only at hr5
      obtain ⟨g, cap, hvg, hgg⟩ : ∃ g cap, v5 = .slice (some ⟨g, 0, none⟩) (xs.length + 1) cap ∧ w1.heap.size ≤ g ∧ g < w2.heap.size := by
        rcases hr5.2 with ⟨_, h9⟩ | ⟨g, cap, cur, h9, hb9, hg9, _⟩
        · omega
        · exact ⟨g, cap, h9, hb9, lt_of_heap hg9⟩
      subst hvg
      have hBW := (hF w2 hR).2
      have hoth : ∀ k, k < w1.heap.size → k ≠ w.heap.size → w2.heap[k]? = w1.heap[k]? := fun k h1 h2 => hR.block k h1 h2
      have q1 := cell_of_heap (o := 1) hb5 rfl
      have hsize2 : w1.heap.size ≤ w2.heap.size := hR.size
      have hd5 : (xs ++ [(x1, x2, x3)]).toArray.size = xs.length + 1 := by simp
      have hso := sortStable_any g cap (xs ++ [(x1, x2, x3)]).toArray w2 (holds3 hr5 (by simp)) hgg.2 (by have := H3.out; omega)
      obtain ⟨hs3, hs4⟩ := sorted3 (rises_pair (watchB_iff.1 HW.out).2.2) H3.out (x1, x2, x3)
      rw [hd5] at hso
      have hsp : ∀ m os, (sortWorldK enc3 3 w2 g 0 m (Sort.insertionSort (ltOf cfR) (xs ++ [(x1, x2, x3)]).toArray 0 (xs.length + 1)) os).ownsRow w1.heap.size 47 3 (.slice (some ⟨g, 0, none⟩) (xs.length + 1) cap) (xs.length + 1) (cellsR (insP (x1, x2, x3) xs)) ∧ (∀ k, k < w2.heap.size → k ≠ g → (sortWorldK enc3 3 w2 g 0 m (Sort.insertionSort (ltOf cfR) (xs ++ [(x1, x2, x3)]).toArray 0 (xs.length + 1)) os).heap[k]? = w2.heap[k]?) ∧ w2.heap.size ≤ (sortWorldK enc3 3 w2 g 0 m (Sort.insertionSort (ltOf cfR) (xs ++ [(x1, x2, x3)]).toArray 0 (xs.length + 1)) os).heap.size := fun m os => by
        have := row_sorted (m := m) (os := os) (d := Sort.insertionSort (ltOf cfR) (xs ++ [(x1, x2, x3)]).toArray 0 (xs.length + 1)) hr5 (by simp) hs4
        rw [hs3] at this
        exact this
      have hos : ∀ m os, (sortWorldK enc3 3 w2 g 0 m (Sort.insertionSort (ltOf cfR) (xs ++ [(x1, x2, x3)]).toArray 0 (xs.length + 1)) os).os = w2.os ∧ (sortWorldK enc3 3 w2 g 0 m (Sort.insertionSort (ltOf cfR) (xs ++ [(x1, x2, x3)]).toArray 0 (xs.length + 1)) os).tape = w2.tape ∧ (sortWorldK enc3 3 w2 g 0 m (Sort.insertionSort (ltOf cfR) (xs ++ [(x1, x2, x3)]).toArray 0 (xs.length + 1)) os).output = w2.output := fun m os => ⟨rfl, rfl, rfl⟩
      have HSP := Lib.hid (And.intro hsp hos)
      have HB5 := Lib.hid hb5
      have HSO := Lib.hid hso
      have HBW := Lib.hid hBW
      have HOTH := Lib.hid hoth
      clear hR hV hF hj hxx hx7 hrz2 hr5 hso hs3 hs4 hsp hos hd5 hb5 hBW hoth hv5
      generalize Sort.insertionSort (ltOf cfR) (xs ++ [(x1, x2, x3)]).toArray 0 (xs.length + 1) = srt at *
      go_wp2_with fail
      refine HSO.out.mono ?_
      rintro e w3 ⟨rfl, m, os, hw3⟩
      have hrow3 := (HSP.out.1 m os).1
      have hblk3 := (HSP.out.1 m os).2.1
      have hsz3 := (HSP.out.1 m os).2.2
      have hos3 := HSP.out.2 m os
      rw [← hw3] at hrow3 hblk3 hsz3 hos3
      have hB3 : Below w.heap.size w w3 := ⟨hos3.1.trans HBW.out.os, hos3.2.1.trans HBW.out.tape, hos3.2.2.trans HBW.out.output, Nat.le_trans HBW.out.size hsz3, fun k hk => (hblk3 k (by omega) (by omega)).trans (HBW.out.block k hk)⟩
      have hb3 : w3.heap[w.heap.size]? = some (.cells #[.int .i64 h, .slice (some ⟨g, 0, none⟩) (xs.length + 1) cap] 24 (0, 0)) := (hblk3 _ (by omega) (by omega)).trans HB5.out
      have hx3 : w3.heap[w.heap.size + 1]? = some (.cells #[.int .i64 x1, .int .i64 x2, .int .i64 x3] 47 (0, 0)) := (hblk3 _ (by omega) (by omega)).trans ((HOTH.out _ (by omega) (by omega)).trans (HRZ.out w1 K1).2.1)
      have hrz3 : w3.heap[w.heap.size + 1 + 1]? = some (.cells #[.int .i64 0, .slice none 0 0] 24 (0, 0)) := (hblk3 _ (by omega) (by omega)).trans ((HOTH.out _ (by omega) (by omega)).trans (HRZ.out w1 K1).2.2)
      have hrl3 : RL (insP (x1, x2, x3) xs) (.slice (some ⟨g, 0, none⟩) (xs.length + 1) cap) w3 := RL.of_row (insP_length _ _) (by have := H3.out; unfold maxLen; omega) hrow3
      have HALL := Lib.hid (And.intro hB3 (And.intro hb3 (And.intro hx3 (And.intro hrz3 (And.intro hrow3 hrl3)))))
      have b0 := cell_of_heap (o := 0) hb3 rfl
      have b1 := cell_of_heap (o := 1) hb3 rfl
      have y0 := cell_of_heap (o := 0) hx3 rfl
      have y1 := cell_of_heap (o := 1) hx3 rfl
      have y2 := cell_of_heap (o := 2) hx3 rfl
      clear hw3 hrow3 hblk3 hsz3 hos3 hB3 hb3 hx3 hrz3 hrl3 HSP HSO HB5 HOTH HBW q1 FA
      obtain ⟨q, hq⟩ : ∃ q, watchB h (insP (x1, x2, x3) xs) = q := ⟨_, rfl⟩
      have hq2 : watchB h (insR (x1, x2, x3) xs) = q := by rw [← ins_watch.1]; exact hq
      have HQ := Lib.hid hq
      cases q
      · obtain rfl : E = 71 := hE.out.symm.trans (by rw [HE1.out, hq2]; rfl)
        have hE2 := hE.out
        obtain rfl : Hh = 0 := hHh.out.symm.trans (by rw [putH, hE2]; rfl)
        have HL : Hid (putL h xs (x1, x2, x3) = []) := by show _ = _; rw [putL, hE2]; rfl
        have HCK := Lib.hid (fun W (hW : Free.Bel w3 W) => checkP_v h (insP (x1, x2, x3) xs) _ W (HTAB.out.bel (show Free.Bel w W from HALL.out.1.trans (hW.mono HALL.out.1.size))) (HALL.out.2.2.2.2.2.keeps hW) 70 (by show _ = _; simp [HQ.out]))
        clear hq hq2 hE2
        go_wp2_with fail
        have hF : ∀ W, Free.Bel w3.drew W → (W.cell? ⟨w.heap.size, 0, none⟩ = some (.int .i64 h) ∧ W.cell? ⟨w.heap.size, 1, none⟩ = some (.slice (some ⟨g, 0, none⟩) (xs.length + 1) cap) ∧ W.cell? ⟨w.heap.size + 1, 0, none⟩ = some (.int .i64 x1) ∧ W.cell? ⟨w.heap.size + 1, 1, none⟩ = some (.int .i64 x2) ∧ W.cell? ⟨w.heap.size + 1, 2, none⟩ = some (.int .i64 x3)) ∧ Free.Bel w3 W := fun W hW => ⟨⟨keepsB (Free.Bel.first hW) b0, keepsB (Free.Bel.first hW) b1, keepsB (Free.Bel.first hW) y0, keepsB (Free.Bel.first hW) y1, keepsB (Free.Bel.first hW) y2⟩, Free.Bel.first hW⟩
        refine Free.wp_free (R := Free.Bel) (by kernel_rfl) (by kernel_rfl) Free.Bel.refl Free.Bel.trans ?_
        refine Free.Chain.ex ?_ [] [2] (by kernel_rfl) (by kernel_rfl) rfl Free.Bel.refl ?_ ?_
        rotate_left 2
        simp only [an1, an2]
        rotate_left
        rotate_left
        · (intro ev W hb hR hO hD; have hS := hF W hR; obtain ⟨hS, hS2⟩ := hS; obtain ⟨hb1, hb2, hb3⟩ := hb; simp only [Free.AllDeps, Free.AllOuts, Free.At, al1, al2, al3, al4, al5, and_true] at hO hD; go_simp; rfl)
        refine Free.Chain.pr (fun v _ => v = .int .i64 70) [(0, 28)] [] (by kernel_rfl) (by kernel_rfl) rfl (fun _ _ _ _ h => h) ?_ ?_
        · (intro ev W hb hR hO hD; have hS := hF W hR; obtain ⟨hS, hS2⟩ := hS; obtain ⟨hb1, hb2, hb3⟩ := hb; simp only [Free.AllDeps, Free.AllOuts, Free.At, al1, al2, al3, al4, al5, and_true] at hO hD; go_simp; refine yields_enter ?_; (with_reducible refine (HCK.out W hS2).mono ?_); rintro e W2 ⟨rfl, hB2⟩; exact ⟨_, rfl, hB2, rfl⟩)
        simp only [an1, an2]
        refine Free.Chain.ex ?_ [(1, 29)] [] (by kernel_rfl) (by kernel_rfl) rfl Free.Bel.refl ?_ ?_
        rotate_left 2
        simp only [an1, an2]
        refine Free.Chain.ex ?_ [(2, 30), (1, 29)] [] (by kernel_rfl) (by kernel_rfl) rfl Free.Bel.refl ?_ ?_
        rotate_left 2
        simp only [an1, an2]
        rotate_left
        iterate 2 (rotate_left; intro ev W hb hR hO hD; have hS := hF W hR; obtain ⟨hS, hS2⟩ := hS; obtain ⟨hb1, hb2, hb3⟩ := hb; simp only [Free.AllDeps, Free.AllOuts, Free.At, al1, al2, al3, al4, al5, and_true] at hO hD; go_simp; rfl)
        refine Free.Chain.no [(3, 31)] [2] 3 false 31 (by kernel_rfl) (by kernel_rfl) rfl (by kernel_rfl) ?_ ?_
        · (intro ev W hR hD; simp only [Free.AllDeps, Free.At, List.getElem?_cons_succ, List.getElem?_cons_zero, and_true] at hD; simp [hD])
        simp only [an1, an2]
        refine Free.Chain.no [(4, 32), (3, 31)] [] 3 false 31 (by kernel_rfl) (by kernel_rfl) rfl (by kernel_rfl) ?_ ?_
        · (intro ev W hR hD; simp only [Free.AllDeps, Free.At, List.getElem?_cons_succ, List.getElem?_cons_zero, and_true] at hD; simp [hD])
        simp only [an1, an2]
        refine Free.Chain.no [(3, 31)] [2] 3 false 31 (by kernel_rfl) (by kernel_rfl) rfl (by kernel_rfl) ?_ ?_
        · (intro ev W hR hD; simp only [Free.AllDeps, Free.At, List.getElem?_cons_succ, List.getElem?_cons_zero, and_true] at hD; simp [hD])
        simp only [an1, an2]
        refine Free.Chain.no [(3, 31)] [3] 3 false 31 (by kernel_rfl) (by kernel_rfl) rfl (by kernel_rfl) ?_ ?_
        · (intro ev W hR hD; simp only [Free.AllDeps, Free.At, List.getElem?_cons_succ, List.getElem?_cons_zero, and_true] at hD; simp [hD])
        simp only [an1, an2]
        refine Free.Chain.no [(7, 35), (3, 31)] [] 3 false 31 (by kernel_rfl) (by kernel_rfl) rfl (by kernel_rfl) ?_ ?_
        · (intro ev W hR hD; simp only [Free.AllDeps, Free.At, List.getElem?_cons_succ, List.getElem?_cons_zero, and_true] at hD; simp [hD])
        simp only [an1, an2]
        refine Free.Chain.no [(6, 34), (8, 36), (3, 31), (3, 31)] [] 3 false 31 (by kernel_rfl) (by kernel_rfl) rfl (by kernel_rfl) ?_ ?_
        · (intro ev W hR hD; simp only [Free.AllDeps, Free.At, List.getElem?_cons_succ, List.getElem?_cons_zero, and_true] at hD; simp [hD])
        simp only [an1, an2]
        refine Free.Chain.no [(5, 33), (9, 37), (3, 31)] [] 3 false 31 (by kernel_rfl) (by kernel_rfl) rfl (by kernel_rfl) ?_ ?_
        · (intro ev W hR hD; simp only [Free.AllDeps, Free.At, List.getElem?_cons_succ, List.getElem?_cons_zero, and_true] at hD; simp [hD])
        simp only [an1, an2]
        refine Free.Chain.no [(10, 38), (3, 31)] [] 3 false 31 (by kernel_rfl) (by kernel_rfl) rfl (by kernel_rfl) ?_ ?_
        · (intro ev W hR hD; simp only [Free.AllDeps, Free.At, List.getElem?_cons_succ, List.getElem?_cons_zero, and_true] at hD; simp [hD])
        simp only [an1, an2]
        refine Free.Chain.no [(3, 31)] [3] 3 false 31 (by kernel_rfl) (by kernel_rfl) rfl (by kernel_rfl) ?_ ?_
        · (intro ev W hR hD; simp only [Free.AllDeps, Free.At, List.getElem?_cons_succ, List.getElem?_cons_zero, and_true] at hD; simp [hD])
        simp only [an1, an2]
        refine Free.Chain.no [(11, 39), (12, 40), (3, 31)] [] 3 false 31 (by kernel_rfl) (by kernel_rfl) rfl (by kernel_rfl) ?_ ?_
        · (intro ev W hR hD; simp only [Free.AllDeps, Free.At, List.getElem?_cons_succ, List.getElem?_cons_zero, and_true] at hD; simp [hD])
        simp only [an1, an2]
        refine Free.Chain.ex ?_ [(3, 31), (13, 41)] [] (by kernel_rfl) (by kernel_rfl) rfl Free.Bel.refl ?_ ?_
        rotate_left 2
        simp only [an1, an2]
        rotate_left
        rotate_left
        · (intro ev W hb hR hO hD; have hS := hF W hR; obtain ⟨hS, hS2⟩ := hS; obtain ⟨hb1, hb2, hb3⟩ := hb; simp only [Free.AllDeps, Free.AllOuts, Free.At, al1, al2, al3, al4, al5, and_true] at hO hD; go_simp; rfl)
        intro zs w' hR hV
        simp only [Free.AllV, Free.At, List.length_cons, List.length_nil, Nat.reduceAdd, List.getElem?_cons_succ, List.getElem?_cons_zero, true_and] at hV
        simp only [Free.putsFrom, Act.put, Nat.zero_add, Nat.reduceAdd, hV, List.setIfInBounds_toArray, List.set_cons_succ, List.set_cons_zero]
        have K9 := (hF w' hR).2
        clear hR hV hF b0 b1 y0 y1 y2
        have hrz9 := (K9.block _ (lt_of_heap HALL.out.2.2.2.1)).trans HALL.out.2.2.2.1
        have z0 := cell_of_heap (o := 0) hrz9 rfl
        have z1 := cell_of_heap (o := 1) hrz9 rfl
        have z2 := frozen_of_heap (o := 0) hrz9
        have z3 := frozen_of_heap (o := 1) hrz9
        have HBE := Lib.hid (HALL.out.1.trans (K9.mono HALL.out.1.size))
        clear hrz9 K9
        go_wp2_with fail
        have hst := two_stores (.int .i64 0) (.slice none 0 0) z0 z1
        exact bodyPost_ret (v := .tuple #[.agg #[.int .i64 0, .slice none 0 0], .int .i64 71]) (by simp [results, Tryd.results43, go_sem, hst]) rfl ⟨⟨_, rfl, by rw [HL.out]; simpa [cellsR] using World.ownsRow_nil _ _ _ _⟩, (HBE.out.setCell (by simp; omega) _).setCell (by simp; omega) _⟩
      · obtain rfl : E = 0 := hE.out.symm.trans (by rw [HE1.out, hq2]; rfl)
        have hE2 := hE.out
        obtain rfl : Hh = h := hHh.out.symm.trans (by rw [putH, hE2]; rfl)
        have HL : Hid (putL Hh xs (x1, x2, x3) = insP (x1, x2, x3) xs) := by show _ = _; rw [putL, hE2, if_pos rfl, ins_watch.2 hq]
        have HCK := Lib.hid (fun W (hW : Free.Bel w3 W) => checkP_v Hh (insP (x1, x2, x3) xs) _ W (HTAB.out.bel (show Free.Bel w W from HALL.out.1.trans (hW.mono HALL.out.1.size))) (HALL.out.2.2.2.2.2.keeps hW) 0 (by show _ = _; simp [HQ.out]))
        obtain ⟨r, hr⟩ := RickIs.some (insP (x1, x2, x3) xs) x1
        obtain ⟨k, hk, hrk, hkx⟩ := put_found hq (x := (x1, x2, x3)) hr
        subst hrk
        have HIX := Lib.hid (fun W (hW : Free.Bel w3 W) => indexP_v Hh x1 (insP (x1, x2, x3) xs) _ W (HALL.out.2.2.2.2.2.keeps hW) (k : Int) hr)
        obtain ⟨c0, c1, c2, _⟩ := rick_row HALL.out.2.2.2.2.1 (insP_length _ _) k hk
        rw [hkx] at c0 c1 c2
        rw [insP_length] at hk
        have hklt : (k : Int) < (xs.length : Int) + 1 := by omega
        clear hq hq2 hE2 hkx hr
        go_wp2_with fail
        have hF : ∀ W, Free.Bel w3.drew W → (W.cell? ⟨w.heap.size, 0, none⟩ = some (.int .i64 Hh) ∧ W.cell? ⟨w.heap.size, 1, none⟩ = some (.slice (some ⟨g, 0, none⟩) (xs.length + 1) cap) ∧ W.cell? ⟨w.heap.size + 1, 0, none⟩ = some (.int .i64 x1) ∧ W.cell? ⟨w.heap.size + 1, 1, none⟩ = some (.int .i64 x2) ∧ W.cell? ⟨w.heap.size + 1, 2, none⟩ = some (.int .i64 x3) ∧ W.cell? ⟨g, k * 3, none⟩ = some (.int .i64 x1) ∧ W.cell? ⟨g, k * 3 + 1, none⟩ = some (.int .i64 x2) ∧ W.cell? ⟨g, k * 3 + 2, none⟩ = some (.int .i64 x3)) ∧ Free.Bel w3 W := fun W hW => ⟨⟨keepsB (Free.Bel.first hW) b0, keepsB (Free.Bel.first hW) b1, keepsB (Free.Bel.first hW) y0, keepsB (Free.Bel.first hW) y1, keepsB (Free.Bel.first hW) y2, keepsB (Free.Bel.first hW) c0, keepsB (Free.Bel.first hW) c1, keepsB (Free.Bel.first hW) c2⟩, Free.Bel.first hW⟩
        refine Free.wp_free (R := Free.Bel) (by kernel_rfl) (by kernel_rfl) Free.Bel.refl Free.Bel.trans ?_
        refine Free.Chain.ex ?_ [] [2] (by kernel_rfl) (by kernel_rfl) rfl Free.Bel.refl ?_ ?_
        rotate_left 2
        simp only [an1, an2]
        rotate_left
        rotate_left
        · (intro ev W hb hR hO hD; have hS := hF W hR; obtain ⟨hS, hS2⟩ := hS; obtain ⟨hb1, hb2, hb3⟩ := hb; simp only [Free.AllDeps, Free.AllOuts, Free.At, al1, al2, al3, al4, al5, and_true] at hO hD; go_simp; rfl)
        refine Free.Chain.pr (fun v _ => v = .int .i64 0) [(0, 28)] [] (by kernel_rfl) (by kernel_rfl) rfl (fun _ _ _ _ h => h) ?_ ?_
        · (intro ev W hb hR hO hD; have hS := hF W hR; obtain ⟨hS, hS2⟩ := hS; obtain ⟨hb1, hb2, hb3⟩ := hb; simp only [Free.AllDeps, Free.AllOuts, Free.At, al1, al2, al3, al4, al5, and_true] at hO hD; go_simp; refine yields_enter ?_; (with_reducible refine (HCK.out W hS2).mono ?_); rintro e W2 ⟨rfl, hB2⟩; exact ⟨_, rfl, hB2, rfl⟩)
        simp only [an1, an2]
        refine Free.Chain.ex ?_ [(1, 29)] [] (by kernel_rfl) (by kernel_rfl) rfl Free.Bel.refl ?_ ?_
        rotate_left 2
        simp only [an1, an2]
        refine Free.Chain.ex ?_ [(2, 30), (1, 29)] [] (by kernel_rfl) (by kernel_rfl) rfl Free.Bel.refl ?_ ?_
        rotate_left 2
        simp only [an1, an2]
        rotate_left
        iterate 2 (rotate_left; intro ev W hb hR hO hD; have hS := hF W hR; obtain ⟨hS, hS2⟩ := hS; obtain ⟨hb1, hb2, hb3⟩ := hb; simp only [Free.AllDeps, Free.AllOuts, Free.At, al1, al2, al3, al4, al5, and_true] at hO hD; go_simp; rfl)
        refine Free.Chain.exG ?_ [(3, 31)] [2] 3 false 31 (by kernel_rfl) (by kernel_rfl) rfl (by kernel_rfl) Free.Bel.refl ?_ ?_
        rotate_left 2
        simp only [an1, an2]
        refine Free.Chain.exG ?_ [(4, 32), (3, 31)] [] 3 false 31 (by kernel_rfl) (by kernel_rfl) rfl (by kernel_rfl) Free.Bel.refl ?_ ?_
        rotate_left 2
        simp only [an1, an2]
        refine Free.Chain.exG ?_ [(3, 31)] [2] 3 false 31 (by kernel_rfl) (by kernel_rfl) rfl (by kernel_rfl) Free.Bel.refl ?_ ?_
        rotate_left 2
        simp only [an1, an2]
        refine Free.Chain.exG ?_ [(3, 31)] [3] 3 false 31 (by kernel_rfl) (by kernel_rfl) rfl (by kernel_rfl) Free.Bel.refl ?_ ?_
        rotate_left 2
        simp only [an1, an2]
        refine Free.Chain.exG ?_ [(7, 35), (3, 31)] [] 3 false 31 (by kernel_rfl) (by kernel_rfl) rfl (by kernel_rfl) Free.Bel.refl ?_ ?_
        rotate_left 2
        simp only [an1, an2]
        rotate_left
        iterate 5 (rotate_left; intro ev W hb hR hO hD; have hS := hF W hR; obtain ⟨hS, hS2⟩ := hS; obtain ⟨hb1, hb2, hb3⟩ := hb; simp only [Free.AllDeps, Free.AllOuts, Free.At, al1, al2, al3, al4, al5, and_true] at hO hD; refine ⟨by simp [hD], ?_⟩; go_simp; rfl)
        refine Free.Chain.prG (fun v _ => v = .int .i64 k) [(6, 34), (8, 36), (3, 31), (3, 31)] [] 3 false 31 (by kernel_rfl) (by kernel_rfl) rfl (by kernel_rfl) (fun _ _ _ _ h => h) ?_ ?_
        · (intro ev W hb hR hO hD; have hS := hF W hR; obtain ⟨hS, hS2⟩ := hS; obtain ⟨hb1, hb2, hb3⟩ := hb; simp only [Free.AllDeps, Free.AllOuts, Free.At, al1, al2, al3, al4, al5, and_true] at hO hD; refine ⟨by simp [hD], ?_⟩; go_simp; refine yields_enter ?_; (with_reducible refine (HIX.out W hS2).mono ?_); rintro e W2 ⟨rfl, hB2⟩; exact ⟨_, rfl, hB2, rfl⟩)
        simp only [an1, an2]
        refine Free.Chain.exG ?_ [(5, 33), (9, 37), (3, 31)] [] 3 false 31 (by kernel_rfl) (by kernel_rfl) rfl (by kernel_rfl) Free.Bel.refl ?_ ?_
        rotate_left 2
        simp only [an1, an2]
        refine Free.Chain.exG ?_ [(10, 38), (3, 31)] [] 3 false 31 (by kernel_rfl) (by kernel_rfl) rfl (by kernel_rfl) Free.Bel.refl ?_ ?_
        rotate_left 2
        simp only [an1, an2]
        refine Free.Chain.exG ?_ [(3, 31)] [3] 3 false 31 (by kernel_rfl) (by kernel_rfl) rfl (by kernel_rfl) Free.Bel.refl ?_ ?_
        rotate_left 2
        simp only [an1, an2]
        refine Free.Chain.exG ?_ [(11, 39), (12, 40), (3, 31)] [] 3 false 31 (by kernel_rfl) (by kernel_rfl) rfl (by kernel_rfl) Free.Bel.refl ?_ ?_
        rotate_left 2
        simp only [an1, an2]
        rotate_left
        iterate 4 (rotate_left; intro ev W hb hR hO hD; have hS := hF W hR; obtain ⟨hS, hS2⟩ := hS; obtain ⟨hb1, hb2, hb3⟩ := hb; simp only [Free.AllDeps, Free.AllOuts, Free.At, al1, al2, al3, al4, al5, and_true] at hO hD; refine ⟨by simp [hD], ?_⟩; go_simp; rfl)
        refine Free.Chain.ex ?_ [(3, 31), (13, 41)] [] (by kernel_rfl) (by kernel_rfl) rfl Free.Bel.refl ?_ ?_
        rotate_left 2
        simp only [an1, an2]
        rotate_left
        rotate_left
        · (intro ev W hb hR hO hD; have hS := hF W hR; obtain ⟨hS, hS2⟩ := hS; obtain ⟨hb1, hb2, hb3⟩ := hb; simp only [Free.AllDeps, Free.AllOuts, Free.At, al1, al2, al3, al4, al5, and_true] at hO hD; go_simp; rfl)
        intro zs w' hR hV
        simp only [Free.AllV, Free.At, List.length_cons, List.length_nil, Nat.reduceAdd, List.getElem?_cons_succ, List.getElem?_cons_zero, true_and] at hV
        simp only [Free.putsFrom, Act.put, Nat.zero_add, Nat.reduceAdd, hV, List.setIfInBounds_toArray, List.set_cons_succ, List.set_cons_zero]
        have K9 := (hF w' hR).2
        clear hR hV hF b0 b1 y0 y1 y2
        have hb9 := (K9.block _ (lt_of_heap HALL.out.2.1)).trans HALL.out.2.1
        have hrz9 := (K9.block _ (lt_of_heap HALL.out.2.2.2.1)).trans HALL.out.2.2.2.1
        have z0 := cell_of_heap (o := 0) hrz9 rfl
        have z1 := cell_of_heap (o := 1) hrz9 rfl
        have z2 := frozen_of_heap (o := 0) hrz9
        have z3 := frozen_of_heap (o := 1) hrz9
        have b0 := cell_of_heap (o := 0) hb9 rfl
        have b1 := cell_of_heap (o := 1) hb9 rfl
        have HBE := Lib.hid (HALL.out.1.trans (K9.mono HALL.out.1.size))
        have HROW := Lib.hid (bel_row HALL.out.2.2.2.2.1 K9)
        clear hrz9 hb9 K9
        go_wp2_with fail
        have hst := two_stores (.int .i64 Hh) (.slice (some ⟨g, 0, none⟩) (xs.length + 1) cap) z0 z1
        exact bodyPost_ret (v := .tuple #[.agg #[.int .i64 Hh, .slice (some ⟨g, 0, none⟩) (xs.length + 1) cap], .int .i64 0]) (by simp [results, Tryd.results43, go_sem, hst]) rfl ⟨⟨_, rfl, by
          rw [HL.out, insP_length]
          exact row_mono (ownsRow_setCell_below (ownsRow_setCell_below HROW.out (by simp; omega) _) (by simp; omega) _) (by omega)⟩, (HBE.out.setCell (by simp; omega) _).setCell (by simp; omega) _⟩
end Go.Proofs.YtknpglgpkkhhiaaDoor

/- A region that draws its order: rows, a value built of the last of them, and a block that is made and stored. -/
namespace Go.Proofs.YtknpglgpkkhhiaaDoor
set_option linter.unusedSimpArgs false
set_option linter.unusedVariables false
open Go.RowKit Go.Proofs.YtknpglgpkkhhiaaDoor.Free2

structure JB (base : Nat) (e : TypeId) (sz : Nat) (L : List JE) (il ib ia is : Nat) (mk : Value → Value) (z : Obj) (cont : Value → Obj) (X : XT) (w : World) : Prop where
  jr : JR base e sz L X w
  bld : ∀ v, X ib = some v → ∃ u, X il = some u ∧ v = mk u
  ord : X ia = none → X is = none
  box : ∀ v, X ia = some v → ∃ b, v = ptr b ∧ base ≤ b ∧ b < w.heap.size ∧ (X is = none → w.heap[b]? = some z) ∧ (X is ≠ none → ∃ u, X il = some u ∧ w.heap[b]? = some (cont u)) ∧ ∀ a ∈ L, X a.j = none → ∀ v, X a.i = some v → Off v b
section
variable {base s0 : Nat} {e : TypeId} {sz il ib ia is : Nat} {L : List JE} {mk : Value → Value} {z : Obj} {cont : Value → Obj} {X : XT} {w w' : World}
theorem JB.start (hs : base ≤ w.heap.size) : JB base e sz L il ib ia is mk z cont (fun _ => none) w := ⟨.start hs, fun v h => (by cases h), fun _ => rfl, fun v h => (by cases h)⟩
theorem JB.skip (h : JB base e sz L il ib ia is mk z cont X w) (n : Nat) (v : Value) (hn : ∀ x ∈ L, n ≠ x.i ∧ n ≠ x.j) (h1 : n ≠ il) (h2 : n ≠ ib) (h3 : n ≠ is) (h4 : n ≠ ia) (h9 : n ≠ 1000 := by simp) : JB base e sz L il ib ia is mk z cont (upd X n v) w :=
  ⟨h.jr.skip n v hn h9, by rw [upd_other _ _ h1.symm, upd_other _ _ h2.symm]; exact h.bld, by rw [upd_other _ _ h3.symm, upd_other _ _ h4.symm]; exact h.ord, fun u hu => by
    rw [upd_other _ _ h4.symm] at hu
    obtain ⟨b, g1, g2, g3, g4, g5, g6⟩ := h.box u hu
    refine ⟨b, g1, g2, g3, by rw [upd_other _ _ h3.symm]; exact g4, by rw [upd_other _ _ h3.symm, upd_other _ _ h1.symm]; exact g5, fun a ha => ?_⟩
    rw [upd_other _ _ (hn a ha).1.symm, upd_other _ _ (hn a ha).2.symm]
    exact g6 a ha⟩
theorem JB.bel (h : JB base e sz L il ib ia is mk z cont X w) (hB : Free.Bel w w') : JB base e sz L il ib ia is mk z cont X w' :=
  ⟨h.jr.bel hB, h.bld, h.ord, fun u hu => by
    obtain ⟨b, g1, g2, g3, g4, g5, g6⟩ := h.box u hu
    exact ⟨b, g1, g2, Nat.lt_of_lt_of_le g3 hB.size, fun hx => (hB.block b g3).trans (g4 hx), fun hx => let ⟨t, h5, h6⟩ := g5 hx; ⟨t, h5, (hB.block b g3).trans h6⟩, g6⟩⟩
theorem JB.new (h : JB base e sz L il ib ia is mk z cont X w) (x : JE) (hx : x ∈ L) (hd : ∀ y ∈ L, y.j ≠ x.i ∧ (y.i = x.i → y = x)) (h1 : x.i ≠ il) (h2 : x.i ≠ ib) (h3 : x.i ≠ is) (h4 : x.i ≠ ia) {v : Value} (hB : Free.Bel w w') (ho : w'.ownsRow w.heap.size e sz v x.n x.cs) (h9 : x.i ≠ 1000 := by simp) : JB base e sz L il ib ia is mk z cont (upd X x.i v) w' :=
  ⟨h.jr.new x hx hd hB ho h9, by rw [upd_other _ _ h1.symm, upd_other _ _ h2.symm]; exact h.bld, by rw [upd_other _ _ h3.symm, upd_other _ _ h4.symm]; exact h.ord, fun u hu => by
    rw [upd_other _ _ h4.symm] at hu
    obtain ⟨b, g1, g2, g3, g4, g5, g6⟩ := (h.bel hB).box u hu
    obtain ⟨b', e1, _, f3, _⟩ := h.box u hu
    rw [g1] at e1
    have hbb : b = b' := by injection e1 with e1; injection e1 with e1; injection e1
    subst hbb
    refine ⟨b, g1, g2, g3, by rw [upd_other _ _ h3.symm]; exact g4, by rw [upd_other _ _ h3.symm, upd_other _ _ h1.symm]; exact g5, fun a ha hj t ht => ?_⟩
    rw [upd_other _ _ (hd a ha).1] at hj
    by_cases hax : a.i = x.i
    · rw [hax, upd_same] at ht
      cases ht
      exact off_base ho f3
    · rw [upd_other _ _ hax] at ht
      exact g6 a ha hj t ht⟩
theorem JB.take (h : JB base e sz L il ib ia is mk z cont X w) (x y : JE) (hx : x ∈ L) (hy : y ∈ L) (hxy : x.j = y.i) (hd : ∀ z ∈ L, (z.i = y.i → z = y) ∧ (z.i = x.i → z = x) ∧ z.i ≠ z.j) (hyj : y.j ≠ y.i) (h2 : y.i ≠ ib) (h3 : y.i ≠ is) (h4 : y.i ≠ ia) {v v' : Value} (hv : X x.i = some v) (hn : X y.i = none) (hR : RowK v w v' w') (ho : w'.ownsRow base e sz v' y.n y.cs) (h9 : y.i ≠ 1000 := by simp) :
    JB base e sz L il ib ia is mk z cont (upd X y.i v') w' := by
  have hxj : X x.j = none := by rw [hxy]; exact hn
  have hup : ∀ u, X il = some u → (upd X y.i v') il = some u := by
    intro u hu
    by_cases e : il = y.i
    · rw [e, hn] at hu; cases hu
    · rw [upd_other _ _ e]; exact hu
  refine ⟨h.jr.take x y hx hy hxy hd hyj hv hn hR ho h9, fun u hu => ?_, by rw [upd_other _ _ h3.symm, upd_other _ _ h4.symm]; exact h.ord, fun u hu => ?_⟩
  · rw [upd_other _ _ h2.symm] at hu
    obtain ⟨t, h4, h5⟩ := h.bld u hu
    exact ⟨t, hup t h4, h5⟩
  · rw [upd_other _ _ h4.symm] at hu
    obtain ⟨b, g1, g2, g3, g4, g5, g6⟩ := h.box u hu
    obtain ⟨o1, o2⟩ := hR.keep b g3 (g6 x hx hxj v hv)
    refine ⟨b, g1, g2, Nat.lt_of_lt_of_le g3 hR.size, fun hq => ?_, fun hq => ?_, fun a ha hj t ht => ?_⟩
    · rw [upd_other _ _ h3.symm] at hq
      exact o2.trans (g4 hq)
    · rw [upd_other _ _ h3.symm] at hq
      obtain ⟨t, h5, h6⟩ := g5 hq
      exact ⟨t, hup t h5, o2.trans h6⟩
    · by_cases hay : a.i = y.i
      · rw [hay, upd_same] at ht
        cases ht
        exact o1
      · rw [upd_other _ _ hay] at ht
        have hj2 : a.j ≠ y.i := by intro e; rw [e, upd_same] at hj; cases hj
        rw [upd_other _ _ hj2] at hj
        exact g6 a ha hj t ht
theorem JB.build (h : JB base e sz L il ib ia is mk z cont X w) (hn : ∀ x ∈ L, ib ≠ x.i ∧ ib ≠ x.j) (h1 : ib ≠ il) (h3 : ib ≠ is) (h4 : ib ≠ ia) {u : Value} (h9 : ib ≠ 1000 := by simp) (hu : X il = some u) : JB base e sz L il ib ia is mk z cont (upd X ib (mk u)) w := by
  refine ⟨h.jr.skip ib _ hn h9, fun v hv => by rw [upd_same] at hv; cases hv; exact ⟨u, by rw [upd_other _ _ h1.symm]; exact hu, rfl⟩, by rw [upd_other _ _ h3.symm, upd_other _ _ h4.symm]; exact h.ord, fun u hu => ?_⟩
  rw [upd_other _ _ h4.symm] at hu
  obtain ⟨b, g1, g2, g3, g4, g5, g6⟩ := h.box u hu
  refine ⟨b, g1, g2, g3, by rw [upd_other _ _ h3.symm]; exact g4, by rw [upd_other _ _ h3.symm, upd_other _ _ h1.symm]; exact g5, fun a ha => ?_⟩
  rw [upd_other _ _ (hn a ha).1.symm, upd_other _ _ (hn a ha).2.symm]
  exact g6 a ha
theorem JB.alloc (h : JB base e sz L il ib ia is mk z cont X w) (hn : ∀ x ∈ L, ia ≠ x.i ∧ ia ≠ x.j) (h1 : ia ≠ il) (h2 : ia ≠ ib) (h3 : ia ≠ is) (h9 : ia ≠ 1000 := by simp) (hx : X ia = none) : JB base e sz L il ib ia is mk z cont (upd X ia (ptr w.heap.size)) (w.alloc z) :=
  ⟨(h.jr.bel (belAlloc w z)).skip ia _ hn h9, by rw [upd_other _ _ h2.symm, upd_other _ _ h1.symm]; exact h.bld, fun hq => (by rw [upd_same] at hq; cases hq), fun u hu => by
    rw [upd_same] at hu
    cases hu
    refine ⟨w.heap.size, rfl, h.jr.size, by simp, fun _ => World.alloc_heap_new w z, fun hq => ?_, fun a ha hj t ht => ?_⟩
    · rw [upd_other _ _ h3.symm] at hq
      exact absurd (h.ord hx) hq
    · rw [upd_other _ _ (hn a ha).2.symm] at hj
      rw [upd_other _ _ (hn a ha).1.symm] at ht
      exact off_new (h.jr.row a ha hj t ht) (Nat.le_refl _)⟩
theorem JB.store (h : JB base e sz L il ib ia is mk z cont X w) (hn : ∀ x ∈ L, is ≠ x.i ∧ is ≠ x.j) (h1 : is ≠ il) (h2 : is ≠ ib) (h4 : is ≠ ia) {u y : Value} {b : Nat} (h9 : is ≠ 1000 := by simp) (hu : X il = some u) (ha : X ia = some (ptr b)) (hs : w.heap.size = w'.heap.size) (hb : w'.heap[b]? = some (cont u)) (ho : ∀ k, k ≠ b → w'.heap[k]? = w.heap[k]?) : JB base e sz L il ib ia is mk z cont (upd X is y) w' := by
  obtain ⟨b', e1, g2, g3, _, _, g6⟩ := h.box _ ha
  have hbb : b = b' := by injection e1 with e1; injection e1 with e1; injection e1
  subst hbb
  have hjr : JR base e sz L X w' := ⟨h.jr.nv, by rw [← hs]; exact h.jr.size, fun a ha hj v hv => row_block (h.jr.row a ha hj v hv) fun k hk hl => ho k (fun e => g6 a ha hj v hv (e ▸ hk)), h.jr.ne⟩
  refine ⟨hjr.skip is y hn h9, by rw [upd_other _ _ h2.symm, upd_other _ _ h1.symm]; exact h.bld, fun hq => ?_, fun t ht => ?_⟩
  · rw [upd_other _ _ h4.symm, ha] at hq; cases hq
  · rw [upd_other _ _ h4.symm, ha] at ht
    cases ht
    refine ⟨b, rfl, g2, by omega, fun hq => (by rw [upd_same] at hq; cases hq), fun _ => ⟨u, by rw [upd_other _ _ h1.symm]; exact hu, hb⟩, fun a ha => ?_⟩
    rw [upd_other _ _ (hn a ha).1.symm, upd_other _ _ (hn a ha).2.symm]
    exact g6 a ha
end
end Go.Proofs.YtknpglgpkkhhiaaDoor

/- The reference's Put. -/
namespace Go.Proofs.YtknpglgpkkhhiaaDoor
set_option linter.unusedSimpArgs false
set_option linter.unusedVariables false
open Go.RowKit Go.Proofs.YtknpglgpkkhhiaaDoor.Free2

theorem RL.parts {xs : List Rk} {p : Option Addr} {cp : Nat} {w : World} (h : RL xs (.slice p xs.length cp) w) (hz : NZ (.slice p xs.length cp)) (hcp : xs.length ≤ cp) (k : Nat) (hk : k ≤ xs.length) : ∀ W, Below w.heap.size w W →
    ((∀ ad, p = some ad → ∀ j u, (cellsR (xs.take k))[j]? = some u → W.cell? (ad.add j) = some u) ∧ (p = none → k = 0 ∧ cp = 0)) ∧
    ((∀ ad, tailP p cp k = some ad → ∀ j u, (cellsR (xs.drop k))[j]? = some u → W.cell? (ad.add j) = some u) ∧ (tailP p cp k = none → xs.length - k = 0 ∧ cp - k = 0)) := by
  intro W hW
  have hn : p = none → xs.length = 0 ∧ cp = 0 := fun e => hz _ _ (by rw [e])
  refine ⟨⟨fun ad he j u hj => ?_, fun e => ?_⟩, fun ad he j u hj => ?_, fun e => ?_⟩
  · by_cases hx : xs = []
    · subst hx; simp [cellsR] at hj
    · obtain ⟨p', c', h1, _, h3⟩ := h
      obtain ⟨b, off, h4, hcc⟩ := h3 hx
      simp only [Value.slice.injEq] at h1
      rw [← h1.1, he] at h4
      cases h4
      exact (cells_part (fun k hk => ⟨keepsB hW (hcc k hk).1, keepsB hW (hcc k hk).2.1, keepsB hW (hcc k hk).2.2⟩) k hk).1 j u hj
  · have := hn e; omega
  · by_cases hx : xs = []
    · subst hx; simp [cellsR] at hj
    · obtain ⟨p', c', h1, _, h3⟩ := h
      obtain ⟨b, off, h4, hcc⟩ := h3 hx
      simp only [Value.slice.injEq] at h1
      rw [← h1.1] at h4
      subst h4
      unfold tailP at he
      split at he
      · have : xs.length ≤ k := by omega
        rw [List.drop_eq_nil_of_le this] at hj
        simp [cellsR] at hj
      · simp only [Option.map_some, Option.some.injEq] at he
        rw [← he, addE]
        exact (cells_part (fun k hk => ⟨keepsB hW (hcc k hk).1, keepsB hW (hcc k hk).2.1, keepsB hW (hcc k hk).2.2⟩) k hk).2 j u hj
  · cases hp : p with
    | none => have := hn hp; omega
    | some a => rw [hp] at e; exact absurd e (tailP_some _ _ _)

set_option maxRecDepth 100000 in
set_option maxHeartbeats 16000000 in
theorem putR_v (h x1 x2 x3 : Int) (xs : List Rk) (u : Value) (w : World) (hu : RL xs u w) (hz : NZ u) (hcap : Cap u) (E Hh : Int) (hE : Hid (putE h xs (x1, x2, x3) = E)) (hHh : Hid (putH h xs (x1, x2, x3) = Hh)) :
    Calls Tryd.prog 44 #[.agg #[.int .i64 h, u], .agg #[.int .i64 x1, .int .i64 x2, .int .i64 x3]] w fun e w' => (∃ v, e = .returned (.tuple #[.agg #[.int .i64 Hh, v], .int .i64 E]) ∧ RL (putL h xs (x1, x2, x3)) v w') ∧ Below w.heap.size w w' := by
  have HU := Lib.hid hu
  obtain ⟨p, cp, rfl, hm, hq⟩ := hu
  have hcp : Hid (xs.length ≤ cp) := hcap _ _ _ rfl
  have HQ := Lib.hid hq
  have HNZ := Lib.hid hz
  obtain ⟨i0, hi0, hz0, hz1, hz2⟩ := info_parts T.infoRick
  have HZ := Lib.hid (And.intro hi0 (And.intro hz0 (And.intro hz1 hz2)))
  clear hi0 hz0 hz1 hz2 hz hq hcap
  have KB : Free.Bel w (((w.alloc (.cells #[.int .i64 h, .slice p xs.length cp] 24)).alloc (.cells #[.int .i64 x1, .int .i64 x2, .int .i64 x3] 47)).alloc (.cells #[.int .i64 0, .slice none 0 0] 24)) := Bel.allocT (Bel.allocT (Bel.allocT (Free.Bel.refl _) _) _) _
  have m0 : (((w.alloc (.cells #[.int .i64 h, .slice p xs.length cp] 24)).alloc (.cells #[.int .i64 x1, .int .i64 x2, .int .i64 x3] 47)).alloc (.cells #[.int .i64 0, .slice none 0 0] 24)).heap[w.heap.size]? = some (.cells #[.int .i64 h, .slice p xs.length cp] 24 (0, 0)) := heap_old (heap_old (World.alloc_heap_new w _))
  have m2 : (((w.alloc (.cells #[.int .i64 h, .slice p xs.length cp] 24)).alloc (.cells #[.int .i64 x1, .int .i64 x2, .int .i64 x3] 47)).alloc (.cells #[.int .i64 0, .slice none 0 0] 24)).heap[w.heap.size + 1]? = some (.cells #[.int .i64 x1, .int .i64 x2, .int .i64 x3] 47 (0, 0)) := heap_old (by
    have := World.alloc_heap_new (w.alloc (.cells #[.int .i64 h, .slice p xs.length cp] 24)) (.cells #[.int .i64 x1, .int .i64 x2, .int .i64 x3] 47)
    simpa using this)
  have m1 : (((w.alloc (.cells #[.int .i64 h, .slice p xs.length cp] 24)).alloc (.cells #[.int .i64 x1, .int .i64 x2, .int .i64 x3] 47)).alloc (.cells #[.int .i64 0, .slice none 0 0] 24)).heap[w.heap.size + 1 + 1]? = some (.cells #[.int .i64 0, .slice none 0 0] 24 (0, 0)) := by
    have := World.alloc_heap_new ((w.alloc (.cells #[.int .i64 h, .slice p xs.length cp] 24)).alloc (.cells #[.int .i64 x1, .int .i64 x2, .int .i64 x3] 47)) (.cells #[.int .i64 0, .slice none 0 0] 24)
    simpa using this
  have FA : ∀ W, Free.Bel (((w.alloc (.cells #[.int .i64 h, .slice p xs.length cp] 24)).alloc (.cells #[.int .i64 x1, .int .i64 x2, .int .i64 x3] 47)).alloc (.cells #[.int .i64 0, .slice none 0 0] 24)) W → W.cell? ⟨w.heap.size, 0, none⟩ = some (.int .i64 h) ∧ W.cell? ⟨w.heap.size, 1, none⟩ = some (.slice p xs.length cp) ∧ W.cell? ⟨w.heap.size + 1, 0, none⟩ = some (.int .i64 x1) ∧ W.cell? ⟨w.heap.size + 1, 1, none⟩ = some (.int .i64 x2) ∧ W.cell? ⟨w.heap.size + 1, 2, none⟩ = some (.int .i64 x3) ∧ W.cell? ⟨w.heap.size + 1 + 1, 0, none⟩ = some (.int .i64 0) ∧ W.cell? ⟨w.heap.size + 1 + 1, 1, none⟩ = some (.slice none 0 0) ∧ W.frozen? ⟨w.heap.size + 1 + 1, 0, none⟩ = false ∧ W.frozen? ⟨w.heap.size + 1 + 1, 1, none⟩ = false := fun W hW => ⟨keepsB hW (cell_of_heap m0 rfl), keepsB hW (cell_of_heap m0 rfl), keepsB hW (cell_of_heap m2 rfl), keepsB hW (cell_of_heap m2 rfl), keepsB hW (cell_of_heap m2 rfl), keepsB hW (cell_of_heap m1 rfl), keepsB hW (cell_of_heap m1 rfl), frozB hW (cell_of_heap (o := 0) m1 rfl) (frozen_of_heap m1), frozB hW (cell_of_heap (o := 1) m1 rfl) (frozen_of_heap m1)⟩
  have HRZ : Hid (∀ W, Free.Bel (((w.alloc (.cells #[.int .i64 h, .slice p xs.length cp] 24)).alloc (.cells #[.int .i64 x1, .int .i64 x2, .int .i64 x3] 47)).alloc (.cells #[.int .i64 0, .slice none 0 0] 24)) W → W.heap[w.heap.size]? = some (.cells #[.int .i64 h, .slice p xs.length cp] 24 (0, 0)) ∧ W.heap[w.heap.size + 1]? = some (.cells #[.int .i64 x1, .int .i64 x2, .int .i64 x3] 47 (0, 0)) ∧ W.heap[w.heap.size + 1 + 1]? = some (.cells #[.int .i64 0, .slice none 0 0] 24 (0, 0))) := fun W hW => ⟨(hW.block _ (lt_of_heap m0)).trans m0, (hW.block _ (lt_of_heap m2)).trans m2, (hW.block _ (lt_of_heap m1)).trans m1⟩
  have KE : Free.Bel (((w.alloc (.cells #[.int .i64 h, .slice p xs.length cp] 24)).alloc (.cells #[.int .i64 x1, .int .i64 x2, .int .i64 x3] 47)).alloc (.cells #[.int .i64 0, .slice none 0 0] 24)) (((w.alloc (.cells #[.int .i64 h, .slice p xs.length cp] 24)).alloc (.cells #[.int .i64 x1, .int .i64 x2, .int .i64 x3] 47)).alloc (.cells #[.int .i64 0, .slice none 0 0] 24)) := Free.Bel.refl _
  clear m0 m1 m2
  cases hw : watchB h xs
  · have HC := Lib.hid (watchR_v h xs _ (((w.alloc (.cells #[.int .i64 h, .slice p xs.length cp] 24)).alloc (.cells #[.int .i64 x1, .int .i64 x2, .int .i64 x3] 47)).alloc (.cells #[.int .i64 0, .slice none 0 0] 24)) (HU.out.keeps KB) false hw)
    have hE1 : putE h xs (x1, x2, x3) = 70 := by simp [putE, hw]
    obtain rfl : E = 70 := hE.out.symm.trans hE1
    obtain rfl : Hh = 0 := hHh.out.symm.trans (by rw [putH, hE1]; rfl)
    have HL : Hid (putL h xs (x1, x2, x3) = []) := by show _ = _; rw [putL, hE1]; rfl
    clear hw hE1
    go_enter Tryd.func44, Tryd.ntmps44
    go_wp2_with fail
    refine HC.out.mono ?_
    rintro e w1 ⟨rfl, hB1⟩
    have K1 : Free.Bel (((w.alloc (.cells #[.int .i64 h, .slice p xs.length cp] 24)).alloc (.cells #[.int .i64 x1, .int .i64 x2, .int .i64 x3] 47)).alloc (.cells #[.int .i64 0, .slice none 0 0] 24)) w1 := hB1
    clear hB1 KE
    go_wp2_with fail
    have hrz := (HRZ.out _ K1).2.2
    have hst := two_stores (.int .i64 0) (.slice none 0 0) (cell_of_heap (o := 0) hrz rfl) (cell_of_heap (o := 1) hrz rfl)
    exact bodyPost_ret (v := .tuple #[.agg #[.int .i64 0, .slice none 0 0], .int .i64 70]) (by simp [results, Tryd.results44, go_sem, hst]) rfl ⟨⟨_, rfl, by rw [HL.out]; exact RL.nil _⟩, ((bt KB K1).setCell (by simp; omega) _).setCell (by simp; omega) _⟩
  · have HC := Lib.hid (watchR_v h xs _ (((w.alloc (.cells #[.int .i64 h, .slice p xs.length cp] 24)).alloc (.cells #[.int .i64 x1, .int .i64 x2, .int .i64 x3] 47)).alloc (.cells #[.int .i64 0, .slice none 0 0] 24)) (HU.out.keeps KB) true hw)
    have HW := Lib.hid hw
    have hx4 := (watchB_iff.1 hw).2.1
    clear hw
    go_enter Tryd.func44, Tryd.ntmps44
    go_wp2_with fail
    refine HC.out.mono ?_
    rintro e w1 ⟨rfl, hB1⟩
    have K1 : Free.Bel (((w.alloc (.cells #[.int .i64 h, .slice p xs.length cp] 24)).alloc (.cells #[.int .i64 x1, .int .i64 x2, .int .i64 x3] 47)).alloc (.cells #[.int .i64 0, .slice none 0 0] 24)) w1 := hB1
    clear hB1 KE
    by_cases h4 : xs.length = 4
    · have hE1 : putE h xs (x1, x2, x3) = 9 := by rw [putE, if_neg (by rw [HW.out]; simp), if_pos h4]
      obtain rfl : E = 9 := hE.out.symm.trans hE1
      obtain rfl : Hh = 0 := hHh.out.symm.trans (by rw [putH, hE1]; rfl)
      have HL : Hid (putL h xs (x1, x2, x3) = []) := by show _ = _; rw [putL, hE1]; rfl
      have g0 : ((xs.length : Int) == 4) = true := by simp; omega
      have H4 := Lib.hid h4
      clear hE1 h4 hx4
      go_wp2_with fail
      have hrz := (HRZ.out _ K1).2.2
      have hst := two_stores (.int .i64 0) (.slice none 0 0) (cell_of_heap (o := 0) hrz rfl) (cell_of_heap (o := 1) hrz rfl)
      exact bodyPost_ret (v := .tuple #[.agg #[.int .i64 0, .slice none 0 0], .int .i64 9]) (by simp [results, Tryd.results44, go_sem, hst]) rfl ⟨⟨_, rfl, by rw [HL.out]; exact RL.nil _⟩, ((bt KB K1).setCell (by simp; omega) _).setCell (by simp; omega) _⟩
    · have g0 : ((xs.length : Int) == 4) = false := by simp; omega
      have hE1 : putE h xs (x1, x2, x3) = if watchB h (insR (x1, x2, x3) xs) = true then 0 else 71 := by rw [putE, if_neg (by rw [HW.out]; simp), if_neg h4]
      have HE1 := Lib.hid hE1
      have hs1 : w.heap.size + 1 + 1 + 1 ≤ w1.heap.size := by have := K1.size; simp at this; omega
      have H3 : Hid (xs.length ≤ 3) := by show _ ≤ _; omega
      have hBw1 : Below w.heap.size w w1 := bt KB K1
      clear hE1
      go_wp2_with fail
      go_loopw [6] (fun i wr => ∃ k : Nat, k ≤ xs.length ∧ i = .int .i64 k ∧ Hid (∀ j (hj : j < xs.length), j < k → xs[j].1 < x1) ∧ Free.Bel (((w.alloc (.cells #[.int .i64 h, .slice p xs.length cp] 24)).alloc (.cells #[.int .i64 x1, .int .i64 x2, .int .i64 x3] 47)).alloc (.cells #[.int .i64 0, .slice none 0 0] 24)) wr) (fun i _ => xs.length - (intOf i).toNat)
      case atStart => exact ⟨0, Nat.zero_le _, rfl, (fun j hj h => absurd h (Nat.not_lt_zero _)), K1⟩
      case round =>
        obtain ⟨k, hk, rfl, hless, hB⟩ := hrel
        have hww : Below w.heap.size w wr := bt KB hB
        have hx3 := H3.out
        have hs2 : w.heap.size + 1 + 1 + 1 ≤ wr.heap.size := by have := hB.size; simp at this; omega
        by_cases hlt : k < xs.length
        · obtain ⟨b, off, rfl, hcc⟩ := HQ.out (by intro e; simp [e] at hlt)
          have e1 := keepsB hww (hcc k hlt).1
          have hklt : (k : Int) < xs.length := by omega
          have HCC := Lib.hid hcc
          clear hcc
          have HXK : Hid (xs[k].1 = xs[k].1) := rfl
          obtain ⟨a1, ha1⟩ : ∃ y, xs[k].1 = y := ⟨_, rfl⟩
          rw [ha1] at e1
          have HA1 := Lib.hid ha1
          clear ha1 HXK
          by_cases hle : a1 < x1
          · have g1 : decide (a1 < x1) = true := decide_eq_true hle
            have g2 : decide ((k : Int) < xs.length) = true := decide_eq_true hklt
            have hless2 : Hid (∀ j (hj : j < xs.length), j < k + 1 → xs[j].1 < x1) := fun j hj hjk => by
              rcases Nat.lt_or_ge j k with h9 | h9
              · exact hless.out j hj h9
              · obtain rfl : j = k := by omega
                rw [HA1.out]; exact hle
            have KE3 := Free.Bel.refl wr
            go_wp2_with fail
            have hF : ∀ W, Free.Bel wr.drew W → (W.cell? ⟨w.heap.size, 1, none⟩ = some (.slice (some ⟨b, off, none⟩) xs.length cp) ∧ W.cell? ⟨w.heap.size + 1, 0, none⟩ = some (.int .i64 x1) ∧ W.cell? ⟨b, off + k * 3, none⟩ = some (.int .i64 a1)) ∧ Free.Bel wr W := fun W hW => by
              obtain ⟨_, z1, z2, _⟩ := FA W (bt hB (Free.Bel.first hW))
              exact ⟨⟨z1, z2, keepsB (Free.Bel.first hW) e1⟩, Free.Bel.first hW⟩
            refine Free.wp_free (R := Free.Bel) (by kernel_rfl) (by kernel_rfl) Free.Bel.refl Free.Bel.trans ?_
            refine Free.Chain.ex ?_ [] [6] (by kernel_rfl) (by kernel_rfl) rfl Free.Bel.refl ?_ ?_
            rotate_left 2
            simp only [an1, an2]
            refine Free.Chain.ex ?_ [] [2] (by kernel_rfl) (by kernel_rfl) rfl Free.Bel.refl ?_ ?_
            rotate_left 2
            simp only [an1, an2]
            refine Free.Chain.ex ?_ [(1, 18)] [] (by kernel_rfl) (by kernel_rfl) rfl Free.Bel.refl ?_ ?_
            rotate_left 2
            simp only [an1, an2]
            refine Free.Chain.ex ?_ [(2, 19)] [] (by kernel_rfl) (by kernel_rfl) rfl Free.Bel.refl ?_ ?_
            rotate_left 2
            simp only [an1, an2]
            refine Free.Chain.ex ?_ [(0, 17), (3, 20)] [] (by kernel_rfl) (by kernel_rfl) rfl Free.Bel.refl ?_ ?_
            rotate_left 2
            simp only [an1, an2]
            refine Free.Chain.ex ?_ [(4, 21)] [] (by kernel_rfl) (by kernel_rfl) rfl Free.Bel.refl ?_ ?_
            rotate_left 2
            simp only [an1, an2]
            rotate_left
            iterate 6 (rotate_left; intro ev W hb hR hO hD; have hS := hF W hR; obtain ⟨hS, hS2⟩ := hS; obtain ⟨hb1, hb2, hb3⟩ := hb; simp only [Free.AllDeps, Free.AllOuts, Free.At, al1, al2, al3, al4, al5, and_true] at hO hD; go_simp; rfl)
            refine Free.Chain.exG ?_ [(5, 22)] [2] 5 true 22 (by kernel_rfl) (by kernel_rfl) rfl (by kernel_rfl) Free.Bel.refl ?_ ?_
            rotate_left 2
            simp only [an1, an2]
            refine Free.Chain.exG ?_ [(6, 23), (5, 22)] [] 5 true 22 (by kernel_rfl) (by kernel_rfl) rfl (by kernel_rfl) Free.Bel.refl ?_ ?_
            rotate_left 2
            simp only [an1, an2]
            refine Free.Chain.exG ?_ [(5, 22)] [6] 5 true 22 (by kernel_rfl) (by kernel_rfl) rfl (by kernel_rfl) Free.Bel.refl ?_ ?_
            rotate_left 2
            simp only [an1, an2]
            refine Free.Chain.exG ?_ [(7, 24), (8, 25), (5, 22)] [] 5 true 22 (by kernel_rfl) (by kernel_rfl) rfl (by kernel_rfl) Free.Bel.refl ?_ ?_
            rotate_left 2
            simp only [an1, an2]
            refine Free.Chain.exG ?_ [(9, 26), (5, 22)] [] 5 true 22 (by kernel_rfl) (by kernel_rfl) rfl (by kernel_rfl) Free.Bel.refl ?_ ?_
            rotate_left 2
            simp only [an1, an2]
            refine Free.Chain.exG ?_ [(10, 27), (5, 22)] [] 5 true 22 (by kernel_rfl) (by kernel_rfl) rfl (by kernel_rfl) Free.Bel.refl ?_ ?_
            rotate_left 2
            simp only [an1, an2]
            refine Free.Chain.exG ?_ [(5, 22)] [3] 5 true 22 (by kernel_rfl) (by kernel_rfl) rfl (by kernel_rfl) Free.Bel.refl ?_ ?_
            rotate_left 2
            simp only [an1, an2]
            refine Free.Chain.exG ?_ [(12, 29), (5, 22)] [] 5 true 22 (by kernel_rfl) (by kernel_rfl) rfl (by kernel_rfl) Free.Bel.refl ?_ ?_
            rotate_left 2
            simp only [an1, an2]
            refine Free.Chain.exG ?_ [(11, 28), (13, 30), (5, 22)] [] 5 true 22 (by kernel_rfl) (by kernel_rfl) rfl (by kernel_rfl) Free.Bel.refl ?_ ?_
            rotate_left 2
            simp only [an1, an2]
            rotate_left
            iterate 9 (rotate_left; intro ev W hb hR hO hD; have hS := hF W hR; obtain ⟨hS, hS2⟩ := hS; obtain ⟨hb1, hb2, hb3⟩ := hb; simp only [Free.AllDeps, Free.AllOuts, Free.At, al1, al2, al3, al4, al5, and_true] at hO hD; refine ⟨by simp [hD], ?_⟩; go_simp; rfl)
            refine Free.Chain.ex ?_ [(5, 22), (14, 31)] [] (by kernel_rfl) (by kernel_rfl) rfl Free.Bel.refl ?_ ?_
            rotate_left 2
            simp only [an1, an2]
            rotate_left
            rotate_left
            · (intro ev W hb hR hO hD; have hS := hF W hR; obtain ⟨hS, hS2⟩ := hS; obtain ⟨hb1, hb2, hb3⟩ := hb; simp only [Free.AllDeps, Free.AllOuts, Free.At, al1, al2, al3, al4, al5, and_true] at hO hD; go_simp; rfl)
            intro zs w' hR hV
            simp only [Free.AllV, Free.At, List.length_cons, List.length_nil, Nat.reduceAdd, List.getElem?_cons_succ, List.getElem?_cons_zero, true_and] at hV
            simp only [Free.putsFrom, Act.put, Nat.zero_add, Nat.reduceAdd, hV, List.setIfInBounds_toArray, List.set_cons_succ, List.set_cons_zero]
            have K9 := (hF w' hR).2
            clear hR hV hF
            go_wp2_with fail
            go_roundw
            case rel => exact ⟨k + 1, by omega, by go_num, hless2, bt hB K9⟩
            case measure => simp [intOf]; omega
          · have g1 : decide (a1 < x1) = false := decide_eq_false hle
            have g2 : decide ((k : Int) < xs.length) = true := decide_eq_true hklt
            have hsplit : insR (x1, x2, x3) xs = xs.take k ++ (x1, x2, x3) :: xs.drop k := insR_split (x1, x2, x3) xs k hk hless.out (fun hk' => by show ¬ xs[k].1 < x1; rw [HA1.out]; exact hle)
            have HSP := Lib.hid hsplit
            clear hsplit
            go_wp2_with fail
            have hF : ∀ W, Free.Bel wr.drew W → (W.cell? ⟨w.heap.size, 1, none⟩ = some (.slice (some ⟨b, off, none⟩) xs.length cp) ∧ W.cell? ⟨w.heap.size + 1, 0, none⟩ = some (.int .i64 x1) ∧ W.cell? ⟨b, off + k * 3, none⟩ = some (.int .i64 a1)) ∧ Free.Bel wr W := fun W hW => by
              obtain ⟨_, z1, z2, _⟩ := FA W (bt hB (Free.Bel.first hW))
              exact ⟨⟨z1, z2, keepsB (Free.Bel.first hW) e1⟩, Free.Bel.first hW⟩
            refine Free.wp_free (R := Free.Bel) (by kernel_rfl) (by kernel_rfl) Free.Bel.refl Free.Bel.trans ?_
            refine Free.Chain.ex ?_ [] [6] (by kernel_rfl) (by kernel_rfl) rfl Free.Bel.refl ?_ ?_
            rotate_left 2
            simp only [an1, an2]
            refine Free.Chain.ex ?_ [] [2] (by kernel_rfl) (by kernel_rfl) rfl Free.Bel.refl ?_ ?_
            rotate_left 2
            simp only [an1, an2]
            refine Free.Chain.ex ?_ [(1, 18)] [] (by kernel_rfl) (by kernel_rfl) rfl Free.Bel.refl ?_ ?_
            rotate_left 2
            simp only [an1, an2]
            refine Free.Chain.ex ?_ [(2, 19)] [] (by kernel_rfl) (by kernel_rfl) rfl Free.Bel.refl ?_ ?_
            rotate_left 2
            simp only [an1, an2]
            refine Free.Chain.ex ?_ [(0, 17), (3, 20)] [] (by kernel_rfl) (by kernel_rfl) rfl Free.Bel.refl ?_ ?_
            rotate_left 2
            simp only [an1, an2]
            refine Free.Chain.ex ?_ [(4, 21)] [] (by kernel_rfl) (by kernel_rfl) rfl Free.Bel.refl ?_ ?_
            rotate_left 2
            simp only [an1, an2]
            rotate_left
            iterate 6 (rotate_left; intro ev W hb hR hO hD; have hS := hF W hR; obtain ⟨hS, hS2⟩ := hS; obtain ⟨hb1, hb2, hb3⟩ := hb; simp only [Free.AllDeps, Free.AllOuts, Free.At, al1, al2, al3, al4, al5, and_true] at hO hD; go_simp; rfl)
            refine Free.Chain.exG ?_ [(5, 22)] [2] 5 true 22 (by kernel_rfl) (by kernel_rfl) rfl (by kernel_rfl) Free.Bel.refl ?_ ?_
            rotate_left 2
            simp only [an1, an2]
            refine Free.Chain.exG ?_ [(6, 23), (5, 22)] [] 5 true 22 (by kernel_rfl) (by kernel_rfl) rfl (by kernel_rfl) Free.Bel.refl ?_ ?_
            rotate_left 2
            simp only [an1, an2]
            refine Free.Chain.exG ?_ [(5, 22)] [6] 5 true 22 (by kernel_rfl) (by kernel_rfl) rfl (by kernel_rfl) Free.Bel.refl ?_ ?_
            rotate_left 2
            simp only [an1, an2]
            refine Free.Chain.exG ?_ [(7, 24), (8, 25), (5, 22)] [] 5 true 22 (by kernel_rfl) (by kernel_rfl) rfl (by kernel_rfl) Free.Bel.refl ?_ ?_
            rotate_left 2
            simp only [an1, an2]
            refine Free.Chain.exG ?_ [(9, 26), (5, 22)] [] 5 true 22 (by kernel_rfl) (by kernel_rfl) rfl (by kernel_rfl) Free.Bel.refl ?_ ?_
            rotate_left 2
            simp only [an1, an2]
            refine Free.Chain.exG ?_ [(10, 27), (5, 22)] [] 5 true 22 (by kernel_rfl) (by kernel_rfl) rfl (by kernel_rfl) Free.Bel.refl ?_ ?_
            rotate_left 2
            simp only [an1, an2]
            refine Free.Chain.exG ?_ [(5, 22)] [3] 5 true 22 (by kernel_rfl) (by kernel_rfl) rfl (by kernel_rfl) Free.Bel.refl ?_ ?_
            rotate_left 2
            simp only [an1, an2]
            refine Free.Chain.exG ?_ [(12, 29), (5, 22)] [] 5 true 22 (by kernel_rfl) (by kernel_rfl) rfl (by kernel_rfl) Free.Bel.refl ?_ ?_
            rotate_left 2
            simp only [an1, an2]
            refine Free.Chain.exG ?_ [(11, 28), (13, 30), (5, 22)] [] 5 true 22 (by kernel_rfl) (by kernel_rfl) rfl (by kernel_rfl) Free.Bel.refl ?_ ?_
            rotate_left 2
            simp only [an1, an2]
            rotate_left
            iterate 9 (rotate_left; intro ev W hb hR hO hD; have hS := hF W hR; obtain ⟨hS, hS2⟩ := hS; obtain ⟨hb1, hb2, hb3⟩ := hb; simp only [Free.AllDeps, Free.AllOuts, Free.At, al1, al2, al3, al4, al5, and_true] at hO hD; refine ⟨by simp [hD], ?_⟩; go_simp; rfl)
            refine Free.Chain.ex ?_ [(5, 22), (14, 31)] [] (by kernel_rfl) (by kernel_rfl) rfl Free.Bel.refl ?_ ?_
            rotate_left 2
            simp only [an1, an2]
            rotate_left
            rotate_left
            · (intro ev W hb hR hO hD; have hS := hF W hR; obtain ⟨hS, hS2⟩ := hS; obtain ⟨hb1, hb2, hb3⟩ := hb; simp only [Free.AllDeps, Free.AllOuts, Free.At, al1, al2, al3, al4, al5, and_true] at hO hD; go_simp; rfl)
            intro zs w' hR hV
            simp only [Free.AllV, Free.At, List.length_cons, List.length_nil, Nat.reduceAdd, List.getElem?_cons_succ, List.getElem?_cons_zero, true_and] at hV
            simp only [Free.putsFrom, Act.put, Nat.zero_add, Nat.reduceAdd, hV, List.setIfInBounds_toArray, List.set_cons_succ, List.set_cons_zero]
            have K9 := (hF w' hR).2
            clear hR hV hF
            have hwn : Below w.heap.size w w' := hww.trans (K9.mono hww.size)
            have K10 : Free.Bel (((w.alloc (.cells #[.int .i64 h, .slice (some ⟨b, off, none⟩) xs.length cp] 24)).alloc (.cells #[.int .i64 x1, .int .i64 x2, .int .i64 x3] 47)).alloc (.cells #[.int .i64 0, .slice none 0 0] 24)) w' := bt hB K9
            have hs3 : w.heap.size + 1 + 1 + 1 ≤ w'.heap.size := Nat.le_trans hs2 K9.size
            clear K9 hww hs2 hB e1 g1
            generalize w' = w2 at *
            go_wp2_with fail
            have hsl1 := Lib.hid (slice_head (some ⟨b, off, none⟩) xs.length cp k (by have := hcp.out; omega))
            obtain ⟨A, HA⟩ : ∃ A, Hid (A = xs.take k) := ⟨_, rfl⟩
            obtain ⟨B, HB⟩ : ∃ B, Hid (B = xs.drop k) := ⟨_, rfl⟩
            obtain ⟨nb, HNB⟩ : ∃ n : Nat, Hid (n = xs.length - k) := ⟨_, rfl⟩
            have hnb : nb ≤ 3 := by rw [HNB.out]; omega
            have hsl2 := slice_tail (some ⟨b, off, none⟩) xs.length cp k (by omega)
            rw [← HNB.out] at hsl2
            have hsl2 := Lib.hid hsl2
            have hpt := RL.parts HU.out HNZ.out hcp.out k (by omega)
            rw [← HA.out, ← HB.out, ← HNB.out] at hpt
            have HPT := Lib.hid hpt
            clear hpt
            have hF : ∀ W, RZ w2.heap.size w2.heap.size w2.drew W → (W.cell? ⟨w.heap.size, 0, none⟩ = some (.int .i64 h) ∧ W.cell? ⟨w.heap.size, 1, none⟩ = some (.slice (some ⟨b, off, none⟩) xs.length cp) ∧ W.cell? ⟨w.heap.size + 1, 0, none⟩ = some (.int .i64 x1) ∧ W.cell? ⟨w.heap.size + 1, 1, none⟩ = some (.int .i64 x2) ∧ W.cell? ⟨w.heap.size + 1, 2, none⟩ = some (.int .i64 x3)) ∧ Below w.heap.size w W := fun W hW => by
              obtain ⟨z0, z1, z2, z3, z4, _⟩ := FA w2 K10
              exact ⟨⟨hW.cell (show w2.drew.cell? _ = _ from z0) (by simp; omega) (by simp; omega), hW.cell (show w2.drew.cell? _ = _ from z1) (by simp; omega) (by simp; omega), hW.cell (show w2.drew.cell? _ = _ from z2) (by simp; omega) (by simp; omega), hW.cell (show w2.drew.cell? _ = _ from z3) (by simp; omega) (by simp; omega), hW.cell (show w2.drew.cell? _ = _ from z4) (by simp; omega) (by simp; omega)⟩, RZ.below (hwn.drew) hW (by omega) (by omega)⟩
            refine Free2.wp_free (R := RZ w2.heap.size w2.heap.size) (J := JB w2.heap.size 47 3 [⟨2, 7, 0, []⟩, ⟨7, 10, k, cellsR (A)⟩, ⟨9, 10, 1, cellsR [(x1, x2, x3)]⟩, ⟨10, 15, k + 1, cellsR (A ++ [(x1, x2, x3)])⟩, ⟨15, 1000, k + 1 + nb, cellsR (A ++ (x1, x2, x3) :: B)⟩] 15 16 17 18 (fun u => .agg #[.int .i64 h, u]) (.cells #[.int .i64 0, .slice none 0 0] 24 (0, 0)) (fun u => .cells #[.int .i64 h, u] 24 (0, 0))) (by kernel_rfl) (by kernel_rfl) (RZ.refl _ _) RZ.trans (JB.start (Nat.le_refl _)) ?_
            refine Free2.Chain.ex ?_ 0 rfl [] [2] (by kernel_rfl) (by kernel_rfl) rfl (RZ.refl _ _) (fun X W v h => JB.skip h 0 v (by simp) (by simp) (by simp) (by simp) (by simp)) ?_ ?_
            rotate_left
            · (intro ev W hb hR hO hD; have hS := hF W hR; obtain ⟨hS, hS2⟩ := hS; obtain ⟨hb1, hb2, hb3⟩ := hb; simp only [Free.AllDeps, Free.AllOuts, Free.At, al1, al2, al3, al4, al5, and_true] at hO hD; go_simp; rfl)
            simp only [an1, an2]
            refine Free2.Chain.ex ?_ 1 rfl [(0, 35)] [] (by kernel_rfl) (by kernel_rfl) rfl (RZ.refl _ _) (fun X W v h => JB.skip h 1 v (by simp) (by simp) (by simp) (by simp) (by simp)) ?_ ?_
            rotate_left
            · (intro ev W hb hR hO hD; have hS := hF W hR; obtain ⟨hS, hS2⟩ := hS; obtain ⟨hb1, hb2, hb3⟩ := hb; simp only [Free.AllDeps, Free.AllOuts, Free.At, al1, al2, al3, al4, al5, and_true] at hO hD; go_simp; rfl)
            simp only [an1, an2]
            refine Free2.Chain.pr (fun v _ => True) 2 rfl [] [] (by kernel_rfl) (by kernel_rfl) rfl (fun _ _ _ _ h => h) ?_ ?_
            · (intro ev W X hb hR hO hD hj hx hax; have hS := hF W hR; obtain ⟨hb1, hb2, hb3⟩ := hb; simp only [Free.AllDeps, Free.AllOuts, Free.At, al1, al2, al3, al4, al5, and_true] at hO hD; simp only [Free2.AllX, and_true] at hax; obtain ⟨hS, hS2⟩ := hS; go_simp; exact ⟨RZ.of_bel (belAlloc _ _) hj.jr.size, JB.new hj ⟨2, 7, 0, []⟩ (by simp) (by simp) (by simp) (by simp) (by simp) (by simp) (belAlloc _ _) (World.ownsRow_lit W #[] 0 (Nat.le_refl _) (by unfold maxLen; omega) rfl)⟩)
            simp only [an1, an2]
            refine Free2.Chain.ex ?_ 3 rfl [] [2] (by kernel_rfl) (by kernel_rfl) rfl (RZ.refl _ _) (fun X W v h => JB.skip h 3 v (by simp) (by simp) (by simp) (by simp) (by simp)) ?_ ?_
            rotate_left
            · (intro ev W hb hR hO hD; have hS := hF W hR; obtain ⟨hS, hS2⟩ := hS; obtain ⟨hb1, hb2, hb3⟩ := hb; simp only [Free.AllDeps, Free.AllOuts, Free.At, al1, al2, al3, al4, al5, and_true] at hO hD; go_simp; rfl)
            simp only [an1, an2]
            refine Free2.Chain.ex ?_ 4 rfl [(3, 38)] [] (by kernel_rfl) (by kernel_rfl) rfl (RZ.refl _ _) (fun X W v h => JB.skip h 4 v (by simp) (by simp) (by simp) (by simp) (by simp)) ?_ ?_
            rotate_left
            · (intro ev W hb hR hO hD; have hS := hF W hR; obtain ⟨hS, hS2⟩ := hS; obtain ⟨hb1, hb2, hb3⟩ := hb; simp only [Free.AllDeps, Free.AllOuts, Free.At, al1, al2, al3, al4, al5, and_true] at hO hD; go_simp; rfl)
            simp only [an1, an2]
            refine Free2.Chain.ex ?_ 5 rfl [] [6] (by kernel_rfl) (by kernel_rfl) rfl (RZ.refl _ _) (fun X W v h => JB.skip h 5 v (by simp) (by simp) (by simp) (by simp) (by simp)) ?_ ?_
            rotate_left
            · (intro ev W hb hR hO hD; have hS := hF W hR; obtain ⟨hS, hS2⟩ := hS; obtain ⟨hb1, hb2, hb3⟩ := hb; simp only [Free.AllDeps, Free.AllOuts, Free.At, al1, al2, al3, al4, al5, and_true] at hO hD; go_simp; rfl)
            simp only [an1, an2]
            refine Free2.Chain.pr (fun v _ => v = .slice (some ⟨b, off, none⟩) k cp) 6 rfl [(4, 39), (5, 40)] [] (by kernel_rfl) (by kernel_rfl) rfl (fun _ _ _ _ h => h) ?_ ?_
            · (intro ev W X hb hR hO hD hj hx hax; have hS := hF W hR; obtain ⟨hb1, hb2, hb3⟩ := hb; simp only [Free.AllDeps, Free.AllOuts, Free.At, al1, al2, al3, al4, al5, and_true] at hO hD; simp only [Free2.AllX, and_true] at hax; obtain ⟨hS, hS2⟩ := hS; have hq := hsl1.out W; go_simp; exact ⟨RZ.refl _ _ _, rfl, JB.skip hj 6 _ (by simp) (by simp) (by simp) (by simp) (by simp)⟩)
            simp only [an1, an2]
            refine Free2.Chain.pr (fun v _ => True) 7 rfl [(2, 37), (6, 41)] [] (by kernel_rfl) (by kernel_rfl) rfl (fun _ _ _ _ h => h) ?_ ?_
            · (intro ev W X hb hR hO hD hj hx hax; have hS := hF W hR; obtain ⟨hb1, hb2, hb3⟩ := hb; simp only [Free.AllDeps, Free.AllOuts, Free.At, al1, al2, al3, al4, al5, and_true] at hO hD; simp only [Free2.AllX, and_true] at hax; obtain ⟨hS, hS2⟩ := hS; have ha1 := hax.1; have hd2 := hD.2; have hr1 := hj.jr.row ⟨2, 7, 0, []⟩ (by simp) hx _ ha1; refine yields_append_row W _ (.tmp 37) (.tmp 41) 22 rfl w2.heap.size 47 i0 (.agg #[.int .i64 0, .int .i64 0, .int .i64 0]) 3 24 Tryd.underlying22 HZ.out.1 HZ.out.2.1 HZ.out.2.2.1 HZ.out.2.2.2 rfl (by decide) _ 0 [] rfl hr1 (some ⟨b, off, none⟩) k cp (cellsR (A)) hd2 (by rw [cellsR_length, HA.out, List.length_take]; omega) (HPT.out W hS2).1.1 (HPT.out W hS2).1.2 (cellsR_one _) (by unfold maxLen; omega) (by omega) hj.jr.size ?_; intro v9 w9 ho9 hk9; have hbl := hk9.below hr1 hj.jr.size; exact ⟨RZ.of_below hbl, trivial, JB.take hj ⟨2, 7, 0, []⟩ ⟨7, 10, k, cellsR (A)⟩ (by simp) (by simp) rfl (by simp) (by simp) (by simp) (by simp) (by simp) ha1 hx hk9 (by simpa using ho9)⟩)
            simp only [an1, an2]
            refine Free2.Chain.ex ?_ 8 rfl [] [3] (by kernel_rfl) (by kernel_rfl) rfl (RZ.refl _ _) (fun X W v h => JB.skip h 8 v (by simp) (by simp) (by simp) (by simp) (by simp)) ?_ ?_
            rotate_left
            · (intro ev W hb hR hO hD; have hS := hF W hR; obtain ⟨hS, hS2⟩ := hS; obtain ⟨hb1, hb2, hb3⟩ := hb; simp only [Free.AllDeps, Free.AllOuts, Free.At, al1, al2, al3, al4, al5, and_true] at hO hD; go_simp; rfl)
            simp only [an1, an2]
            refine Free2.Chain.pr (fun v _ => True) 9 rfl [(8, 43)] [] (by kernel_rfl) (by kernel_rfl) rfl (fun _ _ _ _ h => h) ?_ ?_
            · (intro ev W X hb hR hO hD hj hx hax; have hS := hF W hR; obtain ⟨hb1, hb2, hb3⟩ := hb; simp only [Free.AllDeps, Free.AllOuts, Free.At, al1, al2, al3, al4, al5, and_true] at hO hD; simp only [Free2.AllX, and_true] at hax; obtain ⟨hS, hS2⟩ := hS; go_simp; exact ⟨RZ.of_bel (belAlloc _ _) hj.jr.size, JB.new hj ⟨9, 10, 1, cellsR [(x1, x2, x3)]⟩ (by simp) (by simp) (by simp) (by simp) (by simp) (by simp) (belAlloc _ _) (World.ownsRow_lit W #[.int .i64 x1, .int .i64 x2, .int .i64 x3] 1 (Nat.le_refl _) (by unfold maxLen; omega) rfl)⟩)
            simp only [an1, an2]
            refine Free2.Chain.pr (fun v _ => True) 10 rfl [(7, 42), (9, 44), (7, 42)] [] (by kernel_rfl) (by kernel_rfl) rfl (fun _ _ _ _ h => h) ?_ ?_
            · (intro ev W X hb hR hO hD hj hx hax; have hS := hF W hR; obtain ⟨hb1, hb2, hb3⟩ := hb; simp only [Free.AllDeps, Free.AllOuts, Free.At, al1, al2, al3, al4, al5, and_true] at hO hD; simp only [Free2.AllX, and_true] at hax; obtain ⟨hS, hS2⟩ := hS; have ha1 := hax.1; have ha2 := hax.2.1; have hr1 := hj.jr.row ⟨7, 10, k, cellsR (A)⟩ (by simp) hx _ ha1; have hr2 := hj.jr.row ⟨9, 10, 1, cellsR [(x1, x2, x3)]⟩ (by simp) hx _ ha2; obtain ⟨p8, c8, e8⟩ := row_slice hr2; simp only at e8 hr1 hr2; have hs8 : ∀ ad, p8 = some ad → ∀ j u, (cellsR [(x1, x2, x3)])[j]? = some u → W.cell? (ad.add j) = some u := (fun ad he j u hju => by obtain ⟨g, cap, cur, h9, hb9, hg9, _⟩ := hr2.2.resolve_left (fun h => absurd h.2 (by decide)); rw [e8] at h9; simp only [Value.slice.injEq] at h9; rw [e8, h9.1] at hr2; rw [h9.1] at he; cases he; exact hr2.cells (g := g) (by simp [Value.ownBlock]) j u hju); refine yields_append_row W _ (.tmp 42) (.tmp 44) 22 rfl w2.heap.size 47 i0 (.agg #[.int .i64 0, .int .i64 0, .int .i64 0]) 3 24 Tryd.underlying22 HZ.out.1 HZ.out.2.1 HZ.out.2.2.1 HZ.out.2.2.2 rfl (by decide) _ k (cellsR (A)) rfl hr1 p8 1 c8 (cellsR [(x1, x2, x3)]) e8 rfl hs8 (fun he => by obtain ⟨g, cap, cur, h9, _⟩ := hr2.2.resolve_left (fun h => absurd h.2 (by decide)); rw [e8, he] at h9; cases h9) (cellsR_one _) (by unfold maxLen; omega) (by omega) hj.jr.size ?_; intro v9 w9 ho9 hk9; have hbl := hk9.below hr1 hj.jr.size; exact ⟨RZ.of_below hbl, trivial, JB.take hj ⟨7, 10, k, cellsR (A)⟩ ⟨10, 15, k + 1, cellsR (A ++ [(x1, x2, x3)])⟩ (by simp) (by simp) rfl (by simp) (by simp) (by simp) (by simp) (by simp) ha1 hx hk9 (by rw [cellsR_append]; exact ho9)⟩)
            simp only [an1, an2]
            refine Free2.Chain.ex ?_ 11 rfl [] [2] (by kernel_rfl) (by kernel_rfl) rfl (RZ.refl _ _) (fun X W v h => JB.skip h 11 v (by simp) (by simp) (by simp) (by simp) (by simp)) ?_ ?_
            rotate_left
            · (intro ev W hb hR hO hD; have hS := hF W hR; obtain ⟨hS, hS2⟩ := hS; obtain ⟨hb1, hb2, hb3⟩ := hb; simp only [Free.AllDeps, Free.AllOuts, Free.At, al1, al2, al3, al4, al5, and_true] at hO hD; go_simp; rfl)
            simp only [an1, an2]
            refine Free2.Chain.ex ?_ 12 rfl [(11, 46)] [] (by kernel_rfl) (by kernel_rfl) rfl (RZ.refl _ _) (fun X W v h => JB.skip h 12 v (by simp) (by simp) (by simp) (by simp) (by simp)) ?_ ?_
            rotate_left
            · (intro ev W hb hR hO hD; have hS := hF W hR; obtain ⟨hS, hS2⟩ := hS; obtain ⟨hb1, hb2, hb3⟩ := hb; simp only [Free.AllDeps, Free.AllOuts, Free.At, al1, al2, al3, al4, al5, and_true] at hO hD; go_simp; rfl)
            simp only [an1, an2]
            refine Free2.Chain.ex ?_ 13 rfl [] [6] (by kernel_rfl) (by kernel_rfl) rfl (RZ.refl _ _) (fun X W v h => JB.skip h 13 v (by simp) (by simp) (by simp) (by simp) (by simp)) ?_ ?_
            rotate_left
            · (intro ev W hb hR hO hD; have hS := hF W hR; obtain ⟨hS, hS2⟩ := hS; obtain ⟨hb1, hb2, hb3⟩ := hb; simp only [Free.AllDeps, Free.AllOuts, Free.At, al1, al2, al3, al4, al5, and_true] at hO hD; go_simp; rfl)
            simp only [an1, an2]
            refine Free2.Chain.pr (fun v _ => v = .slice (tailP (some ⟨b, off, none⟩) cp k) nb (cp - k)) 14 rfl [(12, 47), (13, 48)] [] (by kernel_rfl) (by kernel_rfl) rfl (fun _ _ _ _ h => h) ?_ ?_
            · (intro ev W X hb hR hO hD hj hx hax; have hS := hF W hR; obtain ⟨hb1, hb2, hb3⟩ := hb; simp only [Free.AllDeps, Free.AllOuts, Free.At, al1, al2, al3, al4, al5, and_true] at hO hD; simp only [Free2.AllX, and_true] at hax; obtain ⟨hS, hS2⟩ := hS; have hq := hsl2.out W; go_simp; exact ⟨RZ.refl _ _ _, rfl, JB.skip hj 14 _ (by simp) (by simp) (by simp) (by simp) (by simp)⟩)
            simp only [an1, an2]
            refine Free2.Chain.pr (fun v _ => True) 15 rfl [(10, 45), (14, 49), (10, 45)] [] (by kernel_rfl) (by kernel_rfl) rfl (fun _ _ _ _ h => h) ?_ ?_
            · (intro ev W X hb hR hO hD hj hx hax; have hS := hF W hR; obtain ⟨hb1, hb2, hb3⟩ := hb; simp only [Free.AllDeps, Free.AllOuts, Free.At, al1, al2, al3, al4, al5, and_true] at hO hD; simp only [Free2.AllX, and_true] at hax; obtain ⟨hS, hS2⟩ := hS; have ha1 := hax.1; have hd2 := hD.2; have hr1 := hj.jr.row ⟨10, 15, k + 1, cellsR (A ++ [(x1, x2, x3)])⟩ (by simp) hx _ ha1; refine yields_append_row W _ (.tmp 45) (.tmp 49) 22 rfl w2.heap.size 47 i0 (.agg #[.int .i64 0, .int .i64 0, .int .i64 0]) 3 24 Tryd.underlying22 HZ.out.1 HZ.out.2.1 HZ.out.2.2.1 HZ.out.2.2.2 rfl (by decide) _ (k + 1) (cellsR (A ++ [(x1, x2, x3)])) rfl hr1 (tailP (some ⟨b, off, none⟩) cp k) nb (cp - k) (cellsR (B)) hd2 (by rw [cellsR_length, HB.out, HNB.out, List.length_drop]) (HPT.out W hS2).2.1 (HPT.out W hS2).2.2 (cellsR_one _) (by unfold maxLen; omega) (by omega) hj.jr.size ?_; intro v9 w9 ho9 hk9; have hbl := hk9.below hr1 hj.jr.size; exact ⟨RZ.of_below hbl, trivial, JB.take hj ⟨10, 15, k + 1, cellsR (A ++ [(x1, x2, x3)])⟩ ⟨15, 1000, k + 1 + nb, cellsR (A ++ (x1, x2, x3) :: B)⟩ (by simp) (by simp) rfl (by simp) (by simp) (by simp) (by simp) (by simp) ha1 hx hk9 (by rw [show A ++ (x1, x2, x3) :: B = (A ++ [(x1, x2, x3)]) ++ B from by simp, cellsR_append (A ++ [(x1, x2, x3)])]; exact ho9)⟩)
            simp only [an1, an2]
            refine Free2.Chain.pr (fun v _ => True) 16 rfl [(1, 36), (15, 50)] [] (by kernel_rfl) (by kernel_rfl) rfl (fun _ _ _ _ h => h) ?_ ?_
            · (intro ev W X hb hR hO hD hj hx hax; have hS := hF W hR; obtain ⟨hb1, hb2, hb3⟩ := hb; simp only [Free.AllDeps, Free.AllOuts, Free.At, al1, al2, al3, al4, al5, and_true] at hO hD; simp only [Free2.AllX, and_true] at hax; obtain ⟨hS, hS2⟩ := hS; have ha2 := hax.2; obtain ⟨p8, c8, e8⟩ := row_slice (hj.jr.row ⟨15, 1000, k + 1 + nb, cellsR (A ++ (x1, x2, x3) :: B)⟩ (by simp) hj.jr.nv _ ha2); simp only at e8; rw [e8] at ha2; go_simp; exact ⟨RZ.refl _ _ _, JB.build hj (by simp) (by simp) (by simp) (by simp) (by simp) ha2⟩)
            simp only [an1, an2]
            refine Free2.Chain.pr (fun v _ => True) 17 rfl [] [] (by kernel_rfl) (by kernel_rfl) rfl (fun _ _ _ _ h => h) ?_ ?_
            · (intro ev W X hb hR hO hD hj hx hax; have hS := hF W hR; obtain ⟨hb1, hb2, hb3⟩ := hb; simp only [Free.AllDeps, Free.AllOuts, Free.At, al1, al2, al3, al4, al5, and_true] at hO hD; simp only [Free2.AllX, and_true] at hax; obtain ⟨hS, hS2⟩ := hS; go_simp; exact ⟨RZ.of_bel (belAlloc _ _) hj.jr.size, JB.alloc hj (by simp) (by simp) (by simp) (by simp) (by simp) hx⟩)
            simp only [an1, an2]
            refine Free2.Chain.pr (fun v _ => True) 18 rfl [(17, 7), (16, 51), (15, 50), (0, 35), (1, 36), (2, 37), (3, 38), (4, 39), (5, 40), (6, 41), (7, 42), (8, 43), (9, 44), (10, 45), (11, 46), (12, 47), (13, 48), (14, 49), (15, 50), (16, 51), (17, 7)] [] (by kernel_rfl) (by kernel_rfl) rfl (fun _ _ _ _ h => h) ?_ ?_
            · (intro ev W X hb hR hO hD hj hx hax; have hS := hF W hR; obtain ⟨hb1, hb2, hb3⟩ := hb; simp only [Free.AllDeps, Free.AllOuts, Free.At, al1, al2, al3, al4, al5, and_true] at hO hD; simp only [Free2.AllX, and_true] at hax; obtain ⟨hS, hS2⟩ := hS; have ha7 := hax.1; obtain ⟨u8, hu8, he8⟩ := hj.bld _ (hax.2.1); obtain ⟨b7, hb7, hb70, hb71, hb72, _⟩ := hj.box _ ha7; rw [hb7] at ha7; have hzz := hb72 hx; obtain ⟨p8, c8, e8⟩ := row_slice (hj.jr.row ⟨15, 1000, k + 1 + nb, cellsR (A ++ (x1, x2, x3) :: B)⟩ (by simp) hj.jr.nv _ hu8); simp only at e8; subst e8; have q0 := cell_of_heap (o := 0) hzz rfl; have q1 := cell_of_heap (o := 1) hzz rfl; have f0 := frozen_of_heap (o := 0) hzz; have f1 := frozen_of_heap (o := 1) hzz; go_simp; have h9 := heap_setCell_same (o := 1) (.slice p8 (k + 1 + nb) c8) (heap_setCell_same (o := 0) (.int .i64 h) hzz); exact ⟨RZ.trans _ _ _ (RZ.setNew hb70) (RZ.setNew hb70), JB.store hj (by simp) (by simp) (by simp) (by simp) (by simp) hu8 ha7 (by simp) (by simpa using h9) (fun q hq => (heap_setCell_other hq).trans (heap_setCell_other hq))⟩)
            simp only [an1, an2]
            intro ys w4 hR hV hX
            obtain ⟨X, hj, hxx⟩ := hX
            have hx17 : X 17 = some (ys 17) := hxx 17 (by decide)
            have hx18 : X 18 = some (ys 18) := hxx 18 (by decide)
            obtain ⟨b7, hb7, hb70, hb71, _, hb73, _⟩ := hj.box _ hx17
            obtain ⟨v5, hv5, hbx⟩ := hb73 (by rw [hx18]; simp)
            have hr5 := hj.jr.row ⟨15, 1000, k + 1 + nb, cellsR (A ++ (x1, x2, x3) :: B)⟩ (by simp) hj.jr.nv _ hv5
            simp only at hr5
            simp only [Free.AllV, Free.At, List.length_cons, List.length_nil, Nat.reduceAdd, List.getElem?_cons_succ, List.getElem?_cons_zero, true_and, and_true] at hV
            simp only [Free.putsFrom, Act.put, Nat.zero_add, Nat.reduceAdd, hV, hb7, List.setIfInBounds_toArray, List.set_cons_succ, List.set_cons_zero]
            have hlen5 : (insR (x1, x2, x3) xs).length = k + 1 + nb := by rw [HSP.out, HNB.out]; simp <;> omega
            have hcs5 : cellsR (A ++ (x1, x2, x3) :: B) = cellsR (insR (x1, x2, x3) xs) := by rw [HSP.out, HA.out, HB.out]
            rw [hcs5] at hr5
            have HRL5 := Lib.hid (RL.of_row hlen5 (by unfold maxLen; omega) hr5)
            obtain ⟨p5, c5, e5⟩ := row_slice hr5
            rw [← hlen5] at e5
            subst e5
            have hrz4 : w4.heap[w.heap.size + 1 + 1]? = some (.cells #[.int .i64 0, .slice none 0 0] 24 (0, 0)) := (hR.block _ (by omega) (by omega)).trans (show w2.heap[w.heap.size + 1 + 1]? = _ from (HRZ.out w2 K10).2.2)
            have HB4 := Lib.hid (hF w4 hR).2
            have HRZ4 := Lib.hid hrz4
            have q0 := cell_of_heap (o := 0) hbx rfl
            have q1 := cell_of_heap (o := 1) hbx rfl
            have HBX := Lib.hid hbx
            obtain ⟨q, hq⟩ : ∃ q, watchB h (insR (x1, x2, x3) xs) = q := ⟨_, rfl⟩
            have HWQ := Lib.hid (watchR_v h (insR (x1, x2, x3) xs) _ w4 HRL5.out q hq)
            have HQ2 := Lib.hid hq
            clear hnb hR hV hF hj hxx hx17 hx18 hb71 hb73 hr5 hrz4 hbx hq hcs5 FA hsl1 hsl2 HPT hv5 hlen5 K10 hb70 hb7
            go_wp2_with fail
            refine HWQ.out.mono ?_
            rintro e w5 ⟨rfl, hB5⟩
            have hrz5 := (hB5.block _ (lt_of_heap HRZ4.out)).trans HRZ4.out
            have hbx5 := (hB5.block _ (lt_of_heap HBX.out)).trans HBX.out
            have z0 := cell_of_heap (o := 0) hrz5 rfl
            have z1 := cell_of_heap (o := 1) hrz5 rfl
            have z2 := frozen_of_heap (o := 0) hrz5
            have z3 := frozen_of_heap (o := 1) hrz5
            have q0 := cell_of_heap (o := 0) hbx5 rfl
            have q1 := cell_of_heap (o := 1) hbx5 rfl
            have HRZ5 := Lib.hid hrz5
            have HB5 := Lib.hid (HB4.out.trans (hB5.mono HB4.out.size))
            have HRL6 := Lib.hid (HRL5.out.keeps hB5)
            clear hrz5 hbx5 hB5
            cases q
            · obtain rfl : E = 71 := hE.out.symm.trans (by rw [HE1.out, HQ2.out]; rfl)
              have hE2 := hE.out
              obtain rfl : Hh = 0 := hHh.out.symm.trans (by rw [putH, hE2]; rfl)
              have HL : Hid (putL h xs (x1, x2, x3) = []) := by show _ = _; rw [putL, hE2]; rfl
              clear hE2
              go_wp2_with fail
              have hst := two_stores (.int .i64 0) (.slice none 0 0) z0 z1
              exact bodyPost_ret (v := .tuple #[.agg #[.int .i64 0, .slice none 0 0], .int .i64 71]) (by simp [results, Tryd.results44, go_sem, hst]) rfl ⟨⟨_, rfl, by rw [HL.out]; exact RL.nil _⟩, (HB5.out.setCell (by simp; omega) _).setCell (by simp; omega) _⟩
            · obtain rfl : E = 0 := hE.out.symm.trans (by rw [HE1.out, HQ2.out]; rfl)
              have hE2 := hE.out
              obtain rfl : Hh = h := hHh.out.symm.trans (by rw [putH, hE2]; rfl)
              have HL : Hid (putL Hh xs (x1, x2, x3) = insR (x1, x2, x3) xs) := by show _ = _; rw [putL, hE2]; rfl
              clear hE2
              go_wp2_with fail
              have hst := two_stores (.int .i64 Hh) (.slice p5 (insR (x1, x2, x3) xs).length c5) z0 z1
              have hrl9 := (HRL6.out.set (b := w.heap.size + 1 + 1) (o := 0) (x := .int .i64 Hh) (HRL6.out.ne_watch HRZ5.out)).set (b := w.heap.size + 1 + 1) (o := 1) (x := .slice p5 (insR (x1, x2, x3) xs).length c5) (HRL6.out.ne_watch HRZ5.out)
              exact bodyPost_ret (v := .tuple #[.agg #[.int .i64 Hh, .slice p5 (insR (x1, x2, x3) xs).length c5], .int .i64 0]) (by simp [results, Tryd.results44, go_sem, hst]) rfl ⟨⟨_, rfl, by rw [HL.out]; exact hrl9⟩, (HB5.out.setCell (by simp; omega) _).setCell (by simp; omega) _⟩
        · obtain rfl : k = xs.length := by omega
          have hsplit : insR (x1, x2, x3) xs = xs.take xs.length ++ (x1, x2, x3) :: xs.drop xs.length := insR_split (x1, x2, x3) xs xs.length hk hless.out (fun hk' => absurd hk' (Nat.lt_irrefl _))
          have HSP := Lib.hid hsplit
          have g2 : decide ((xs.length : Int) < xs.length) = false := decide_eq_false (by omega)
          clear hsplit
          go_wp2_with fail
          have hF : ∀ W, Free.Bel wr.drew W → (W.cell? ⟨w.heap.size, 1, none⟩ = some (.slice p xs.length cp) ∧ W.cell? ⟨w.heap.size + 1, 0, none⟩ = some (.int .i64 x1)) ∧ Free.Bel wr W := fun W hW => by
            obtain ⟨_, z1, z2, _⟩ := FA W (bt hB (Free.Bel.first hW))
            exact ⟨⟨z1, z2⟩, Free.Bel.first hW⟩
          refine Free.wp_free (R := Free.Bel) (by kernel_rfl) (by kernel_rfl) Free.Bel.refl Free.Bel.trans ?_
          refine Free.Chain.ex ?_ [] [6] (by kernel_rfl) (by kernel_rfl) rfl Free.Bel.refl ?_ ?_
          rotate_left 2
          simp only [an1, an2]
          refine Free.Chain.ex ?_ [] [2] (by kernel_rfl) (by kernel_rfl) rfl Free.Bel.refl ?_ ?_
          rotate_left 2
          simp only [an1, an2]
          refine Free.Chain.ex ?_ [(1, 18)] [] (by kernel_rfl) (by kernel_rfl) rfl Free.Bel.refl ?_ ?_
          rotate_left 2
          simp only [an1, an2]
          refine Free.Chain.ex ?_ [(2, 19)] [] (by kernel_rfl) (by kernel_rfl) rfl Free.Bel.refl ?_ ?_
          rotate_left 2
          simp only [an1, an2]
          refine Free.Chain.ex ?_ [(0, 17), (3, 20)] [] (by kernel_rfl) (by kernel_rfl) rfl Free.Bel.refl ?_ ?_
          rotate_left 2
          simp only [an1, an2]
          refine Free.Chain.ex ?_ [(4, 21)] [] (by kernel_rfl) (by kernel_rfl) rfl Free.Bel.refl ?_ ?_
          rotate_left 2
          simp only [an1, an2]
          rotate_left
          iterate 6 (rotate_left; intro ev W hb hR hO hD; have hS := hF W hR; obtain ⟨hS, hS2⟩ := hS; obtain ⟨hb1, hb2, hb3⟩ := hb; simp only [Free.AllDeps, Free.AllOuts, Free.At, al1, al2, al3, al4, al5, and_true] at hO hD; go_simp; rfl)
          refine Free.Chain.no [(5, 22)] [2] 5 true 22 (by kernel_rfl) (by kernel_rfl) rfl (by kernel_rfl) ?_ ?_
          · (intro ev W hR hD; simp only [Free.AllDeps, Free.At, List.getElem?_cons_succ, List.getElem?_cons_zero, and_true] at hD; simp [hD])
          simp only [an1, an2]
          refine Free.Chain.no [(6, 23), (5, 22)] [] 5 true 22 (by kernel_rfl) (by kernel_rfl) rfl (by kernel_rfl) ?_ ?_
          · (intro ev W hR hD; simp only [Free.AllDeps, Free.At, List.getElem?_cons_succ, List.getElem?_cons_zero, and_true] at hD; simp [hD])
          simp only [an1, an2]
          refine Free.Chain.no [(5, 22)] [6] 5 true 22 (by kernel_rfl) (by kernel_rfl) rfl (by kernel_rfl) ?_ ?_
          · (intro ev W hR hD; simp only [Free.AllDeps, Free.At, List.getElem?_cons_succ, List.getElem?_cons_zero, and_true] at hD; simp [hD])
          simp only [an1, an2]
          refine Free.Chain.no [(7, 24), (8, 25), (5, 22)] [] 5 true 22 (by kernel_rfl) (by kernel_rfl) rfl (by kernel_rfl) ?_ ?_
          · (intro ev W hR hD; simp only [Free.AllDeps, Free.At, List.getElem?_cons_succ, List.getElem?_cons_zero, and_true] at hD; simp [hD])
          simp only [an1, an2]
          refine Free.Chain.no [(9, 26), (5, 22)] [] 5 true 22 (by kernel_rfl) (by kernel_rfl) rfl (by kernel_rfl) ?_ ?_
          · (intro ev W hR hD; simp only [Free.AllDeps, Free.At, List.getElem?_cons_succ, List.getElem?_cons_zero, and_true] at hD; simp [hD])
          simp only [an1, an2]
          refine Free.Chain.no [(10, 27), (5, 22)] [] 5 true 22 (by kernel_rfl) (by kernel_rfl) rfl (by kernel_rfl) ?_ ?_
          · (intro ev W hR hD; simp only [Free.AllDeps, Free.At, List.getElem?_cons_succ, List.getElem?_cons_zero, and_true] at hD; simp [hD])
          simp only [an1, an2]
          refine Free.Chain.no [(5, 22)] [3] 5 true 22 (by kernel_rfl) (by kernel_rfl) rfl (by kernel_rfl) ?_ ?_
          · (intro ev W hR hD; simp only [Free.AllDeps, Free.At, List.getElem?_cons_succ, List.getElem?_cons_zero, and_true] at hD; simp [hD])
          simp only [an1, an2]
          refine Free.Chain.no [(12, 29), (5, 22)] [] 5 true 22 (by kernel_rfl) (by kernel_rfl) rfl (by kernel_rfl) ?_ ?_
          · (intro ev W hR hD; simp only [Free.AllDeps, Free.At, List.getElem?_cons_succ, List.getElem?_cons_zero, and_true] at hD; simp [hD])
          simp only [an1, an2]
          refine Free.Chain.no [(11, 28), (13, 30), (5, 22)] [] 5 true 22 (by kernel_rfl) (by kernel_rfl) rfl (by kernel_rfl) ?_ ?_
          · (intro ev W hR hD; simp only [Free.AllDeps, Free.At, List.getElem?_cons_succ, List.getElem?_cons_zero, and_true] at hD; simp [hD])
          simp only [an1, an2]
          refine Free.Chain.ex ?_ [(5, 22), (14, 31)] [] (by kernel_rfl) (by kernel_rfl) rfl Free.Bel.refl ?_ ?_
          rotate_left 2
          simp only [an1, an2]
          rotate_left
          rotate_left
          · (intro ev W hb hR hO hD; have hS := hF W hR; obtain ⟨hS, hS2⟩ := hS; obtain ⟨hb1, hb2, hb3⟩ := hb; simp only [Free.AllDeps, Free.AllOuts, Free.At, al1, al2, al3, al4, al5, and_true] at hO hD; go_simp; rfl)
          intro zs w' hR hV
          simp only [Free.AllV, Free.At, List.length_cons, List.length_nil, Nat.reduceAdd, List.getElem?_cons_succ, List.getElem?_cons_zero, true_and] at hV
          simp only [Free.putsFrom, Act.put, Nat.zero_add, Nat.reduceAdd, hV, List.setIfInBounds_toArray, List.set_cons_succ, List.set_cons_zero]
          have K9 := (hF w' hR).2
          clear hR hV hF
          have hwn : Below w.heap.size w w' := hww.trans (K9.mono hww.size)
          have K10 : Free.Bel (((w.alloc (.cells #[.int .i64 h, .slice p xs.length cp] 24)).alloc (.cells #[.int .i64 x1, .int .i64 x2, .int .i64 x3] 47)).alloc (.cells #[.int .i64 0, .slice none 0 0] 24)) w' := bt hB K9
          have hs3 : w.heap.size + 1 + 1 + 1 ≤ w'.heap.size := Nat.le_trans hs2 K9.size
          clear K9 hww hs2 hB
          generalize w' = w2 at *
          go_wp2_with fail
          have hsl1 := Lib.hid (slice_head p xs.length cp xs.length (by have := hcp.out; omega))
          obtain ⟨A, HA⟩ : ∃ A, Hid (A = xs.take xs.length) := ⟨_, rfl⟩
          obtain ⟨B, HB⟩ : ∃ B, Hid (B = xs.drop xs.length) := ⟨_, rfl⟩
          obtain ⟨nb, HNB⟩ : ∃ n : Nat, Hid (n = xs.length - xs.length) := ⟨_, rfl⟩
          have hnb : nb ≤ 3 := by rw [HNB.out]; omega
          have hsl2 := slice_tail p xs.length cp xs.length (by omega)
          rw [← HNB.out] at hsl2
          have hsl2 := Lib.hid hsl2
          have hpt := RL.parts HU.out HNZ.out hcp.out xs.length (by omega)
          rw [← HA.out, ← HB.out, ← HNB.out] at hpt
          have HPT := Lib.hid hpt
          clear hpt
          have hF : ∀ W, RZ w2.heap.size w2.heap.size w2.drew W → (W.cell? ⟨w.heap.size, 0, none⟩ = some (.int .i64 h) ∧ W.cell? ⟨w.heap.size, 1, none⟩ = some (.slice p xs.length cp) ∧ W.cell? ⟨w.heap.size + 1, 0, none⟩ = some (.int .i64 x1) ∧ W.cell? ⟨w.heap.size + 1, 1, none⟩ = some (.int .i64 x2) ∧ W.cell? ⟨w.heap.size + 1, 2, none⟩ = some (.int .i64 x3)) ∧ Below w.heap.size w W := fun W hW => by
            obtain ⟨z0, z1, z2, z3, z4, _⟩ := FA w2 K10
            exact ⟨⟨hW.cell (show w2.drew.cell? _ = _ from z0) (by simp; omega) (by simp; omega), hW.cell (show w2.drew.cell? _ = _ from z1) (by simp; omega) (by simp; omega), hW.cell (show w2.drew.cell? _ = _ from z2) (by simp; omega) (by simp; omega), hW.cell (show w2.drew.cell? _ = _ from z3) (by simp; omega) (by simp; omega), hW.cell (show w2.drew.cell? _ = _ from z4) (by simp; omega) (by simp; omega)⟩, RZ.below (hwn.drew) hW (by omega) (by omega)⟩
          refine Free2.wp_free (R := RZ w2.heap.size w2.heap.size) (J := JB w2.heap.size 47 3 [⟨2, 7, 0, []⟩, ⟨7, 10, xs.length, cellsR (A)⟩, ⟨9, 10, 1, cellsR [(x1, x2, x3)]⟩, ⟨10, 15, xs.length + 1, cellsR (A ++ [(x1, x2, x3)])⟩, ⟨15, 1000, xs.length + 1 + nb, cellsR (A ++ (x1, x2, x3) :: B)⟩] 15 16 17 18 (fun u => .agg #[.int .i64 h, u]) (.cells #[.int .i64 0, .slice none 0 0] 24 (0, 0)) (fun u => .cells #[.int .i64 h, u] 24 (0, 0))) (by kernel_rfl) (by kernel_rfl) (RZ.refl _ _) RZ.trans (JB.start (Nat.le_refl _)) ?_
          refine Free2.Chain.ex ?_ 0 rfl [] [2] (by kernel_rfl) (by kernel_rfl) rfl (RZ.refl _ _) (fun X W v h => JB.skip h 0 v (by simp) (by simp) (by simp) (by simp) (by simp)) ?_ ?_
          rotate_left
          · (intro ev W hb hR hO hD; have hS := hF W hR; obtain ⟨hS, hS2⟩ := hS; obtain ⟨hb1, hb2, hb3⟩ := hb; simp only [Free.AllDeps, Free.AllOuts, Free.At, al1, al2, al3, al4, al5, and_true] at hO hD; go_simp; rfl)
          simp only [an1, an2]
          refine Free2.Chain.ex ?_ 1 rfl [(0, 35)] [] (by kernel_rfl) (by kernel_rfl) rfl (RZ.refl _ _) (fun X W v h => JB.skip h 1 v (by simp) (by simp) (by simp) (by simp) (by simp)) ?_ ?_
          rotate_left
          · (intro ev W hb hR hO hD; have hS := hF W hR; obtain ⟨hS, hS2⟩ := hS; obtain ⟨hb1, hb2, hb3⟩ := hb; simp only [Free.AllDeps, Free.AllOuts, Free.At, al1, al2, al3, al4, al5, and_true] at hO hD; go_simp; rfl)
          simp only [an1, an2]
          refine Free2.Chain.pr (fun v _ => True) 2 rfl [] [] (by kernel_rfl) (by kernel_rfl) rfl (fun _ _ _ _ h => h) ?_ ?_
          · (intro ev W X hb hR hO hD hj hx hax; have hS := hF W hR; obtain ⟨hb1, hb2, hb3⟩ := hb; simp only [Free.AllDeps, Free.AllOuts, Free.At, al1, al2, al3, al4, al5, and_true] at hO hD; simp only [Free2.AllX, and_true] at hax; obtain ⟨hS, hS2⟩ := hS; go_simp; exact ⟨RZ.of_bel (belAlloc _ _) hj.jr.size, JB.new hj ⟨2, 7, 0, []⟩ (by simp) (by simp) (by simp) (by simp) (by simp) (by simp) (belAlloc _ _) (World.ownsRow_lit W #[] 0 (Nat.le_refl _) (by unfold maxLen; omega) rfl)⟩)
          simp only [an1, an2]
          refine Free2.Chain.ex ?_ 3 rfl [] [2] (by kernel_rfl) (by kernel_rfl) rfl (RZ.refl _ _) (fun X W v h => JB.skip h 3 v (by simp) (by simp) (by simp) (by simp) (by simp)) ?_ ?_
          rotate_left
          · (intro ev W hb hR hO hD; have hS := hF W hR; obtain ⟨hS, hS2⟩ := hS; obtain ⟨hb1, hb2, hb3⟩ := hb; simp only [Free.AllDeps, Free.AllOuts, Free.At, al1, al2, al3, al4, al5, and_true] at hO hD; go_simp; rfl)
          simp only [an1, an2]
          refine Free2.Chain.ex ?_ 4 rfl [(3, 38)] [] (by kernel_rfl) (by kernel_rfl) rfl (RZ.refl _ _) (fun X W v h => JB.skip h 4 v (by simp) (by simp) (by simp) (by simp) (by simp)) ?_ ?_
          rotate_left
          · (intro ev W hb hR hO hD; have hS := hF W hR; obtain ⟨hS, hS2⟩ := hS; obtain ⟨hb1, hb2, hb3⟩ := hb; simp only [Free.AllDeps, Free.AllOuts, Free.At, al1, al2, al3, al4, al5, and_true] at hO hD; go_simp; rfl)
          simp only [an1, an2]
          refine Free2.Chain.ex ?_ 5 rfl [] [6] (by kernel_rfl) (by kernel_rfl) rfl (RZ.refl _ _) (fun X W v h => JB.skip h 5 v (by simp) (by simp) (by simp) (by simp) (by simp)) ?_ ?_
          rotate_left
          · (intro ev W hb hR hO hD; have hS := hF W hR; obtain ⟨hS, hS2⟩ := hS; obtain ⟨hb1, hb2, hb3⟩ := hb; simp only [Free.AllDeps, Free.AllOuts, Free.At, al1, al2, al3, al4, al5, and_true] at hO hD; go_simp; rfl)
          simp only [an1, an2]
          refine Free2.Chain.pr (fun v _ => v = .slice p xs.length cp) 6 rfl [(4, 39), (5, 40)] [] (by kernel_rfl) (by kernel_rfl) rfl (fun _ _ _ _ h => h) ?_ ?_
          · (intro ev W X hb hR hO hD hj hx hax; have hS := hF W hR; obtain ⟨hb1, hb2, hb3⟩ := hb; simp only [Free.AllDeps, Free.AllOuts, Free.At, al1, al2, al3, al4, al5, and_true] at hO hD; simp only [Free2.AllX, and_true] at hax; obtain ⟨hS, hS2⟩ := hS; have hq := hsl1.out W; go_simp; exact ⟨RZ.refl _ _ _, rfl, JB.skip hj 6 _ (by simp) (by simp) (by simp) (by simp) (by simp)⟩)
          simp only [an1, an2]
          refine Free2.Chain.pr (fun v _ => True) 7 rfl [(2, 37), (6, 41)] [] (by kernel_rfl) (by kernel_rfl) rfl (fun _ _ _ _ h => h) ?_ ?_
          · (intro ev W X hb hR hO hD hj hx hax; have hS := hF W hR; obtain ⟨hb1, hb2, hb3⟩ := hb; simp only [Free.AllDeps, Free.AllOuts, Free.At, al1, al2, al3, al4, al5, and_true] at hO hD; simp only [Free2.AllX, and_true] at hax; obtain ⟨hS, hS2⟩ := hS; have ha1 := hax.1; have hd2 := hD.2; have hr1 := hj.jr.row ⟨2, 7, 0, []⟩ (by simp) hx _ ha1; refine yields_append_row W _ (.tmp 37) (.tmp 41) 22 rfl w2.heap.size 47 i0 (.agg #[.int .i64 0, .int .i64 0, .int .i64 0]) 3 24 Tryd.underlying22 HZ.out.1 HZ.out.2.1 HZ.out.2.2.1 HZ.out.2.2.2 rfl (by decide) _ 0 [] rfl hr1 p xs.length cp (cellsR (A)) hd2 (by rw [cellsR_length, HA.out, List.length_take]; omega) (HPT.out W hS2).1.1 (HPT.out W hS2).1.2 (cellsR_one _) (by unfold maxLen; omega) (by omega) hj.jr.size ?_; intro v9 w9 ho9 hk9; have hbl := hk9.below hr1 hj.jr.size; exact ⟨RZ.of_below hbl, trivial, JB.take hj ⟨2, 7, 0, []⟩ ⟨7, 10, xs.length, cellsR (A)⟩ (by simp) (by simp) rfl (by simp) (by simp) (by simp) (by simp) (by simp) ha1 hx hk9 (by simpa using ho9)⟩)
          simp only [an1, an2]
          refine Free2.Chain.ex ?_ 8 rfl [] [3] (by kernel_rfl) (by kernel_rfl) rfl (RZ.refl _ _) (fun X W v h => JB.skip h 8 v (by simp) (by simp) (by simp) (by simp) (by simp)) ?_ ?_
          rotate_left
          · (intro ev W hb hR hO hD; have hS := hF W hR; obtain ⟨hS, hS2⟩ := hS; obtain ⟨hb1, hb2, hb3⟩ := hb; simp only [Free.AllDeps, Free.AllOuts, Free.At, al1, al2, al3, al4, al5, and_true] at hO hD; go_simp; rfl)
          simp only [an1, an2]
          refine Free2.Chain.pr (fun v _ => True) 9 rfl [(8, 43)] [] (by kernel_rfl) (by kernel_rfl) rfl (fun _ _ _ _ h => h) ?_ ?_
          · (intro ev W X hb hR hO hD hj hx hax; have hS := hF W hR; obtain ⟨hb1, hb2, hb3⟩ := hb; simp only [Free.AllDeps, Free.AllOuts, Free.At, al1, al2, al3, al4, al5, and_true] at hO hD; simp only [Free2.AllX, and_true] at hax; obtain ⟨hS, hS2⟩ := hS; go_simp; exact ⟨RZ.of_bel (belAlloc _ _) hj.jr.size, JB.new hj ⟨9, 10, 1, cellsR [(x1, x2, x3)]⟩ (by simp) (by simp) (by simp) (by simp) (by simp) (by simp) (belAlloc _ _) (World.ownsRow_lit W #[.int .i64 x1, .int .i64 x2, .int .i64 x3] 1 (Nat.le_refl _) (by unfold maxLen; omega) rfl)⟩)
          simp only [an1, an2]
          refine Free2.Chain.pr (fun v _ => True) 10 rfl [(7, 42), (9, 44), (7, 42)] [] (by kernel_rfl) (by kernel_rfl) rfl (fun _ _ _ _ h => h) ?_ ?_
          · (intro ev W X hb hR hO hD hj hx hax; have hS := hF W hR; obtain ⟨hb1, hb2, hb3⟩ := hb; simp only [Free.AllDeps, Free.AllOuts, Free.At, al1, al2, al3, al4, al5, and_true] at hO hD; simp only [Free2.AllX, and_true] at hax; obtain ⟨hS, hS2⟩ := hS; have ha1 := hax.1; have ha2 := hax.2.1; have hr1 := hj.jr.row ⟨7, 10, xs.length, cellsR (A)⟩ (by simp) hx _ ha1; have hr2 := hj.jr.row ⟨9, 10, 1, cellsR [(x1, x2, x3)]⟩ (by simp) hx _ ha2; obtain ⟨p8, c8, e8⟩ := row_slice hr2; simp only at e8 hr1 hr2; have hs8 : ∀ ad, p8 = some ad → ∀ j u, (cellsR [(x1, x2, x3)])[j]? = some u → W.cell? (ad.add j) = some u := (fun ad he j u hju => by obtain ⟨g, cap, cur, h9, hb9, hg9, _⟩ := hr2.2.resolve_left (fun h => absurd h.2 (by decide)); rw [e8] at h9; simp only [Value.slice.injEq] at h9; rw [e8, h9.1] at hr2; rw [h9.1] at he; cases he; exact hr2.cells (g := g) (by simp [Value.ownBlock]) j u hju); refine yields_append_row W _ (.tmp 42) (.tmp 44) 22 rfl w2.heap.size 47 i0 (.agg #[.int .i64 0, .int .i64 0, .int .i64 0]) 3 24 Tryd.underlying22 HZ.out.1 HZ.out.2.1 HZ.out.2.2.1 HZ.out.2.2.2 rfl (by decide) _ xs.length (cellsR (A)) rfl hr1 p8 1 c8 (cellsR [(x1, x2, x3)]) e8 rfl hs8 (fun he => by obtain ⟨g, cap, cur, h9, _⟩ := hr2.2.resolve_left (fun h => absurd h.2 (by decide)); rw [e8, he] at h9; cases h9) (cellsR_one _) (by unfold maxLen; omega) (by omega) hj.jr.size ?_; intro v9 w9 ho9 hk9; have hbl := hk9.below hr1 hj.jr.size; exact ⟨RZ.of_below hbl, trivial, JB.take hj ⟨7, 10, xs.length, cellsR (A)⟩ ⟨10, 15, xs.length + 1, cellsR (A ++ [(x1, x2, x3)])⟩ (by simp) (by simp) rfl (by simp) (by simp) (by simp) (by simp) (by simp) ha1 hx hk9 (by rw [cellsR_append]; exact ho9)⟩)
          simp only [an1, an2]
          refine Free2.Chain.ex ?_ 11 rfl [] [2] (by kernel_rfl) (by kernel_rfl) rfl (RZ.refl _ _) (fun X W v h => JB.skip h 11 v (by simp) (by simp) (by simp) (by simp) (by simp)) ?_ ?_
          rotate_left
          · (intro ev W hb hR hO hD; have hS := hF W hR; obtain ⟨hS, hS2⟩ := hS; obtain ⟨hb1, hb2, hb3⟩ := hb; simp only [Free.AllDeps, Free.AllOuts, Free.At, al1, al2, al3, al4, al5, and_true] at hO hD; go_simp; rfl)
          simp only [an1, an2]
          refine Free2.Chain.ex ?_ 12 rfl [(11, 46)] [] (by kernel_rfl) (by kernel_rfl) rfl (RZ.refl _ _) (fun X W v h => JB.skip h 12 v (by simp) (by simp) (by simp) (by simp) (by simp)) ?_ ?_
          rotate_left
          · (intro ev W hb hR hO hD; have hS := hF W hR; obtain ⟨hS, hS2⟩ := hS; obtain ⟨hb1, hb2, hb3⟩ := hb; simp only [Free.AllDeps, Free.AllOuts, Free.At, al1, al2, al3, al4, al5, and_true] at hO hD; go_simp; rfl)
          simp only [an1, an2]
          refine Free2.Chain.ex ?_ 13 rfl [] [6] (by kernel_rfl) (by kernel_rfl) rfl (RZ.refl _ _) (fun X W v h => JB.skip h 13 v (by simp) (by simp) (by simp) (by simp) (by simp)) ?_ ?_
          rotate_left
          · (intro ev W hb hR hO hD; have hS := hF W hR; obtain ⟨hS, hS2⟩ := hS; obtain ⟨hb1, hb2, hb3⟩ := hb; simp only [Free.AllDeps, Free.AllOuts, Free.At, al1, al2, al3, al4, al5, and_true] at hO hD; go_simp; rfl)
          simp only [an1, an2]
          refine Free2.Chain.pr (fun v _ => v = .slice (tailP p cp xs.length) nb (cp - xs.length)) 14 rfl [(12, 47), (13, 48)] [] (by kernel_rfl) (by kernel_rfl) rfl (fun _ _ _ _ h => h) ?_ ?_
          · (intro ev W X hb hR hO hD hj hx hax; have hS := hF W hR; obtain ⟨hb1, hb2, hb3⟩ := hb; simp only [Free.AllDeps, Free.AllOuts, Free.At, al1, al2, al3, al4, al5, and_true] at hO hD; simp only [Free2.AllX, and_true] at hax; obtain ⟨hS, hS2⟩ := hS; have hq := hsl2.out W; go_simp; exact ⟨RZ.refl _ _ _, rfl, JB.skip hj 14 _ (by simp) (by simp) (by simp) (by simp) (by simp)⟩)
          simp only [an1, an2]
          refine Free2.Chain.pr (fun v _ => True) 15 rfl [(10, 45), (14, 49), (10, 45)] [] (by kernel_rfl) (by kernel_rfl) rfl (fun _ _ _ _ h => h) ?_ ?_
          · (intro ev W X hb hR hO hD hj hx hax; have hS := hF W hR; obtain ⟨hb1, hb2, hb3⟩ := hb; simp only [Free.AllDeps, Free.AllOuts, Free.At, al1, al2, al3, al4, al5, and_true] at hO hD; simp only [Free2.AllX, and_true] at hax; obtain ⟨hS, hS2⟩ := hS; have ha1 := hax.1; have hd2 := hD.2; have hr1 := hj.jr.row ⟨10, 15, xs.length + 1, cellsR (A ++ [(x1, x2, x3)])⟩ (by simp) hx _ ha1; refine yields_append_row W _ (.tmp 45) (.tmp 49) 22 rfl w2.heap.size 47 i0 (.agg #[.int .i64 0, .int .i64 0, .int .i64 0]) 3 24 Tryd.underlying22 HZ.out.1 HZ.out.2.1 HZ.out.2.2.1 HZ.out.2.2.2 rfl (by decide) _ (xs.length + 1) (cellsR (A ++ [(x1, x2, x3)])) rfl hr1 (tailP p cp xs.length) nb (cp - xs.length) (cellsR (B)) hd2 (by rw [cellsR_length, HB.out, HNB.out, List.length_drop]) (HPT.out W hS2).2.1 (HPT.out W hS2).2.2 (cellsR_one _) (by unfold maxLen; omega) (by omega) hj.jr.size ?_; intro v9 w9 ho9 hk9; have hbl := hk9.below hr1 hj.jr.size; exact ⟨RZ.of_below hbl, trivial, JB.take hj ⟨10, 15, xs.length + 1, cellsR (A ++ [(x1, x2, x3)])⟩ ⟨15, 1000, xs.length + 1 + nb, cellsR (A ++ (x1, x2, x3) :: B)⟩ (by simp) (by simp) rfl (by simp) (by simp) (by simp) (by simp) (by simp) ha1 hx hk9 (by rw [show A ++ (x1, x2, x3) :: B = (A ++ [(x1, x2, x3)]) ++ B from by simp, cellsR_append (A ++ [(x1, x2, x3)])]; exact ho9)⟩)
          simp only [an1, an2]
          refine Free2.Chain.pr (fun v _ => True) 16 rfl [(1, 36), (15, 50)] [] (by kernel_rfl) (by kernel_rfl) rfl (fun _ _ _ _ h => h) ?_ ?_
          · (intro ev W X hb hR hO hD hj hx hax; have hS := hF W hR; obtain ⟨hb1, hb2, hb3⟩ := hb; simp only [Free.AllDeps, Free.AllOuts, Free.At, al1, al2, al3, al4, al5, and_true] at hO hD; simp only [Free2.AllX, and_true] at hax; obtain ⟨hS, hS2⟩ := hS; have ha2 := hax.2; obtain ⟨p8, c8, e8⟩ := row_slice (hj.jr.row ⟨15, 1000, xs.length + 1 + nb, cellsR (A ++ (x1, x2, x3) :: B)⟩ (by simp) hj.jr.nv _ ha2); simp only at e8; rw [e8] at ha2; go_simp; exact ⟨RZ.refl _ _ _, JB.build hj (by simp) (by simp) (by simp) (by simp) (by simp) ha2⟩)
          simp only [an1, an2]
          refine Free2.Chain.pr (fun v _ => True) 17 rfl [] [] (by kernel_rfl) (by kernel_rfl) rfl (fun _ _ _ _ h => h) ?_ ?_
          · (intro ev W X hb hR hO hD hj hx hax; have hS := hF W hR; obtain ⟨hb1, hb2, hb3⟩ := hb; simp only [Free.AllDeps, Free.AllOuts, Free.At, al1, al2, al3, al4, al5, and_true] at hO hD; simp only [Free2.AllX, and_true] at hax; obtain ⟨hS, hS2⟩ := hS; go_simp; exact ⟨RZ.of_bel (belAlloc _ _) hj.jr.size, JB.alloc hj (by simp) (by simp) (by simp) (by simp) (by simp) hx⟩)
          simp only [an1, an2]
          refine Free2.Chain.pr (fun v _ => True) 18 rfl [(17, 7), (16, 51), (15, 50), (0, 35), (1, 36), (2, 37), (3, 38), (4, 39), (5, 40), (6, 41), (7, 42), (8, 43), (9, 44), (10, 45), (11, 46), (12, 47), (13, 48), (14, 49), (15, 50), (16, 51), (17, 7)] [] (by kernel_rfl) (by kernel_rfl) rfl (fun _ _ _ _ h => h) ?_ ?_
          · (intro ev W X hb hR hO hD hj hx hax; have hS := hF W hR; obtain ⟨hb1, hb2, hb3⟩ := hb; simp only [Free.AllDeps, Free.AllOuts, Free.At, al1, al2, al3, al4, al5, and_true] at hO hD; simp only [Free2.AllX, and_true] at hax; obtain ⟨hS, hS2⟩ := hS; have ha7 := hax.1; obtain ⟨u8, hu8, he8⟩ := hj.bld _ (hax.2.1); obtain ⟨b7, hb7, hb70, hb71, hb72, _⟩ := hj.box _ ha7; rw [hb7] at ha7; have hzz := hb72 hx; obtain ⟨p8, c8, e8⟩ := row_slice (hj.jr.row ⟨15, 1000, xs.length + 1 + nb, cellsR (A ++ (x1, x2, x3) :: B)⟩ (by simp) hj.jr.nv _ hu8); simp only at e8; subst e8; have q0 := cell_of_heap (o := 0) hzz rfl; have q1 := cell_of_heap (o := 1) hzz rfl; have f0 := frozen_of_heap (o := 0) hzz; have f1 := frozen_of_heap (o := 1) hzz; go_simp; have h9 := heap_setCell_same (o := 1) (.slice p8 (xs.length + 1 + nb) c8) (heap_setCell_same (o := 0) (.int .i64 h) hzz); exact ⟨RZ.trans _ _ _ (RZ.setNew hb70) (RZ.setNew hb70), JB.store hj (by simp) (by simp) (by simp) (by simp) (by simp) hu8 ha7 (by simp) (by simpa using h9) (fun q hq => (heap_setCell_other hq).trans (heap_setCell_other hq))⟩)
          simp only [an1, an2]
          intro ys w4 hR hV hX
          obtain ⟨X, hj, hxx⟩ := hX
          have hx17 : X 17 = some (ys 17) := hxx 17 (by decide)
          have hx18 : X 18 = some (ys 18) := hxx 18 (by decide)
          obtain ⟨b7, hb7, hb70, hb71, _, hb73, _⟩ := hj.box _ hx17
          obtain ⟨v5, hv5, hbx⟩ := hb73 (by rw [hx18]; simp)
          have hr5 := hj.jr.row ⟨15, 1000, xs.length + 1 + nb, cellsR (A ++ (x1, x2, x3) :: B)⟩ (by simp) hj.jr.nv _ hv5
          simp only at hr5
          simp only [Free.AllV, Free.At, List.length_cons, List.length_nil, Nat.reduceAdd, List.getElem?_cons_succ, List.getElem?_cons_zero, true_and, and_true] at hV
          simp only [Free.putsFrom, Act.put, Nat.zero_add, Nat.reduceAdd, hV, hb7, List.setIfInBounds_toArray, List.set_cons_succ, List.set_cons_zero]
          have hlen5 : (insR (x1, x2, x3) xs).length = xs.length + 1 + nb := by rw [HSP.out, HNB.out]; simp <;> omega
          have hcs5 : cellsR (A ++ (x1, x2, x3) :: B) = cellsR (insR (x1, x2, x3) xs) := by rw [HSP.out, HA.out, HB.out]
          rw [hcs5] at hr5
          have HRL5 := Lib.hid (RL.of_row hlen5 (by unfold maxLen; omega) hr5)
          obtain ⟨p5, c5, e5⟩ := row_slice hr5
          rw [← hlen5] at e5
          subst e5
          have hrz4 : w4.heap[w.heap.size + 1 + 1]? = some (.cells #[.int .i64 0, .slice none 0 0] 24 (0, 0)) := (hR.block _ (by omega) (by omega)).trans (show w2.heap[w.heap.size + 1 + 1]? = _ from (HRZ.out w2 K10).2.2)
          have HB4 := Lib.hid (hF w4 hR).2
          have HRZ4 := Lib.hid hrz4
          have q0 := cell_of_heap (o := 0) hbx rfl
          have q1 := cell_of_heap (o := 1) hbx rfl
          have HBX := Lib.hid hbx
          obtain ⟨q, hq⟩ : ∃ q, watchB h (insR (x1, x2, x3) xs) = q := ⟨_, rfl⟩
          have HWQ := Lib.hid (watchR_v h (insR (x1, x2, x3) xs) _ w4 HRL5.out q hq)
          have HQ2 := Lib.hid hq
          clear hnb hR hV hF hj hxx hx17 hx18 hb71 hb73 hr5 hrz4 hbx hq hcs5 FA hsl1 hsl2 HPT hv5 hlen5 K10 hb70 hb7
          go_wp2_with fail
          refine HWQ.out.mono ?_
          rintro e w5 ⟨rfl, hB5⟩
          have hrz5 := (hB5.block _ (lt_of_heap HRZ4.out)).trans HRZ4.out
          have hbx5 := (hB5.block _ (lt_of_heap HBX.out)).trans HBX.out
          have z0 := cell_of_heap (o := 0) hrz5 rfl
          have z1 := cell_of_heap (o := 1) hrz5 rfl
          have z2 := frozen_of_heap (o := 0) hrz5
          have z3 := frozen_of_heap (o := 1) hrz5
          have q0 := cell_of_heap (o := 0) hbx5 rfl
          have q1 := cell_of_heap (o := 1) hbx5 rfl
          have HRZ5 := Lib.hid hrz5
          have HB5 := Lib.hid (HB4.out.trans (hB5.mono HB4.out.size))
          have HRL6 := Lib.hid (HRL5.out.keeps hB5)
          clear hrz5 hbx5 hB5
          cases q
          · obtain rfl : E = 71 := hE.out.symm.trans (by rw [HE1.out, HQ2.out]; rfl)
            have hE2 := hE.out
            obtain rfl : Hh = 0 := hHh.out.symm.trans (by rw [putH, hE2]; rfl)
            have HL : Hid (putL h xs (x1, x2, x3) = []) := by show _ = _; rw [putL, hE2]; rfl
            clear hE2
            go_wp2_with fail
            have hst := two_stores (.int .i64 0) (.slice none 0 0) z0 z1
            exact bodyPost_ret (v := .tuple #[.agg #[.int .i64 0, .slice none 0 0], .int .i64 71]) (by simp [results, Tryd.results44, go_sem, hst]) rfl ⟨⟨_, rfl, by rw [HL.out]; exact RL.nil _⟩, (HB5.out.setCell (by simp; omega) _).setCell (by simp; omega) _⟩
          · obtain rfl : E = 0 := hE.out.symm.trans (by rw [HE1.out, HQ2.out]; rfl)
            have hE2 := hE.out
            obtain rfl : Hh = h := hHh.out.symm.trans (by rw [putH, hE2]; rfl)
            have HL : Hid (putL Hh xs (x1, x2, x3) = insR (x1, x2, x3) xs) := by show _ = _; rw [putL, hE2]; rfl
            clear hE2
            go_wp2_with fail
            have hst := two_stores (.int .i64 Hh) (.slice p5 (insR (x1, x2, x3) xs).length c5) z0 z1
            have hrl9 := (HRL6.out.set (b := w.heap.size + 1 + 1) (o := 0) (x := .int .i64 Hh) (HRL6.out.ne_watch HRZ5.out)).set (b := w.heap.size + 1 + 1) (o := 1) (x := .slice p5 (insR (x1, x2, x3) xs).length c5) (HRL6.out.ne_watch HRZ5.out)
            exact bodyPost_ret (v := .tuple #[.agg #[.int .i64 Hh, .slice p5 (insR (x1, x2, x3) xs).length c5], .int .i64 0]) (by simp [results, Tryd.results44, go_sem, hst]) rfl ⟨⟨_, rfl, by rw [HL.out]; exact hrl9⟩, (HB5.out.setCell (by simp; omega) _).setCell (by simp; omega) _⟩
end Go.Proofs.YtknpglgpkkhhiaaDoor

/- slices.Delete of one rick out of a row of one's own. -/
namespace Go.Proofs.YtknpglgpkkhhiaaDoor
set_option linter.unusedSimpArgs false
set_option linter.unusedVariables false
open Go.RowKit Go.Proofs.YtknpglgpkkhhiaaDoor.Free2

/-- Many cells set. -/
def setL : List Value → Nat → List Value → List Value
  | cs, _, [] => cs
  | cs, o, v :: r => setL (cs.set o v) (o + 1) r
theorem setL_eq : ∀ (vs cs : List Value) (o : Nat), o + vs.length ≤ cs.length → setL cs o vs = cs.take o ++ vs ++ cs.drop (o + vs.length)
  | [], cs, o, _ => by simp [setL]
  | v :: r, cs, o, h => by
    have h' : o + (r.length + 1) ≤ cs.length := by simpa using h
    rw [setL, setL_eq r (cs.set o v) (o + 1) (by simp; omega), list_seg_step cs o v r h']
    simp
theorem setL_length : ∀ (vs cs : List Value) (o : Nat), (setL cs o vs).length = cs.length
  | [], cs, o => rfl
  | v :: r, cs, o => by rw [setL, setL_length]; simp
theorem row_setCells {base g n cap sz : Nat} {e : TypeId} : ∀ (vs cs : List Value) (o : Nat) (w : World), w.ownsRow base e sz (.slice (some ⟨g, 0, none⟩) n cap) n cs → (w.setCells g o vs).ownsRow base e sz (.slice (some ⟨g, 0, none⟩) n cap) n (setL cs o vs)
  | [], _, _, _, h => h
  | v :: r, cs, o, w, h => row_setCells r (cs.set o v) (o + 1) _ (h.stored o v).1
theorem row_shrink {base g n m cap sz : Nat} {e : TypeId} {cs : List Value} {w : World} (h : w.ownsRow base e sz (.slice (some ⟨g, 0, none⟩) n cap) n cs) (hm : m ≤ n) : w.ownsRow base e sz (.slice (some ⟨g, 0, none⟩) m cap) m (cs.take (m * sz)) := by
  have hle : m * sz ≤ n * sz := Nat.mul_le_mul_right _ hm
  refine ⟨by rw [List.length_take, h.1]; omega, ?_⟩
  rcases h.2 with ⟨h', _⟩ | ⟨g', cap', cur, h', hb, hg, hnc, hcm, hcs, htake⟩
  · simp at h'
  · simp only [Value.slice.injEq, Option.some.injEq, Addr.mk.injEq, and_true, true_and] at h'
    obtain ⟨rfl, rfl⟩ := h'
    refine .inr ⟨g, cap, cur, rfl, hb, hg, by omega, hcm, hcs, ?_⟩
    rw [← htake, List.take_take, Nat.min_eq_left hle]
theorem BX.setCells (g : Nat) : ∀ (vs : List Value) (o : Nat) (w : World), BX g w (w.setCells g o vs)
  | [], _, w => BX.refl g w
  | v :: r, o, w => (BX.set (rb := g) (o := o) (v := v)).trans (BX.setCells g r (o + 1) _)
theorem cellsR_split (xs : List Rk) (k : Nat) (hk : k < xs.length) : cellsR xs = cellsR (xs.take k) ++ ([.int .i64 xs[k].1, .int .i64 xs[k].2.1, .int .i64 xs[k].2.2] ++ cellsR (xs.drop (k + 1))) := by
  have h : xs = xs.take k ++ (xs[k] :: xs.drop (k + 1)) := by rw [List.getElem_cons_drop, List.take_append_drop]
  have e : ∀ (z : Rk) (l : List Rk), cellsR (z :: l) = [.int .i64 z.1, .int .i64 z.2.1, .int .i64 z.2.2] ++ cellsR l := fun z l => by simp [cellsR]
  rw [← e, ← cellsR_append, ← h]
/-- What is left behind Delete. -/
theorem del_cells (xs : List Rk) (k : Nat) (hk : k < xs.length) (z : List Value) (hz : z.length = 3) :
    (setL (setL (cellsR xs) (k * 3) (cellsR (xs.drop (k + 1)))) ((xs.length - 1) * 3) z).take ((xs.length - 1) * 3) = cellsR (xs.take k ++ xs.drop (k + 1)) := by
  have hA : (cellsR (xs.take k)).length = k * 3 := by rw [cellsR_length, List.length_take, Nat.min_eq_left (by omega)]
  have hC : (cellsR (xs.drop (k + 1))).length = (xs.length - (k + 1)) * 3 := by rw [cellsR_length, List.length_drop]
  have hl := cellsR_length xs
  have h1 : setL (cellsR xs) (k * 3) (cellsR (xs.drop (k + 1))) = cellsR (xs.take k) ++ cellsR (xs.drop (k + 1)) ++ (cellsR xs).drop (k * 3 + (xs.length - (k + 1)) * 3) := by
    rw [setL_eq _ _ _ (by rw [hl, hC]; omega), hC]
    congr 2
    rw [cellsR_split xs k hk, List.take_left' hA]
  have hl1 : (setL (cellsR xs) (k * 3) (cellsR (xs.drop (k + 1)))).length = xs.length * 3 := by rw [setL_length, hl]
  rw [setL_eq _ _ _ (by rw [hl1, hz]; omega), List.append_assoc, List.take_left' (by rw [List.length_take, hl1]; omega), h1, cellsR_append]
  exact List.take_left' (by rw [List.length_append, hA, hC]; omega)
set_option maxRecDepth 100000 in
/-- clear at one rick. -/
theorem run_clear_rick (W : World) (ty : TypeId) (b o c : Nat) (hc : ∀ j, j < 3 → (W.cell? ⟨b, o + j, none⟩).isSome = true) (hf : ∀ j, j < 3 → W.frozen? ⟨b, o + j, none⟩ = false) :
    (Builtin.clear_ #[22] ty #[.slice (some ⟨b, o, none⟩) 1 c]).run Tryd.prog W = .ok (.tuple #[]) (W.setCells b o [.int .i64 0, .int .i64 0, .int .i64 0]) := by
  have hst := run_storeCells_cells (P := Tryd.prog) b o [.int .i64 0, .int .i64 0, .int .i64 0] 0 W (by simpa using hc) (by simpa using hf) (by intro v hv; simp at hv; rw [hv]; rfl)
  simp only [Nat.add_zero] at hst
  have hv : ∀ w, (zeroValue 47).run Tryd.prog w = .ok (.agg #[.int .i64 0, .int .i64 0, .int .i64 0]) w := fun w => by kernel_rfl
  have hz : (Builtin.zeroCells (Value.cells (.agg #[.int .i64 0, .int .i64 0, .int .i64 0])) 1).toList = [.int .i64 0, .int .i64 0, .int .i64 0] := by kernel_rfl
  simp [Builtin.clear_, run_underlying (P := Tryd.prog) Tryd.underlying22, hv, Result.andThen, hz, hst]
/-- A region that changes one thing, by the operation ia: ahead of it this, behind it that. -/
structure JD (C0 C1 : World → Prop) (ia : Nat) (X : XT) (W : World) : Prop where
  a : X ia = none → C0 W
  b : X ia ≠ none → C1 W
theorem JD.start {C0 C1 : World → Prop} {ia : Nat} {W : World} (h : C0 W) : JD C0 C1 ia (fun _ => none) W := ⟨fun _ => h, fun e => absurd rfl e⟩
theorem JD.skip {C0 C1 : World → Prop} {ia : Nat} {X : XT} {W : World} (h : JD C0 C1 ia X W) (n : Nat) (v : Value) (hn : n ≠ ia) : JD C0 C1 ia (upd X n v) W :=
  ⟨by rw [upd_other _ _ hn.symm]; exact h.a, by rw [upd_other _ _ hn.symm]; exact h.b⟩
theorem JD.put {C0 C1 : World → Prop} {ia : Nat} {X : XT} {W : World} {v : Value} (h : C1 W) : JD C0 C1 ia (upd X ia v) W :=
  ⟨fun e => (by rw [upd_same] at e; cases e), fun _ => h⟩
/-- An append where there is room, in a region that draws its order. -/
theorem yields_append_room {P : Program} {K : Value → World → Prop} {ev : Operand → Value} (w : World) (o : Oper) (s x : Operand) (t : TypeId) (ho : o.op = .call { callee := .builtin .append, args := #[s, x], argTypes := #[t, t] })
    (e : TypeId) (i : TypeInfo) (size : Nat) (ht : P.underlying t = some (.slice e)) (hi : P.info? e = some i) (hsize : i.size = size)
    (g n cap : Nat) (hs : ev s = .slice (some ⟨g, 0, none⟩) n cap) (ad : Addr) (m c : Nat) (news : List Value) (hx : ev x = .slice (some ad) m c) (hl : news.length = m * size) (hp : ∀ j u, news[j]? = some u → w.cell? (ad.add j) = some u) (h1 : ∀ u ∈ news, u.oneCell' = true)
    (hroom : n + m ≤ cap) (hc : ∀ j, j < news.length → (w.cell? ⟨g, n * size + j, none⟩).isSome = true) (hf : ∀ j, j < news.length → w.frozen? ⟨g, n * size + j, none⟩ = false)
    (h : K (.slice (some ⟨g, 0, none⟩) (n + m) cap) (w.setCells g (n * size) news)) : Free.Yields P K ((execOp ev o).run P w) := by
  subst hsize
  have hrun := run_append_room_cells (P := P) w t o.type e i ht hi g 0 n cap ad m c news hl hp h1 hroom (by simpa using hc) (by simpa using hf)
  simp only [Nat.zero_add] at hrun
  unfold execOp
  simp only [ho, resolve, invoke, builtin, Sem.run_bind, Sem.run_pure, Result.andThen_ok, List.map_toArray, List.map_cons, List.map_nil, hs, hx, hrun]
  exact h
set_option maxRecDepth 100000 in
theorem slice_lh (g n cp a b : Nat) (h1 : a ≤ b) (h2 : b ≤ cp) (h3 : a ≠ cp) (W : World) : (Instr.slice 22 (.slice (some ⟨g, 0, none⟩) n cp) (some (.int .i64 (a : Int))) (some (.int .i64 (b : Int))) none).run Tryd.prog W = .ok (.slice (some ⟨g, a * 3, none⟩) (b - a) (cp - a)) W := by
  rw [run_slice_lh W 22 (some ⟨g, 0, none⟩) n cp Tryd.underlying22 .i64 .i64 a b (by omega) (by omega) (by omega)]
  have he : Tryd.prog.elem 22 = 47 := by kernel_rfl
  rw [he, sizeRick]
  have h4 : cp ≠ a := fun e => h3 e.symm
  simp [Result.andThen, sliced, h4, addE]
set_option maxRecDepth 100000 in
theorem slice_lhm (g n cp a b m : Nat) (h1 : a ≤ b) (h2 : b ≤ m) (h3 : m ≤ cp) (W : World) : ∃ v, (Instr.slice 22 (.slice (some ⟨g, 0, none⟩) n cp) (some (.int .i64 (a : Int))) (some (.int .i64 (b : Int))) (some (.int .i64 (m : Int)))).run Tryd.prog W = .ok v W := by
  rw [run_slice_lhm W 22 (some ⟨g, 0, none⟩) n cp Tryd.underlying22 .i64 .i64 .i64 a b m (by omega) (by omega) (by omega) (by omega)]
  have he : Tryd.prog.elem 22 = 47 := by kernel_rfl
  rw [he, sizeRick]
  exact ⟨_, rfl⟩
end Go.Proofs.YtknpglgpkkhhiaaDoor

/- slices.Delete of one rick: the walk. -/
namespace Go.Proofs.YtknpglgpkkhhiaaDoor
set_option linter.unusedSimpArgs false
set_option linter.unusedVariables false
open Go.RowKit Go.Proofs.YtknpglgpkkhhiaaDoor.Free2

set_option maxRecDepth 100000 in
set_option maxHeartbeats 4000000 in
theorem deleteP_any (base g cap k : Nat) (xs : List Rk) (w : World) (ho : w.ownsRow base 47 3 (.slice (some ⟨g, 0, none⟩) xs.length cap) xs.length (cellsR xs)) (hk : k < xs.length) (hl : xs.length ≤ 1000) :
    Calls Tryd.prog 87 #[.slice (some ⟨g, 0, none⟩) xs.length cap, .int .i64 k, .int .i64 ((k : Int) + 1)] w fun e w' => e = .returned (.slice (some ⟨g, 0, none⟩) (xs.length - 1) cap) ∧ w'.ownsRow base 47 3 (.slice (some ⟨g, 0, none⟩) (xs.length - 1) cap) (xs.length - 1) (cellsR (xs.take k ++ xs.drop (k + 1))) ∧ BX g w w' := by
  have HO := Lib.hid ho
  obtain ⟨n, hn⟩ : ∃ n, xs.length = n + 1 := ⟨xs.length - 1, by omega⟩
  obtain ⟨hcap, hgs, hcm⟩ : n + 1 ≤ cap ∧ g < w.heap.size ∧ cap ≤ maxLen := by
    rcases ho.2 with ⟨h', _⟩ | ⟨g', cap', cur, h', hb, hg, hnc, hcm, _⟩
    · simp at h'
    · simp only [Value.slice.injEq, Option.some.injEq, Addr.mk.injEq, and_true, true_and] at h'
      obtain ⟨rfl, rfl⟩ := h'
      exact ⟨by omega, lt_of_heap hg, hcm⟩
  unfold maxLen at hcm
  have hsub : xs.length - 1 = n := by omega
  rw [hsub]
  obtain ⟨i0, hi0, hz0, hz1, hz2⟩ := info_parts T.infoRick
  have HZ := Lib.hid (And.intro hi0 (And.intro hz0 (And.intro hz1 hz2)))
  have hone : ∀ j, j < (n + 1) * 3 → ∀ (W : World) (cs : List Value), W.ownsRow base 47 3 (.slice (some ⟨g, 0, none⟩) (n + 1) cap) (n + 1) cs → (W.cell? ⟨g, j, none⟩).isSome = true ∧ W.frozen? ⟨g, j, none⟩ = false := by
    intro j hj W cs h
    refine ⟨?_, h.frozenAt j⟩
    rw [h.cellAt j hj, List.getElem?_eq_getElem (by rw [h.1]; exact hj)]
    rfl
  have HONE := Lib.hid hone
  have hcc : ∀ W : World, W.ownsRow base 47 3 (.slice (some ⟨g, 0, none⟩) (n + 1) cap) (n + 1) (cellsR xs) → ∀ ad, tailP (some ⟨g, 0, none⟩) cap (k + 1) = some ad → ∀ j u, (cellsR (xs.drop (k + 1)))[j]? = some u → W.cell? (ad.add j) = some u := by
    intro W h ad he
    unfold tailP at he
    split at he
    · rename_i hcq
      rw [List.drop_eq_nil_of_le (by omega)]
      intro j u hj
      simp [cellsR] at hj
    · simp only [Option.map_some, Option.some.injEq] at he
      rw [← he, addE]
      have hq : ∀ i (hi : i < xs.length), W.cell? ⟨g, 0 + i * 3, none⟩ = some (.int .i64 xs[i].1) ∧ W.cell? ⟨g, 0 + i * 3 + 1, none⟩ = some (.int .i64 xs[i].2.1) ∧ W.cell? ⟨g, 0 + i * 3 + 2, none⟩ = some (.int .i64 xs[i].2.2) := by
        intro i hi
        simp only [Nat.zero_add]
        obtain ⟨c1, c2, c3, _⟩ := rick_row h hn i hi
        exact ⟨c1, c2, c3⟩
      exact (cells_part hq (k + 1) hk).2
  have HCC := Lib.hid hcc
  obtain ⟨ad, hty⟩ : ∃ ad, tailP (some ⟨g, 0, none⟩) cap (k + 1) = some ad := by
    cases h9 : tailP (some ⟨g, 0, none⟩) cap (k + 1) with
    | none => exact absurd h9 (tailP_some _ _ _)
    | some ad => exact ⟨ad, rfl⟩
  have hsl1 := Lib.hid (slice_head (some ⟨g, 0, none⟩) (n + 1) cap k (by omega))
  have hsl2 := slice_tail (some ⟨g, 0, none⟩) (n + 1) cap (k + 1) (by omega)
  rw [hty] at hsl2
  have HSL2 := Lib.hid hsl2
  have hsl3 := slice_lh g n cap n (n + 1) (by omega) hcap (by omega)
  rw [show n + 1 - n = 1 by omega] at hsl3
  have hsl4 := slice_lhm g (n + 1) cap k (k + 1) (n + 1) (by omega) (by omega) hcap
  obtain ⟨v0, hv0⟩ := hsl4 w
  have hq0 : (Instr.slice 22 (.slice (some ⟨g, 0, none⟩) (n + 1) cap) (some (.int .i64 (k : Int))) (some (.int .i64 ((k : Int) + 1))) (some (.int .i64 ((n : Int) + 1)))).run Tryd.prog w = .ok v0 w := by
    have := hv0
    simpa using this
  have HQ3 := Lib.hid hsl3
  rw [hn] at ho HO ⊢
  have hsum : k + (n - k) = n := by omega
  have g0 : ((k : Int) == (k : Int) + 1) = false := by simp; omega
  have HD := Lib.hid (And.intro hn (And.intro hk hl))
  have HC := Lib.hid (And.intro hcap hcm)
  have hwk : IntKind.i64.wrap ((n : Int) + 1) = (n : Int) + 1 := IntWalk.i64_in _ (by omega)
  clear hsl2 hsl3 hsl4 hv0 hone hcc hi0 hz0 hz1 hz2 ho hsub hn hl hcap hcm
  have hk2 := HD.out.1
  go_enter Tryd.func87, Tryd.ntmps87
  clear hk2
  go_wp2_with fail
  refine Free2.wp_free (R := BX g) (J := JD (fun W => W.ownsRow base 47 3 (.slice (some ⟨g, 0, none⟩) (n + 1) cap) (n + 1) (cellsR xs)) (fun W => W.ownsRow base 47 3 (.slice (some ⟨g, 0, none⟩) (n + 1) cap) (n + 1) (setL (cellsR xs) (k * 3) (cellsR (xs.drop (k + 1))))) 6) (by kernel_rfl) (by kernel_rfl) (BX.refl g) (fun _ _ _ => BX.trans) (JD.start HO.out) ?_
  refine Free2.Chain.ex ?_ 0 rfl [] [0] (by kernel_rfl) (by kernel_rfl) rfl (BX.refl g) (fun X W v h => JD.skip h 0 v (by simp)) ?_ ?_
  rotate_left
  · (intro ev W hb hR hO hD; obtain ⟨hb1, hb2, hb3⟩ := hb; simp only [Free.AllDeps, Free.AllOuts, Free.At, al1, al2, al3, al4, al5, and_true] at hO hD; go_simp; rfl)
  simp only [an1, an2]
  refine Free2.Chain.ex ?_ 1 rfl [] [1] (by kernel_rfl) (by kernel_rfl) rfl (BX.refl g) (fun X W v h => JD.skip h 1 v (by simp)) ?_ ?_
  rotate_left
  · (intro ev W hb hR hO hD; obtain ⟨hb1, hb2, hb3⟩ := hb; simp only [Free.AllDeps, Free.AllOuts, Free.At, al1, al2, al3, al4, al5, and_true] at hO hD; go_simp; rfl)
  simp only [an1, an2]
  refine Free2.Chain.pr (fun v _ => v = .slice (some ⟨g, 0, none⟩) k cap) 2 rfl [(0, 20), (1, 21)] [] (by kernel_rfl) (by kernel_rfl) rfl (fun _ _ _ _ h => h) ?_ ?_
  · (intro ev W X hb hR hO hD hj hx hax; obtain ⟨hb1, hb2, hb3⟩ := hb; simp only [Free.AllDeps, Free.AllOuts, Free.At, al1, al2, al3, al4, al5, and_true] at hO hD; simp only [Free2.AllX, and_true] at hax; have hq := hsl1.out W; go_simp; exact ⟨BX.refl _ _, rfl, JD.skip hj 2 _ (by simp)⟩)
  simp only [an1, an2]
  refine Free2.Chain.ex ?_ 3 rfl [] [0] (by kernel_rfl) (by kernel_rfl) rfl (BX.refl g) (fun X W v h => JD.skip h 3 v (by simp)) ?_ ?_
  rotate_left
  · (intro ev W hb hR hO hD; obtain ⟨hb1, hb2, hb3⟩ := hb; simp only [Free.AllDeps, Free.AllOuts, Free.At, al1, al2, al3, al4, al5, and_true] at hO hD; go_simp; rfl)
  simp only [an1, an2]
  refine Free2.Chain.ex ?_ 4 rfl [] [2] (by kernel_rfl) (by kernel_rfl) rfl (BX.refl g) (fun X W v h => JD.skip h 4 v (by simp)) ?_ ?_
  rotate_left
  · (intro ev W hb hR hO hD; obtain ⟨hb1, hb2, hb3⟩ := hb; simp only [Free.AllDeps, Free.AllOuts, Free.At, al1, al2, al3, al4, al5, and_true] at hO hD; go_simp; rfl)
  simp only [an1, an2]
  refine Free2.Chain.pr (fun v _ => v = .slice (some ad) (n + 1 - (k + 1)) (cap - (k + 1))) 5 rfl [(3, 23), (4, 24)] [] (by kernel_rfl) (by kernel_rfl) rfl (fun _ _ _ _ h => h) ?_ ?_
  · (intro ev W X hb hR hO hD hj hx hax; obtain ⟨hb1, hb2, hb3⟩ := hb; simp only [Free.AllDeps, Free.AllOuts, Free.At, al1, al2, al3, al4, al5, and_true] at hO hD; simp only [Free2.AllX, and_true] at hax; have hq : (Instr.slice 22 (.slice (some ⟨g, 0, none⟩) (n + 1) cap) (some (.int .i64 ((k : Int) + 1))) none none).run Tryd.prog W = _ := HSL2.out W; go_simp; exact ⟨BX.refl _ _, rfl, JD.skip hj 5 _ (by simp)⟩)
  simp only [an1, an2]
  refine Free2.Chain.pr (fun v _ => v = .slice (some ⟨g, 0, none⟩) n cap) 6 rfl [(2, 22), (5, 25)] [] (by kernel_rfl) (by kernel_rfl) rfl (fun _ _ _ _ h => h) ?_ ?_
  · (intro ev W X hb hR hO hD hj hx hax; obtain ⟨hb1, hb2, hb3⟩ := hb; simp only [Free.AllDeps, Free.AllOuts, Free.At, al1, al2, al3, al4, al5, and_true] at hO hD; simp only [Free2.AllX, and_true] at hax; have h0 := hj.a hx; have hlen : (cellsR (xs.drop (k + 1))).length = (n + 1 - (k + 1)) * 3 := (by rw [cellsR_length, List.length_drop, HD.out.1]); have hkn := HD.out.2.1; have hnn := HD.out.1; have hcc := HC.out; refine yields_append_room W _ (.tmp 22) (.tmp 25) 22 rfl 47 i0 3 Tryd.underlying22 HZ.out.1 HZ.out.2.2.1 g k cap hD.1 ad (n + 1 - (k + 1)) (cap - (k + 1)) (cellsR (xs.drop (k + 1))) hD.2 hlen (HCC.out W h0 ad hty) (cellsR_one _) (by omega) (fun j hj => (HONE.out (k * 3 + j) (by omega) W _ h0).1) (fun j hj => (HONE.out (k * 3 + j) (by omega) W _ h0).2) ?_; rw [show k + (n + 1 - (k + 1)) = n by omega]; exact ⟨BX.setCells g _ _ _, rfl, JD.put (row_setCells _ _ _ _ h0)⟩)
  simp only [an1, an2]
  refine Free2.Chain.ex ?_ 7 rfl [(6, 26), (6, 26), (0, 20), (1, 21), (2, 22), (3, 23), (4, 24), (5, 25), (6, 26)] [] (by kernel_rfl) (by kernel_rfl) rfl (BX.refl g) (fun X W v h => JD.skip h 7 v (by simp)) ?_ ?_
  rotate_left
  · (intro ev W hb hR hO hD; obtain ⟨hb1, hb2, hb3⟩ := hb; simp only [Free.AllDeps, Free.AllOuts, Free.At, al1, al2, al3, al4, al5, and_true] at hO hD; go_simp; rfl)
  simp only [an1, an2]
  intro ys w' hR hV hX
  obtain ⟨X, hj, hxx⟩ := hX
  simp only [Free.AllV, Free.At, List.length_cons, List.length_nil, Nat.reduceAdd, List.getElem?_cons_succ, List.getElem?_cons_zero, true_and, and_true] at hV
  simp only [Free.putsFrom, Act.put, Nat.zero_add, Nat.reduceAdd, hV, List.setIfInBounds_toArray, List.set_cons_succ, List.set_cons_zero]
  have hx6 : X 6 = some (ys 6) := hxx 6 (by decide)
  have hrow := hj.b (by rw [hx6]; simp)
  have hclr : ∀ ty, (Builtin.clear_ #[22] ty #[.slice (some ⟨g, n * 3, none⟩) 1 (cap - n)]).run Tryd.prog w' = .ok (.tuple #[]) (w'.setCells g (n * 3) [.int .i64 0, .int .i64 0, .int .i64 0]) := fun ty =>
    run_clear_rick w' ty g (n * 3) (cap - n) (fun j hj => (HONE.out (n * 3 + j) (by omega) w' _ hrow).1) (fun j hj => (HONE.out (n * 3 + j) (by omega) w' _ hrow).2)
  have hrow2 := row_shrink (row_setCells [.int .i64 0, .int .i64 0, .int .i64 0] _ (n * 3) w' hrow) (Nat.le_succ n)
  have hdel := del_cells xs k HD.out.2.1 [.int .i64 0, .int .i64 0, .int .i64 0] rfl
  rw [show xs.length - 1 = n by have := HD.out.1; omega] at hdel
  rw [hdel] at hrow2
  have HROW := Lib.hid hrow2
  have HBX := Lib.hid (BX.trans (BX.trans (BX.of_bel (rb := g) (Free.Bel.refl w).drew) hR) (BX.setCells g [.int .i64 0, .int .i64 0, .int .i64 0] (n * 3) w'))
  have hq3 : (Instr.slice 22 (.slice (some ⟨g, 0, none⟩) n cap) (some (.int .i64 (n : Int))) (some (.int .i64 ((n : Int) + 1))) none).run Tryd.prog w' = .ok (.slice (some ⟨g, n * 3, none⟩) 1 (cap - n)) w' := by
    have := HQ3.out w'
    simpa using this
  clear hR hV hj hxx hx6 hrow hrow2 hdel
  go_wp2_with fail
  go_ret
  exact ⟨rfl, HROW.out, HBX.out⟩
end Go.Proofs.YtknpglgpkkhhiaaDoor

