/- The longest days: the walk through the days. -/
import Derived.Test.YtknpglgpkkhhiaaDoorE5
import Derived.Lib.SliceRun
import Derived.BigQuiet
import Derived.Deep.QuietTactic
import Derived.WalkMore
import Derived.Laws.StructEq
import Derived.IntWalk
namespace Go.Proofs.YtknpglgpkkhhiaaDoor
set_option linter.unusedSimpArgs false
set_option linter.unusedVariables false
open Go.RowKit Go.Proofs.YtknpglgpkkhhiaaDoor.Free2 Go.Proofs.YtknpglgpkkhhiaaDoor.ML RR
attribute [local go_sem] Oper.semAt_some

set_option maxRecDepth 100000 in
set_option maxHeartbeats 32000000 in
theorem last_c (h : Int) (xs : List Rk) (u : Value) (w : World) (hT : TabR w) (hu : RL xs u w) (hw : watchB h xs = true) (he : everB h xs = false) :
    Calls Tryd.prog 47 #[.agg #[.int .i64 h, u]] w fun e w' => (∃ n v, n ≤ 1296 ∧ goodN h n xs = true ∧ goodN h (n + 1) xs = false ∧ e = .returned (.tuple #[v, .int .i64 0]) ∧ DO w.heap.size (lastL h n xs) v w') ∧ Below w.heap.size w w' := by
  have HU := Lib.hid hu
  obtain ⟨p, cp, rfl, _, _⟩ := hu
  have KB : Free.Bel w (w.alloc (.cells #[.int .i64 h, .slice p xs.length cp] 24)) := belAlloc _ _
  have m0 : (w.alloc (.cells #[.int .i64 h, .slice p xs.length cp] 24)).heap[w.heap.size]? = some (.cells #[.int .i64 h, .slice p xs.length cp] 24 (0, 0)) := World.alloc_heap_new w _
  have FA : ∀ W, Free.Bel (w.alloc (.cells #[.int .i64 h, .slice p xs.length cp] 24)) W → W.cell? ⟨w.heap.size, 0, none⟩ = some (.int .i64 h) ∧ W.cell? ⟨w.heap.size, 1, none⟩ = some (.slice p xs.length cp) := fun W hW => ⟨keepsB hW (cell_of_heap m0 rfl), keepsB hW (cell_of_heap m0 rfl)⟩
  have KE : Free.Bel (w.alloc (.cells #[.int .i64 h, .slice p xs.length cp] 24)) (w.alloc (.cells #[.int .i64 h, .slice p xs.length cp] 24)) := Free.Bel.refl _
  have HKB := Lib.hid KB
  have HCK := Lib.hid (checkP_v h xs _ (w.alloc (.cells #[.int .i64 h, .slice p xs.length cp] 24)) (hT.bel KB) (HU.out.keeps KB) 0 (by show _ = _; simp [hw]))
  have H4 := Lib.hid (watchB_iff.1 hw).2.1
  have HX := Lib.hid (watchB_ok hw)
  have HST := Lib.hid (st_self hw)
  have HWE := Lib.hid (And.intro hw he)
  clear hT hw he m0
  have hmx : Tryd.prog.follows .mixedOrders = true := by kernel_rfl
  refine (callsIn_wide (n := 5)).1 ?_
  refine callsIn_of_wp_marks Tryd.func47 rfl trivial ?_ rfl
  simp only [Tryd.ntmps47, List.size_toArray, List.length_cons, List.length_nil, Nat.reduceAdd, Nat.reduceSub, Array.replicate_succ, Array.replicate_zero, List.push_toArray, List.append_toArray, an1, an2]
  refine wpIn_wide.2 ?_
  go_wp2_with fail
  refine HCK.out.mono ?_
  rintro e w1 ⟨rfl, hB1⟩
  have HB1 := Lib.hid (bt HKB.out hB1)
  have K1 : Free.Bel (w.alloc (.cells #[.int .i64 h, .slice p xs.length cp] 24)) w1 := hB1
  clear hB1
  go_wp2_with fail
  refine (begun_any h xs _ w1 (HU.out.keeps (bt HKB.out K1)) HWE.out.1).mono ?_
  rintro e w2 ⟨yb, gb, dv, v, rfl, hyw, hm, hy1, hy2, hy3, hB2⟩
  have hB12 : Free.Bel w w2 := bt (bt HKB.out K1) hB2
  have hgl := hm.lt
  have hmo := (show MapIs quadV gb _ (w2.alloc (.cells #[.pointer (some ⟨yb, 0, none⟩)] 108)) from hm.bel (belAlloc _ _)).obj
  have hyl := lt_of_cell hyw.c1
  have hlb : ((w2.alloc (.cells #[.pointer (some ⟨yb, 0, none⟩)] 108)).alloc (.cells #[.slice none 0 0] 137)).heap[w2.heap.size + 1]? = some (.cells #[.slice none 0 0] 137 (0, 0)) := by
    have := World.alloc_heap_new (w2.alloc (.cells #[.pointer (some ⟨yb, 0, none⟩)] 108)) (.cells #[.slice none 0 0] 137)
    simpa using this
  have h5b : (w2.alloc (.cells #[.pointer (some ⟨yb, 0, none⟩)] 108)).heap[w2.heap.size]? = some (.cells #[.pointer (some ⟨yb, 0, none⟩)] 108 (0, 0)) := World.alloc_heap_new w2 _
  have HSET := Lib.hid (settle_told yb gb (w2.heap.size + 1) h xs v dv _ (w2.alloc (.cells #[.pointer (some ⟨yb, 0, none⟩)] 108)) ((w2.alloc (.cells #[.pointer (some ⟨yb, 0, none⟩)] 108)).alloc (.cells #[.slice none 0 0] 137)) (hyw.kc (.of_bel (belAlloc _ _))) (hm.bel (belAlloc _ _)) (belAlloc _ _) hlb (by simp) H4.out (fun x hx => (HX.out x hx).2.2.2.1) (keysY_good fun x hx => (HX.out x hx).2.2.1) (keys_small HWE.out.1))
  have HALL := Lib.hid (And.intro hB12 (And.intro h5b (And.intro hgl (And.intro hyw.c1 (And.intro hyw (And.intro hy2 (And.intro hmo hyl)))))))
  clear hyw hm hy1 hy2 hy3 hB2 hB12 hgl hyl hmo h5b hlb FA KE KB K1
  go_wp2_with fail
  refine HSET.out.mono ?_
  rintro e w5 ⟨⟨xv, rfl⟩, K, gs, tv, L, hK, hE, hM, hG, hTl, hstay⟩
  obtain ⟨hB12, h5b, hgl, hc1, hyw, hgy, hmo, hyl⟩ := HALL.out
  have hgw : w.heap.size ≤ gb := Nat.le_trans (by have := (show Free.Bel w w1 from HB1.out).size; exact this) hgy
  have h5 : w5.heap[w2.heap.size]? = some (.cells #[.pointer (some ⟨yb, 0, none⟩)] 108 (0, 0)) := heap_grown h5b hG (by simp; omega)
  have hyw5 : YW yb gb h xs v dv w5 := (hyw.kc (.of_bel (belAlloc _ _))).kc ((fun ⟨o, h1, h2⟩ => KC.of_grown hG h1 h2) hmo)
  have HYE := Lib.hid (show YE yb gb h xs v dv L w5 from ⟨hyw5, hM, hE⟩)
  have hB5 : Below w.heap.size w w5 := Below.trans (show Below w.heap.size w (w2.alloc (.cells #[.pointer (some ⟨yb, 0, none⟩)] 108)) from bt hB12 (belAlloc _ _)) (Below.of_grown hG (by have := hB12.size; simp; omega) (fun r e => by cases e; exact hgw))
  have hsz5 : w2.heap.size + 2 ≤ w5.heap.size := by have := lt_of_heap hTl.box; omega
  have HTL := Lib.hid (And.intro hTl (And.intro hK (And.intro hstay (And.intro hB5 (And.intro h5 (And.intro hsz5 (hB12.size)))))))
  have c5 := cell_of_heap (o := 0) h5 rfl
  clear hE hM hG hTl hstay hK hB5 h5 hsz5 hB12 h5b hgl hc1 hyw hgy hmo hyl hyw5 hgw
  go_wp2_with fail
  refine (now_any yb xs v w5 HYE.out.yw.c1 HYE.out.yw.rl H4.out).mono ?_
  rintro e w6 ⟨rfl, hB6⟩
  have hB6 : Free.Bel w5 w6 := hB6
  have HK6 := Lib.hid hB6
  clear c5 hB6
  go_wp2_with fail
  have KA : Free.Bel w6 (w6.alloc (.cells (arrV (waits xs)) 109)) := belAlloc _ _
  have hFB : ∀ W, Free.Bel (w6.alloc (.cells (arrV (waits xs)) 109)).drew W → Free.Bel w6 W := fun W hW => bt KA (bt (Bel.drewT (Free.Bel.refl _)) hW)
  have m7 : (w6.alloc (.cells (arrV (waits xs)) 109)).heap[w6.heap.size]? = some (.cells (arrV (waits xs)) 109 (0, 0)) := World.alloc_heap_new w6 _
  have HM7 := Lib.hid m7
  have hF : ∀ W, Free.Bel (w6.alloc (.cells (arrV (waits xs)) 109)).drew W → (W.cell? ⟨w2.heap.size, 0, none⟩ = some (.pointer (some ⟨yb, 0, none⟩)) ∧ W.cell? ⟨yb, 2, none⟩ = some (.map (some gb)) ∧ (Instr.lookup 139 (.map (some gb)) (.agg #[.int .i64 (waits xs 0), .int .i64 (waits xs 1), .int .i64 (waits xs 2), .int .i64 (waits xs 3)]) false).run Tryd.prog W = .ok (.bool false) W ∧ (W.cell? ⟨w6.heap.size, 0, none⟩ = some (.int .i64 (waits xs 0)) ∧ W.cell? ⟨w6.heap.size, 1, none⟩ = some (.int .i64 (waits xs 1)) ∧ W.cell? ⟨w6.heap.size, 2, none⟩ = some (.int .i64 (waits xs 2)) ∧ W.cell? ⟨w6.heap.size, 3, none⟩ = some (.int .i64 (waits xs 3)))) := fun W hW => by
    have h1 := HYE.out.bel (bt HK6.out (hFB W hW))
    have h2 := h1.has H4.out HST.out
    rw [HWE.out.2] at h2
    have hd : Free.Bel (w6.alloc (.cells (arrV (waits xs)) 109)) W := bt (Bel.drewT (Free.Bel.refl _)) hW
    obtain ⟨z0, z1, z2, z3, _⟩ := cells4 ((hd.block _ (lt_of_heap HM7.out)).trans HM7.out)
    exact ⟨keepsB (bt HK6.out (hFB W hW)) (cell_of_heap HTL.out.2.2.2.2.1 rfl), h1.yw.c2, h2, z0, z1, z2, z3⟩
  refine Free.wp_free (R := Free.Bel) (by kernel_rfl) (by kernel_rfl) Free.Bel.refl Free.Bel.trans ?_
  refine Free.Chain.ex ?_ [] [5] (by kernel_rfl) (by kernel_rfl) rfl Free.Bel.refl ?_ ?_
  rotate_left
  · (intro ev W hb hR hO hD; have hS := hF W hR; obtain ⟨hb1, hb2, hb3⟩ := hb; simp only [Free.AllDeps, Free.AllOuts, Free.At, al1, al2, al3, al4, al5, and_true] at hO hD; go_simp; rfl)
  simp only [an1, an2]
  refine Free.Chain.ex ?_ [(0, 27)] [] (by kernel_rfl) (by kernel_rfl) rfl Free.Bel.refl ?_ ?_
  rotate_left
  · (intro ev W hb hR hO hD; have hS := hF W hR; obtain ⟨hb1, hb2, hb3⟩ := hb; simp only [Free.AllDeps, Free.AllOuts, Free.At, al1, al2, al3, al4, al5, and_true] at hO hD; go_simp; rfl)
  simp only [an1, an2]
  refine Free.Chain.ex ?_ [(1, 28)] [] (by kernel_rfl) (by kernel_rfl) rfl Free.Bel.refl ?_ ?_
  rotate_left
  · (intro ev W hb hR hO hD; have hS := hF W hR; obtain ⟨hb1, hb2, hb3⟩ := hb; simp only [Free.AllDeps, Free.AllOuts, Free.At, al1, al2, al3, al4, al5, and_true] at hO hD; go_simp; rfl)
  simp only [an1, an2]
  refine Free.Chain.ex ?_ [(2, 29)] [] (by kernel_rfl) (by kernel_rfl) rfl Free.Bel.refl ?_ ?_
  rotate_left
  · (intro ev W hb hR hO hD; have hS := hF W hR; obtain ⟨hb1, hb2, hb3⟩ := hb; simp only [Free.AllDeps, Free.AllOuts, Free.At, al1, al2, al3, al4, al5, and_true] at hO hD; go_simp; rfl)
  simp only [an1, an2]
  refine Free.Chain.ex ?_ [] [7] (by kernel_rfl) (by kernel_rfl) rfl Free.Bel.refl ?_ ?_
  rotate_left
  · (intro ev W hb hR hO hD; have hS := hF W hR; obtain ⟨hb1, hb2, hb3⟩ := hb; simp only [Free.AllDeps, Free.AllOuts, Free.At, al1, al2, al3, al4, al5, and_true] at hO hD; go_simp; rfl)
  simp only [an1, an2]
  refine Free.Chain.ex ?_ [(3, 30), (4, 31)] [] (by kernel_rfl) (by kernel_rfl) rfl Free.Bel.refl ?_ ?_
  rotate_left
  · (intro ev W hb hR hO hD; have hS := hF W hR; obtain ⟨hb1, hb2, hb3⟩ := hb; simp only [Free.AllDeps, Free.AllOuts, Free.At, al1, al2, al3, al4, al5, and_true] at hO hD; go_simp; rfl)
  simp only [an1, an2]
  intro ys w8 hR hV
  simp only [Free.AllV, Free.At, List.length_cons, List.length_nil, Nat.reduceAdd, List.getElem?_cons_succ, List.getElem?_cons_zero, true_and, and_true] at hV
  simp only [Free.putsFrom, Act.put, Nat.zero_add, Nat.reduceAdd, hV, List.setIfInBounds_toArray, List.set_cons_succ, List.set_cons_zero]
  have HB8 := Lib.hid (show Free.Bel (w6.alloc (.cells (arrV (waits xs)) 109)) w8 from bt (Bel.drewT (Free.Bel.refl _)) hR)
  clear hR hV hF hFB KA m7
  have hE0 : goodN h K xs = false := by
    rw [good_ever HTL.out.2.2.1 xs HST.out]
    exact HWE.out.2
  have HE0 := Lib.hid hE0
  obtain ⟨NN, hNN⟩ : ∃ y, y = K + 1 := ⟨_, rfl⟩
  have HNN := Lib.hid hNN
  have HT8 := Lib.hid (HTL.out.1.bel (bt HK6.out (bt (belAlloc _ _) HB8.out)))
  obtain ⟨g, cap, cur, rfl, hgB, hgO, hgc1, hgc2, hgc3, hgcs⟩ := HTL.out.1.row.2.resolve_left (fun h9 => by have := h9.2; omega)
  rw [← hNN] at HT8
  have HGW := Lib.hid (And.intro (lt_of_heap hgO) hgc1)
  clear hE0 hNN hgB hgO hgc1 hgc2 hgc3 hgcs
  have HB5 := Lib.hid (And.intro HTL.out.2.2.2.1 (And.intro HTL.out.2.2.2.2.1 (And.intro HTL.out.2.2.2.2.2.1 HTL.out.2.2.2.2.2.2)))
  have HKK := Lib.hid (And.intro HTL.out.2.1 HTL.out.2.2.1)
  rw [← HNN.out] at HTL
  go_wp2_with fail
  go_loopw [8] (fun i wr => ∃ m : Nat, m < K ∧ i = .int .i64 m ∧ goodN h m xs = true ∧ Free.Bel w8 wr) (fun i _ => K - (intOf i).toNat)
  case atStart => exact ⟨0, by
    rcases Nat.eq_zero_or_pos K with h0 | h0
    · have h1 := HE0.out
      rw [h0] at h1
      cases h1
    · exact h0, rfl, rfl, Free.Bel.refl _⟩
  case round =>
    obtain ⟨m, hmK, rfl, hgm, hBr⟩ := hrel
    have HT9 := Lib.hid (HT8.out.bel hBr)
    have H7r := Lib.hid ((bt HB8.out hBr).block _ (lt_of_heap HM7.out) |>.trans HM7.out)
    have hlen : gs.length = NN := HT9.out.len
    obtain ⟨hbm, L9, hL9, hM9⟩ := HT9.out.maps (m + 1) (by have := HNN.out; omega)
    obtain ⟨gm, hgm9⟩ : ∃ y, gs[m + 1]'(by have := HNN.out; omega) = y := ⟨_, rfl⟩
    rw [hgm9] at hM9 hbm
    have hcm : wr.cell? ⟨g, m + 1, none⟩ = some (.map (some gm)) := by
      have h1 := HT9.out.row.cells (g := g) rfl (m + 1) (mapV gm) (by rw [List.getElem?_map, List.getElem?_eq_getElem (by have := HNN.out; omega), hgm9]; rfl)
      rw [addE] at h1
      simpa using h1
    obtain ⟨r, hr⟩ : ∃ r, goodN h (m + 1) xs = r := ⟨_, rfl⟩
    have hF : ∀ W, Free.Bel wr.drew W → (W.cell? ⟨w2.heap.size + 1, 0, none⟩ = some (.slice (some ⟨g, 0, none⟩) NN cap) ∧ W.cell? ⟨g, m + 1, none⟩ = some (.map (some gm)) ∧ (Instr.lookup 139 (.map (some gm)) (.agg #[.int .i64 (waits xs 0), .int .i64 (waits xs 1), .int .i64 (waits xs 2), .int .i64 (waits xs 3)]) false).run Tryd.prog W = .ok (.bool r) W ∧ (W.cell? ⟨w6.heap.size, 0, none⟩ = some (.int .i64 (waits xs 0)) ∧ W.cell? ⟨w6.heap.size, 1, none⟩ = some (.int .i64 (waits xs 1)) ∧ W.cell? ⟨w6.heap.size, 2, none⟩ = some (.int .i64 (waits xs 2)) ∧ W.cell? ⟨w6.heap.size, 3, none⟩ = some (.int .i64 (waits xs 3)))) := fun W hW => by
      have hd : Free.Bel wr W := bt (Bel.drewT (Free.Bel.refl _)) hW
      have h2 := good_lookup (hM9.bel hd) (waits xs)
      rw [hL9.has H4.out HST.out, hr] at h2
      obtain ⟨z0, z1, z2, z3, _⟩ := cells4 ((hd.block _ (lt_of_heap H7r.out)).trans H7r.out)
      exact ⟨keepsB hd (cell_of_heap HT9.out.box rfl), keepsB hd hcm, h2, z0, z1, z2, z3⟩
    have hmn : m + 1 < NN := by have := HNN.out; omega
    have hmw : IntKind.i64.wrap ((m : Int) + 1) = (m : Int) + 1 := IntWalk.i64_in _ (by have := HKK.out.1; omega)
    have hd1 : decide ((m : Int) + 1 < (NN : Int)) = true := decide_eq_true (by omega)
    have hd2 : (0 : Int) ≤ (m : Int) + 1 := by omega
    have hd3 : (m : Int) + 1 < (NN : Int) := by omega
    have hd4 : ((m : Int) + 1).toNat = m + 1 := by omega
    have HMM := Lib.hid (And.intro hmK (And.intro hgm (And.intro hBr hr)))
    clear hbm hL9 hM9 hgm9 hcm hmK hgm hBr hr hlen
    go_wp2_with fail
    refine Free.wp_free (R := Free.Bel) (by kernel_rfl) (by kernel_rfl) Free.Bel.refl Free.Bel.trans ?_
    refine Free.Chain.ex ?_ [] [8] (by kernel_rfl) (by kernel_rfl) rfl Free.Bel.refl ?_ ?_
    rotate_left
    · (intro ev W hb hR hO hD; have hS := hF W hR; obtain ⟨hb1, hb2, hb3⟩ := hb; simp only [Free.AllDeps, Free.AllOuts, Free.At, al1, al2, al3, al4, al5, and_true] at hO hD; go_simp; rfl)
    simp only [an1, an2]
    refine Free.Chain.ex ?_ [(0, 33)] [] (by kernel_rfl) (by kernel_rfl) rfl Free.Bel.refl ?_ ?_
    rotate_left
    · (intro ev W hb hR hO hD; have hS := hF W hR; obtain ⟨hb1, hb2, hb3⟩ := hb; simp only [Free.AllDeps, Free.AllOuts, Free.At, al1, al2, al3, al4, al5, and_true] at hO hD; go_simp; rfl)
    simp only [an1, an2]
    refine Free.Chain.ex ?_ [] [6] (by kernel_rfl) (by kernel_rfl) rfl Free.Bel.refl ?_ ?_
    rotate_left
    · (intro ev W hb hR hO hD; have hS := hF W hR; obtain ⟨hb1, hb2, hb3⟩ := hb; simp only [Free.AllDeps, Free.AllOuts, Free.At, al1, al2, al3, al4, al5, and_true] at hO hD; go_simp; rfl)
    simp only [an1, an2]
    refine Free.Chain.ex ?_ [(2, 35)] [] (by kernel_rfl) (by kernel_rfl) rfl Free.Bel.refl ?_ ?_
    rotate_left
    · (intro ev W hb hR hO hD; have hS := hF W hR; obtain ⟨hb1, hb2, hb3⟩ := hb; simp only [Free.AllDeps, Free.AllOuts, Free.At, al1, al2, al3, al4, al5, and_true] at hO hD; go_simp; rfl)
    simp only [an1, an2]
    refine Free.Chain.ex ?_ [(1, 34), (3, 36)] [] (by kernel_rfl) (by kernel_rfl) rfl Free.Bel.refl ?_ ?_
    rotate_left
    · (intro ev W hb hR hO hD; have hS := hF W hR; obtain ⟨hb1, hb2, hb3⟩ := hb; simp only [Free.AllDeps, Free.AllOuts, Free.At, al1, al2, al3, al4, al5, and_true] at hO hD; go_simp; rfl)
    simp only [an1, an2]
    refine Free.Chain.ex ?_ [(4, 37)] [] (by kernel_rfl) (by kernel_rfl) rfl Free.Bel.refl ?_ ?_
    rotate_left
    · (intro ev W hb hR hO hD; have hS := hF W hR; obtain ⟨hb1, hb2, hb3⟩ := hb; simp only [Free.AllDeps, Free.AllOuts, Free.At, al1, al2, al3, al4, al5, and_true] at hO hD; go_simp; rfl)
    simp only [an1, an2]
    refine Free.Chain.exG ?_ [(5, 38)] [6] 5 true 38 (by kernel_rfl) (by kernel_rfl) rfl (by kernel_rfl) Free.Bel.refl ?_ ?_
    rotate_left
    · (intro ev W hb hR hO hD; have hS := hF W hR; obtain ⟨hb1, hb2, hb3⟩ := hb; simp only [Free.AllDeps, Free.AllOuts, Free.At, al1, al2, al3, al4, al5, and_true] at hO hD; refine ⟨by simp [hD], ?_⟩; go_simp; rfl)
    simp only [an1, an2]
    refine Free.Chain.exG ?_ [(5, 38)] [8] 5 true 38 (by kernel_rfl) (by kernel_rfl) rfl (by kernel_rfl) Free.Bel.refl ?_ ?_
    rotate_left
    · (intro ev W hb hR hO hD; have hS := hF W hR; obtain ⟨hb1, hb2, hb3⟩ := hb; simp only [Free.AllDeps, Free.AllOuts, Free.At, al1, al2, al3, al4, al5, and_true] at hO hD; refine ⟨by simp [hD], ?_⟩; go_simp; rfl)
    simp only [an1, an2]
    refine Free.Chain.exG ?_ [(7, 40), (5, 38)] [] 5 true 38 (by kernel_rfl) (by kernel_rfl) rfl (by kernel_rfl) Free.Bel.refl ?_ ?_
    rotate_left
    · (intro ev W hb hR hO hD; have hS := hF W hR; obtain ⟨hb1, hb2, hb3⟩ := hb; simp only [Free.AllDeps, Free.AllOuts, Free.At, al1, al2, al3, al4, al5, and_true] at hO hD; refine ⟨by simp [hD], ?_⟩; go_simp; rfl)
    simp only [an1, an2]
    refine Free.Chain.exG ?_ [(6, 39), (8, 41), (5, 38)] [] 5 true 38 (by kernel_rfl) (by kernel_rfl) rfl (by kernel_rfl) Free.Bel.refl ?_ ?_
    rotate_left
    · (intro ev W hb hR hO hD; have hS := hF W hR; obtain ⟨hb1, hb2, hb3⟩ := hb; simp only [Free.AllDeps, Free.AllOuts, Free.At, al1, al2, al3, al4, al5, and_true] at hO hD; refine ⟨by simp [hD], ?_⟩; go_simp; rfl)
    simp only [an1, an2]
    refine Free.Chain.exG ?_ [(9, 42), (5, 38)] [] 5 true 38 (by kernel_rfl) (by kernel_rfl) rfl (by kernel_rfl) Free.Bel.refl ?_ ?_
    rotate_left
    · (intro ev W hb hR hO hD; have hS := hF W hR; obtain ⟨hb1, hb2, hb3⟩ := hb; simp only [Free.AllDeps, Free.AllOuts, Free.At, al1, al2, al3, al4, al5, and_true] at hO hD; refine ⟨by simp [hD], ?_⟩; go_simp; rfl)
    simp only [an1, an2]
    refine Free.Chain.exG ?_ [(5, 38)] [7] 5 true 38 (by kernel_rfl) (by kernel_rfl) rfl (by kernel_rfl) Free.Bel.refl ?_ ?_
    rotate_left
    · (intro ev W hb hR hO hD; have hS := hF W hR; obtain ⟨hb1, hb2, hb3⟩ := hb; simp only [Free.AllDeps, Free.AllOuts, Free.At, al1, al2, al3, al4, al5, and_true] at hO hD; refine ⟨by simp [hD], ?_⟩; go_simp; rfl)
    simp only [an1, an2]
    refine Free.Chain.exG ?_ [(10, 43), (11, 44), (5, 38)] [] 5 true 38 (by kernel_rfl) (by kernel_rfl) rfl (by kernel_rfl) Free.Bel.refl ?_ ?_
    rotate_left
    · (intro ev W hb hR hO hD; have hS := hF W hR; obtain ⟨hb1, hb2, hb3⟩ := hb; simp only [Free.AllDeps, Free.AllOuts, Free.At, al1, al2, al3, al4, al5, and_true] at hO hD; refine ⟨by simp [hD], ?_⟩; go_simp; rfl)
    simp only [an1, an2]
    refine Free.Chain.ex ?_ [(5, 38), (12, 45)] [] (by kernel_rfl) (by kernel_rfl) rfl Free.Bel.refl ?_ ?_
    rotate_left
    · (intro ev W hb hR hO hD; have hS := hF W hR; obtain ⟨hb1, hb2, hb3⟩ := hb; simp only [Free.AllDeps, Free.AllOuts, Free.At, al1, al2, al3, al4, al5, and_true] at hO hD; go_simp; rfl)
    simp only [an1, an2]
    intro ys w9 hR hV
    simp only [Free.AllV, Free.At, List.length_cons, List.length_nil, Nat.reduceAdd, List.getElem?_cons_succ, List.getElem?_cons_zero, true_and, and_true] at hV
    simp only [Free.putsFrom, Act.put, Nat.zero_add, Nat.reduceAdd, hV, List.setIfInBounds_toArray, List.set_cons_succ, List.set_cons_zero]
    have HB9 := Lib.hid (show Free.Bel w8 w9 from bt HMM.out.2.2.1 (bt (Bel.drewT (Free.Bel.refl _)) hR))
    clear hR hV hF
    cases r with
    | true =>
      have hmK1 : m + 1 < K := by
        have h1 := HMM.out.2.2.2
        have h2 := HE0.out
        have h3 := HMM.out.1
        rcases Nat.lt_or_ge (m + 1) K with h9 | h9
        · exact h9
        · obtain rfl : K = m + 1 := by omega
          rw [h1] at h2
          cases h2
      have HMK1 := Lib.hid hmK1
      clear hmK1
      go_wp2_with fail
      go_roundw
      case rel => exact ⟨m + 1, HMK1.out, by go_num, HMM.out.2.2.2, HB9.out⟩
      case measure => have := HMM.out.1; simp [intOf]; omega
    | false =>
      have hsl : ∀ W, (Instr.slice 137 (.slice (some ⟨g, 0, none⟩) NN cap) none (some (.int .i64 m)) none).run Tryd.prog W = .ok (.slice (some ⟨g, 0, none⟩) m cap) W := fun W => slice_low g NN cap m (by
        have h1 := HT9.out.row
        have h2 := HGW.out.2
        have h3 := HMM.out.1
        omega) W
      have KL : Free.Bel w9 (w9.alloc (.cells #[.slice none 0 0] 25)) := belAlloc _ _
      have c6 : (w9.alloc (.cells #[.slice none 0 0] 25)).cell? ⟨w2.heap.size + 1, 0, none⟩ = some (.slice (some ⟨g, 0, none⟩) NN cap) := keepsB (bt HB9.out KL) (cell_of_heap HT8.out.box rfl)
      have mL : (w9.alloc (.cells #[.slice none 0 0] 25)).heap[w9.heap.size]? = some (.cells #[.slice none 0 0] 25 (0, 0)) := World.alloc_heap_new w9 _
      have HML := Lib.hid mL
      clear mL
      go_wp2_with fail
      clear c6 hsl
      refine (backM_any _ _ _ _).mono ?_
      rintro e wb ⟨rfl, hwb⟩
      go_wp2_with fail
      have HWB := Lib.hid hwb
      have hml : (gs.take m).length = m := by rw [List.length_take, HT8.out.len]; have := HNN.out; have := HMM.out.1; omega
      have hBI : BackI (w9.heap.size + 1) g cap (gs.take m) wb := by
        refine ⟨?_, fun j hj => ?_⟩
        · rw [hml, ← hwb]
          have := World.alloc_heap_new (w9.alloc (.cells #[.slice none 0 0] 25)) (.cells #[.slice (some ⟨g, 0, none⟩) m cap] 137)
          simpa using this
        · rw [hml] at hj
          have h0 : j < gs.length := by rw [HT8.out.len]; have := HNN.out; have := HMM.out.1; omega
          have h1 := HT8.out.row.cells (g := g) rfl j (mapV gs[j]) (by rw [List.getElem?_map, List.getElem?_eq_getElem h0]; rfl)
          rw [addE] at h1
          have h2 : (gs.take m).getD j 0 = gs[j] := by rw [List.getD_eq_getElem?_getD, List.getElem?_take_of_lt hj, List.getElem?_eq_getElem h0]; rfl
          rw [h2, ← hwb]
          exact keepsB (bt HB9.out (bt (belAlloc _ _) (belAlloc _ _))) (by simpa using h1)
      have hszb : wb.heap.size = w9.heap.size + 2 := by rw [← hwb]; simp
      have hK69 : Free.Bel w6 w9 := bt (belAlloc _ _) (bt HB8.out HB9.out)
      have h69 : w6.heap.size < w9.heap.size := by have := (bt HB8.out HB9.out).size; simp at this; omega
      have hgw6 : g < w6.heap.size := by have := HGW.out.1; have := HK6.out.size; omega
      have HS := Lib.hid (And.intro hszb (And.intro h69 hgw6))
      have hseq : SeqL Fence.wide (5 - 1) Tryd.prog 109 #[.pointer (some ⟨w9.heap.size + 1, 0, none⟩)] encM Free.Bel (KP w6.heap.size [w6.heap.size, w9.heap.size]) (revM (gs.take m) (gs.take m).length) wb := fun l J Jx W hW hJ hJx hY h0 =>
        backM1_in (5 - 1) l (w9.heap.size + 1) g cap (gs.take m) (by omega) W (by rw [hml]; have := HMM.out.1; have := HKK.out.1; omega) ⟨(hW.block _ (lt_of_heap hBI.1)).trans hBI.1, fun j hj => keepsB hW (hBI.2 j hj)⟩ J Jx (KP w6.heap.size [w6.heap.size, w9.heap.size]) (fun A B hA hk => ⟨hk.keep _ _ hA.1 (.inr ⟨rfl, by simp; omega, fun c f e => by cases e⟩), fun j hj => by
          have h1 := hA.2 j hj
          have h2 := lt_of_cell h1
          have h3 : A.heap[g]? = some A.heap[g] := Array.getElem?_eq_getElem h2
          exact (World.cell?_of_block (w := A) (w' := B) (a := ⟨g, j, none⟩) ((hk.keep g _ h3 (.inl hgw6)).trans h3.symm)).trans h1⟩) hY h0
      have HSEQ := Lib.hid hseq
      have HI := Lib.hid (show LastI w6 w6.heap.size w9.heap.size wb.heap.size h xs m 0 wb from ⟨bt hK69 (by rw [← hwb]; exact bt (belAlloc _ _) (belAlloc _ _)), Nat.le_refl _, Nat.zero_le _, xs, [], .slice none 0 0, HST.out, HMM.out.2.1, rfl, rfl, by
          have h1 := ((bt HB8.out HB9.out).block _ (lt_of_heap HM7.out)).trans HM7.out
          rw [← hwb]
          exact heap_old (heap_old h1), by rw [← hwb]; exact heap_old HML.out, DO.nil _ _⟩)
      have HML2 := Lib.hid hml
      clear hwb hBI hszb hK69 h69 hgw6 hseq hml
      refine (wpIn_wide (n := 5)).1 ?_
      refine wpIn_rangeFunc_R (F := Fence.wide) (n := 5) rfl (by omega) (gf := 109) (lb := #[.pointer (some ⟨w9.heap.size + 1, 0, none⟩)]) rfl trivial (enters_of Tryd.func109 (by kernel_rfl) rfl)
        HSEQ.out (fun A o _ h => bt h (belAlloc A o)) (Free.Bel.refl _) (fun A B k o h _ hA => (h.block k (lt_of_heap hA)).trans hA) KP.trans (fun W l o o' hl h hc _ => KP.put h hc (by have := HS.out; omega)) (fun x => rfl)
        (fun pre W => LastI w6 w6.heap.size w9.heap.size wb.heap.size h xs m pre.length W) (fun _ _ _ => False) ?own ?ownx ?abide ?abidex HI.out
        (fun x => { tmps := #[.agg #[.int .i64 h, .slice p xs.length cp], .pointer (some ⟨w.heap.size, 0, none⟩), .slice none 0 0, .int .i64 0, .int .i64 0, .pointer (some ⟨w2.heap.size, 0, none⟩), .pointer (some ⟨w2.heap.size + 1, 0, none⟩), .pointer (some ⟨w6.heap.size, 0, none⟩), .int .i64 m, .pointer (some ⟨w9.heap.size, 0, none⟩), undef, .map (some x.2), undef, undef, undef, .agg #[.int .i64 h, .slice p xs.length cp], .int .i64 0, .int .i64 0, .bool false, undef, .agg #[.int .i64 h, .slice p xs.length cp], .pointer (some ⟨yb, 0, none⟩), .pointer (some ⟨yb, 0, none⟩), .func (.func 91) #[] #[.pointer (some ⟨w2.heap.size + 1, 0, none⟩)], xv, .pointer (some ⟨yb, 0, none⟩), stV (waits xs), .pointer (some ⟨yb, 0, none⟩), .pointer (some ⟨yb, 0, none⟩), .pointer (some ⟨yb, 2, none⟩), .map (some gb), .agg #[.int .i64 (waits xs 0), .int .i64 (waits xs 1), .int .i64 (waits xs 2), .int .i64 (waits xs 3)], .bool false, .int .i64 m, .int .i64 (m + 1), .slice (some ⟨g, 0, none⟩) NN cap, .int .i64 NN, .bool true, .bool true, .slice (some ⟨g, 0, none⟩) NN cap, .int .i64 m, .int .i64 (m + 1), .pointer (some ⟨g, m + 1, none⟩), .map (some gm), .agg #[.int .i64 (waits xs 0), .int .i64 (waits xs 1), .int .i64 (waits xs 2), .int .i64 (waits xs 3)], .bool false, .bool false, u47, u48, .slice (some ⟨g, 0, none⟩) NN cap, .int .i64 m, .slice (some ⟨g, 0, none⟩) m cap, .func (.func 109) #[] #[.pointer (some ⟨w9.heap.size + 1, 0, none⟩)], .int .i64 x.1, .map (some x.2), undef, undef, undef, undef, undef, undef, undef, undef, undef, undef, undef, undef, undef, undef, undef, undef], defers := [] })
        ?assign ?body ?done ?stop
      case own =>
        rintro pre A B row h1 hgr hrow
        have hs := HS.out
        exact h1.own hgr hrow (by omega) (by omega) (by omega)
      case ownx => rintro c pre A B row h1 _ _; exact h1
      case abide => rintro pre A B h1 hR; exact h1.keep hR
      case abidex => rintro c pre A B h1 _; exact h1
      case assign =>
        rintro l x W K hK
        gi_wp2
        exact hK
      case body =>
        rintro l pre x W hI hpre
        obtain ⟨hpl, hx⟩ := revM_at hpre
        obtain ⟨x1, x2⟩ := x
        obtain ⟨pm, hpm⟩ : ∃ y, pre.length = y := ⟨_, rfl⟩
        rw [HML2.out] at hpl hx
        have hlp : (pre ++ [(x1, x2)]).length = pm + 1 := by simp [hpm]
        rw [hpm] at hI hpl hx
        obtain ⟨j, hj⟩ : ∃ j, m - pm = j + 1 := ⟨m - pm - 1, by omega⟩
        have hj1 : m - (pm + 1) = j := by omega
        have hj2 : j < gs.length := by rw [HT8.out.len]; have := HNN.out; have := HMM.out.1; omega
        rw [hj1] at hx
        have hx2 : x2 = gs[j] := by
          have h1 := (Prod.mk.inj hx).2
          rw [h1, List.getD_eq_getElem?_getD, List.getElem?_take_of_lt (by omega), List.getElem?_eq_getElem hj2]
          rfl
        obtain ⟨hb9, Lj, hLj, hMj⟩ := (HTL.out.1.bel (bt HK6.out hI.bel)).maps j (by exact hj2)
        obtain ⟨zs, ds, vl, hz, hg9, hl9, hdl, hB7, hB9, hdo⟩ := hI.st
        rw [hj] at hg9 hl9
        obtain ⟨d, hst, htn, hzd, hgd, hld⟩ := last_step HWE.out.1 hLj hz hg9
        rw [← hx2] at hMj
        have hye := HYE.out.bel (bt HK6.out hI.bel)
        have HSC := Lib.hid (step_any yb x2 xs (waits zs) (D7 h xs) Lj v dv W hye.yw.c1 hye.yw.c3 hye.yw.rl hye.yw.tl hMj H4.out (waits_st hz fun x hx => (HX.out x hx).2.2.2.1) (tset xs d) (waits (dayR d zs)) true (Lib.hid hst))
        have c5 : W.cell? ⟨w2.heap.size, 0, none⟩ = some (.pointer (some ⟨yb, 0, none⟩)) := keepsB (bt HK6.out hI.bel) (cell_of_heap HB5.out.2.1 rfl)
        have HID := Lib.hid (fun W' (hW : Free.Bel w6 W') => ids_any yb xs (tset xs d) v W' (HYE.out.bel (bt HK6.out hW)).yw.c1 (HYE.out.bel (bt HK6.out hW)).yw.rl H4.out)
        obtain ⟨S, hS⟩ : ∃ y, waits zs = y := ⟨_, rfl⟩
        obtain ⟨RS, hRS⟩ : ∃ y, waits (dayR d zs) = y := ⟨_, rfl⟩
        have HIDS := Lib.hid (ids_tset HWE.out.1 htn)
        obtain ⟨RTn, hRT⟩ : ∃ y, tset xs d = y := ⟨_, rfl⟩
        rw [hS, hRS, hRT] at HSC
        rw [hRT] at HID HIDS
        rw [hS] at hB7
        have HF := Lib.hid (And.intro hI (And.intro hz (And.intro hl9 (And.intro hdl (And.intro hB7 (And.intro hB9 (And.intro hdo (And.intro hzd (And.intro hgd (And.intro hld (And.intro hRS hlp)))))))))))
        obtain ⟨S0, S1, S2, S3, _⟩ := cells4 hB7
        dsimp only
        clear hpl hx hpre hpm hI hj2 hx2 hb9 hLj hMj hz hg9 hl9 hdl hB7 hB9 hdo hst htn hzd hgd hld hye hS hRS hRT hlp
        gi_wp2
        refine ⟨trivial, ?_⟩
        refine (CallsIn.inRound l (callsIn_wide.2 HSC.out)).mono ?_
        rintro e W1 ⟨rfl, hB1⟩
        have hB1 : Free.Bel W W1 := hB1
        clear c5 S0 S1 S2 S3
        obtain ⟨hI, hz, hl9, hdl, hB7, hB9, hdo, hzd, hgd, hld, hRS, hlp⟩ := HF.out
        obtain ⟨vs, hvl, how, hdr⟩ := hdo
        obtain ⟨pl, cl, rfl⟩ := row_slice how
        have hs := HS.out
        have hdl' : ds.length ≤ 1296 := by rw [hdl]; have := hI.le; have := HMM.out.1; have := HKK.out.1; omega
        have HDL := Lib.hid hdl'
        have K1 : Free.Bel W1 ((W1.alloc (.cells (arrB RTn) 149)).alloc (.cells (arrV RS) 109)) := bt (belAlloc _ _) (belAlloc _ _)
        have KW : Free.Bel W ((W1.alloc (.cells (arrB RTn) 149)).alloc (.cells (arrV RS) 109)) := bt hB1 K1
        have m12 : ((W1.alloc (.cells (arrB RTn) 149)).alloc (.cells (arrV RS) 109)).heap[W1.heap.size]? = some (.cells (arrB RTn) 149 (0, 0)) := heap_old (World.alloc_heap_new W1 _)
        have m13 : ((W1.alloc (.cells (arrB RTn) 149)).alloc (.cells (arrV RS) 109)).heap[W1.heap.size + 1]? = some (.cells (arrV RS) 109 (0, 0)) := by
          have := World.alloc_heap_new (W1.alloc (.cells (arrB RTn) 149)) (.cells (arrV RS) 109)
          simpa using this
        have hbs : ∀ k ∈ w9.heap.size :: w6.heap.size :: (Value.slice pl ds.length cl).ownBlock.toList, w6.heap.size ≤ k ∧ k < W.heap.size := by
          intro k hk
          have h1 := lt_of_heap hB7
          have h2 := lt_of_heap hB9
          simp only [List.mem_cons] at hk
          rcases hk with rfl | rfl | hk
          · omega
          · omega
          · rcases how.2 with ⟨h9, _⟩ | ⟨g9, cap9, cur9, h9, hb9, hg9, _⟩
            · rw [h9] at hk; simp [Value.ownBlock] at hk
            · rw [h9] at hk
              simp [Value.ownBlock] at hk
              subst hk
              have := lt_of_heap hg9
              omega
        have hsW : W.heap.size ≤ W1.heap.size := hB1.size
        have HJ0 := Lib.hid (show JL w6.heap.size w9.heap.size S RS (.slice pl ds.length cl) vs ds d (fun _ => none) ((W1.alloc (.cells (arrB RTn) 149)).alloc (.cells (arrV RS) 109)).drew from JL.start ((KW.block _ (lt_of_heap hB9)).trans hB9) ((KW.block _ (lt_of_heap hB7)).trans hB7) ⟨hvl, bel_row how (bt KW (Bel.drewT (Free.Bel.refl _))), fun i hi u hu => (hdr i hi u hu).stay fun k c f hk => (KW.block _ (lt_of_heap hk)).trans hk⟩)
        have HKP := Lib.hid (fun (W' : World) (hR : RX W.heap.size (w9.heap.size :: w6.heap.size :: (Value.slice pl ds.length cl).ownBlock.toList) W W') => rx_kp (n0 := wb.heap.size) how hB7 hB9 hs.2.1 hR)
        have HWD : Hid (∀ W', RX (W1.heap.size + 2) (w9.heap.size :: w6.heap.size :: (Value.slice pl ds.length cl).ownBlock.toList) ((W1.alloc (.cells (arrB RTn) 149)).alloc (.cells (arrV RS) 109)).drew W' → RX W.heap.size (w9.heap.size :: w6.heap.size :: (Value.slice pl ds.length cl).ownBlock.toList) W W') := fun W' hR => RX.trans _ _ _ (RX.of_bel (bt KW (Bel.drewT (Free.Bel.refl _))) (Nat.le_refl _)) (hR.less (by omega))
        have HFF : Hid (∀ W', RX (W1.heap.size + 2) (w9.heap.size :: w6.heap.size :: (Value.slice pl ds.length cl).ownBlock.toList) ((W1.alloc (.cells (arrB RTn) 149)).alloc (.cells (arrV RS) 109)).drew W' → Free.Bel w6 W' ∧ W'.heap[W1.heap.size]? = some (.cells (arrB RTn) 149 (0, 0)) ∧ W'.heap[W1.heap.size + 1]? = some (.cells (arrV RS) 109 (0, 0))) := fun W' hR => by
          have h1 := HWD.out W' hR
          have h2 := hI.bel
          refine ⟨⟨h1.os.trans h2.os, h1.tape.trans h2.tape, h1.output.trans h2.output, Nat.le_trans h2.size h1.size, fun k hk => (h1.block k (Nat.lt_of_lt_of_le hk h2.size) (fun hm => by have := (hbs k hm).1; omega)).trans (h2.block k hk)⟩, ?_, ?_⟩
          · exact (hR.block _ (by omega) (fun hm => by have := (hbs _ hm).2; omega)).trans m12
          · exact (hR.block _ (by omega) (fun hm => by have := (hbs _ hm).2; omega)).trans m13
        have HW5 := Lib.hid (cell_of_heap (o := 0) HB5.out.2.1 rfl)
        have hF : ∀ W', RX (W1.heap.size + 2) (w9.heap.size :: w6.heap.size :: (Value.slice pl ds.length cl).ownBlock.toList) ((W1.alloc (.cells (arrB RTn) 149)).alloc (.cells (arrV RS) 109)).drew W' → (W'.cell? ⟨w2.heap.size, 0, none⟩ = some (.pointer (some ⟨yb, 0, none⟩)) ∧ (W'.cell? ⟨W1.heap.size, 0, none⟩ = some (.bool (RTn 0)) ∧ W'.cell? ⟨W1.heap.size, 1, none⟩ = some (.bool (RTn 1)) ∧ W'.cell? ⟨W1.heap.size, 2, none⟩ = some (.bool (RTn 2)) ∧ W'.cell? ⟨W1.heap.size, 3, none⟩ = some (.bool (RTn 3))) ∧ (W'.cell? ⟨W1.heap.size + 1, 0, none⟩ = some (.int .i64 (RS 0)) ∧ W'.cell? ⟨W1.heap.size + 1, 1, none⟩ = some (.int .i64 (RS 1)) ∧ W'.cell? ⟨W1.heap.size + 1, 2, none⟩ = some (.int .i64 (RS 2)) ∧ W'.cell? ⟨W1.heap.size + 1, 3, none⟩ = some (.int .i64 (RS 3)))) := fun W' hR => by
          obtain ⟨h1, h2, h3⟩ := HFF.out W' hR
          obtain ⟨a0, a1, a2, a3, _⟩ := cells4 h2
          obtain ⟨b0, b1, b2, b3, _⟩ := cells4 h3
          exact ⟨keepsB (bt HK6.out h1) HW5.out, ⟨a0, a1, a2, a3⟩, b0, b1, b2, b3⟩
        have HF2 := Lib.hid (And.intro hI (And.intro hz (And.intro hl9 (And.intro hdl (And.intro hzd (And.intro hgd (And.intro hld (And.intro hRS hlp))))))))
        have HSZ := Lib.hid (And.intro hsW (And.intro (lt_of_heap hB9) hs))
        obtain ⟨i0, hi0, hz0, hz1, hz2⟩ := info_parts Go.Proofs.YtknpglgpkkhhiaaDoor.T.infoDT
        have HZ := Lib.hid (And.intro hi0 (And.intro hz0 (And.intro hz1 hz2)))
        clear hi0 hz0 hz1 hz2 hI hz hl9 hdl hB7 hB9 hzd hgd hld hRS hlp hvl how hdr hs hdl' K1 KW m12 m13 hbs hsW hB1
        gi_wp2
        refine Free2R.wp_free (R := RX (W1.heap.size + 2) (w9.heap.size :: w6.heap.size :: (Value.slice pl ds.length cl).ownBlock.toList)) (J := JL w6.heap.size w9.heap.size S RS (.slice pl ds.length cl) vs ds d) (by kernel_rfl) (by kernel_rfl) (by kernel_rfl) (RX.refl _ _) RX.trans HJ0.out ?_
        refine Free2R.Chain.pr (fun v _ => v = .slice pl ds.length cl) 0 rfl [] [9] (by kernel_rfl) (by kernel_rfl) rfl (fun _ _ _ _ h => h) ?_ ?_
        · (intro ev W X hb hR hO hD hj hx hax; have hS := hF W hR; obtain ⟨hb1, hb2, hb3⟩ := hb; simp only [Free.AllDeps, Free.AllOuts, Free.At, al1, al2, al3, al4, al5, and_true] at hO hD; simp only [Free2.AllX, and_true] at hax; have h5 := JL.no5 hj (.inl hx); have c0 := cell_of_heap (o := 0) (hj.c9 (hj.no7 h5).1) rfl; have hg := JL.skip hj 0 (.slice pl ds.length cl) (by decide); go_simp; first | exact ⟨RX.refl _ _ _, rfl, hg⟩ | exact ⟨RX.refl _ _ _, hg⟩)
        simp only [an1, an2]
        refine Free2R.Chain.ex ?_ 1 rfl [] [5] (by kernel_rfl) (by kernel_rfl) rfl (RX.refl _ _) (fun X W v h => JL.skip h 1 v (by decide)) ?_ ?_
        rotate_left
        · (intro ev W hb hR hO hD; have hS := hF W hR; obtain ⟨hb1, hb2, hb3⟩ := hb; simp only [Free.AllDeps, Free.AllOuts, Free.At, al1, al2, al3, al4, al5, and_true] at hO hD; go_simp; rfl)
        simp only [an1, an2]
        refine Free2R.Chain.ex ?_ 2 rfl [] [12] (by kernel_rfl) (by kernel_rfl) rfl (RX.refl _ _) (fun X W v h => JL.skip h 2 v (by decide)) ?_ ?_
        rotate_left
        · (intro ev W hb hR hO hD; have hS := hF W hR; obtain ⟨hb1, hb2, hb3⟩ := hb; simp only [Free.AllDeps, Free.AllOuts, Free.At, al1, al2, al3, al4, al5, and_true] at hO hD; go_simp; rfl)
        simp only [an1, an2]
        refine Free2R.Chain.pr (fun _ _ => True) 3 rfl [(1, 64), (2, 65)] [] (by kernel_rfl) (by kernel_rfl) rfl (fun _ _ _ _ h => h) ?_ ?_
        · (intro ev W X hb hR hO hD hj hx hax; have hS := hF W hR; obtain ⟨hb1, hb2, hb3⟩ := hb; simp only [Free.AllDeps, Free.AllOuts, Free.At, al1, al2, al3, al4, al5, and_true] at hO hD; simp only [Free2.AllX, and_true] at hax; have hb := (HFF.out W hR).1; have hsz := hR.size; simp at hsz; go_simp; refine yields_enter ?_; (with_reducible refine (HID.out W hb).mono ?_); rintro e W2 ⟨⟨u, rfl, hrow⟩, hB2⟩; rw [HIDS.out] at hrow; exact ⟨_, rfl, RX.of_bel hB2 hsz, JL.ids hj hx hB2 ⟨_, hrow⟩⟩)
        simp only [an1, an2]
        refine Free2R.Chain.pr (fun _ _ => True) 4 rfl [(3, 66)] [] (by kernel_rfl) (by kernel_rfl) rfl (fun _ _ _ _ h => h) ?_ ?_
        · (intro ev W X hb hR hO hD hj hx hax; have hS := hF W hR; obtain ⟨hb1, hb2, hb3⟩ := hb; simp only [Free.AllDeps, Free.AllOuts, Free.At, al1, al2, al3, al4, al5, and_true] at hO hD; simp only [Free2.AllX, and_true] at hax; have h5 := JL.no5 hj (.inr hx); have hsz := hR.size; simp at hsz; have hX3 := hax; obtain ⟨b0, hrw⟩ := hj.id h5 _ hX3; obtain ⟨q9, c9, hev⟩ := row_slice hrw; rw [hev] at hX3; go_simp; exact ⟨RX.of_bel (belAlloc _ _) hsz, JL.made hj h5 (belAlloc _ _) hX3 (by simp [go_sem])⟩)
        simp only [an1, an2]
        refine Free2R.Chain.pr (fun _ _ => True) 5 rfl [(0, 63), (4, 67), (3, 66)] [] (by kernel_rfl) (by kernel_rfl) rfl (fun _ _ _ _ h => h) ?_ ?_
        · (intro ev W X hb hR hO hD hj hx hax; have hS := hF W hR; obtain ⟨hb1, hb2, hb3⟩ := hb; simp only [Free.AllDeps, Free.AllOuts, Free.At, al1, al2, al3, al4, al5, and_true] at hO hD; simp only [Free2.AllX, and_true] at hax; obtain ⟨sb, su, hsb, hsc, hs3⟩ := hj.src hx _ hax.2.1; have hsz := hR.size; simp at hsz; have hrw := hj.row hx; have ho1 : su.oneCell' = true := (hj.id hx _ hs3).one; have hdl := HDL.out; obtain ⟨v2, W2, hr2, ho2, hg2, _⟩ := run_append_own_wide (P := Tryd.prog) W w9.heap.size 25 25 58 i0 (.slice none 0 0) 1 24 Tryd.underlying25 HZ.out.1 HZ.out.2.1 HZ.out.2.2.1 HZ.out.2.2.2 rfl (by decide) (.slice pl ds.length cl) ds.length vs hrw.2.1 ⟨sb, 0, none⟩ 1 1 [su] rfl (cell_one_add hsc) (by simpa using ho1) (by unfold maxLen; omega) (by omega) (by have := HSZ.out; omega); simp only [execOp, resolve, invoke, builtin, Sem.run_bind, Sem.run_pure, Result.andThen_ok, List.map_toArray, List.map_cons, List.map_nil, hD, hsb, hr2]; exact ⟨RX.row hrw.2.1 hg2 hsz, trivial, JL.app hj hx (by rw [hax.1]; simp) (by rw [hax.2.1]; simp) hs3 HSZ.out.2.2.2.1 hg2 ho2⟩)
        simp only [an1, an2]
        refine Free2R.Chain.ex ?_ 6 rfl [] [13] (by kernel_rfl) (by kernel_rfl) rfl (RX.refl _ _) (fun X W v h => JL.skip h 6 v (by decide)) ?_ ?_
        rotate_left
        · (intro ev W hb hR hO hD; have hS := hF W hR; obtain ⟨hb1, hb2, hb3⟩ := hb; simp only [Free.AllDeps, Free.AllOuts, Free.At, al1, al2, al3, al4, al5, and_true] at hO hD; go_simp; rfl)
        simp only [an1, an2]
        refine Free2R.Chain.pr (fun _ _ => True) 7 rfl [(5, 68), (5, 68), (0, 63), (1, 64), (2, 65), (3, 66), (4, 67), (5, 68)] [9] (by kernel_rfl) (by kernel_rfl) rfl (fun _ _ _ _ h => h) ?_ ?_
        · (intro ev W X hb hR hO hD hj hx hax; have hS := hF W hR; obtain ⟨hb1, hb2, hb3⟩ := hb; simp only [Free.AllDeps, Free.AllOuts, Free.At, al1, al2, al3, al4, al5, and_true] at hO hD; simp only [Free2.AllX, and_true] at hax; have hb9 := hj.c9 hx; have c0 := cell_of_heap (o := 0) hb9 rfl; have c1 := frozen_of_heap (o := 0) hb9; have hX5 := hax.1; obtain ⟨vs9, _, hrw, _⟩ := hj.now _ hX5; obtain ⟨q9, c9, hev⟩ := row_slice hrw; rw [hev] at hX5; go_simp; exact ⟨RX.set (by simp), JL.put9 hj hx (by rw [hX5]; simp) HSZ.out.2.2.2.1⟩)
        simp only [an1, an2]
        refine Free2R.Chain.pr (fun _ _ => True) 8 rfl [(6, 69), (0, 63), (1, 64), (2, 65), (3, 66), (4, 67), (5, 68), (6, 69)] [7] (by kernel_rfl) (by kernel_rfl) rfl (fun _ _ _ _ h => h) ?_ ?_
        · (intro ev W X hb hR hO hD hj hx hax; have hS := hF W hR; obtain ⟨hb1, hb2, hb3⟩ := hb; simp only [Free.AllDeps, Free.AllOuts, Free.At, al1, al2, al3, al4, al5, and_true] at hO hD; simp only [Free2.AllX, and_true] at hax; have hb7 := hj.c7 hx; obtain ⟨c0, c1, c2, c3, f0, f1, f2, f3⟩ := cells4 hb7; have hX5 : X 5 ≠ none := (by rw [hax.2.2.2.2.2.2.1]; simp); go_simp; exact ⟨RX.trans _ _ _ (RX.trans _ _ _ (RX.set (by simp)) (RX.set (by simp))) (RX.trans _ _ _ (RX.set (by simp)) (RX.set (by simp))), JL.put7 hj hx hX5 HSZ.out.2.2.2.1⟩)
        simp only [an1, an2]
        intro ys w7 hR hV hX
        obtain ⟨X, hj, hxx⟩ := hX
        simp only [Free.AllV, Free.At, List.length_cons, List.length_nil, Nat.reduceAdd, List.getElem?_cons_succ, List.getElem?_cons_zero, true_and, and_true] at hV
        simp only [Free.putsFrom, Act.put, Nat.zero_add, Nat.reduceAdd, hV, List.setIfInBounds_toArray, List.set_cons_succ, List.set_cons_zero]
        have x5 : X 5 = some (ys 5) := hxx 5 (by decide)
        have x7 : X 7 ≠ none := by rw [hxx 7 (by decide)]; simp
        have x8 : X 8 ≠ none := by rw [hxx 8 (by decide)]; simp
        have HE := Lib.hid (And.intro (hj.d9 x7 _ x5) (And.intro (hj.d7 x8) (And.intro (hj.now _ x5) (And.intro (HWD.out w7 hR) (HFF.out w7 hR).1))))
        clear hR hV hj hxx hF x5 x7 x8
        gi_wp2
        obtain ⟨e1, e2, e3, e4, e5⟩ := HE.out
        obtain ⟨hI, hz, hl9, hdl, hzd, hgd, hld, hRS, hlp⟩ := HF2.out
        have hk := HKP.out w7 e4
        refine ⟨hk.1, hk.2, ?_⟩
        show LastI w6 w6.heap.size w9.heap.size wb.heap.size h xs m (pre ++ [(x1, x2)]).length w7
        rw [hlp]
        refine ⟨e5, Nat.le_trans hI.sz e4.size, by omega, dayR d zs, ds ++ [d], _, hzd, by rw [hj1]; exact hgd, by rw [hl9, hld, hj1]; simp, by simp [hdl], by rw [hRS]; exact e2, e1, e3⟩
      case done =>
        rintro D W hD hI hKD
        obtain ⟨zs, ds, vl, hz, hg9, hl9, hdl, hB7, hB9, hdo⟩ := hI.st
        have z0 := cell_of_heap (o := 0) hB9 rfl
        have hlen9 : (revM (gs.take m) (gs.take m).length).length = m := by rw [revM_length]; exact HML2.out
        rw [hlen9, Nat.sub_self] at hl9
        have HDI := Lib.hid (And.intro hI.bel (And.intro hl9 hdo))
        clear hz hg9 hl9 hdl hB7 hB9 hdo hI
        go_wp2_with fail
        refine ⟨by simp, .inl ⟨_, _, rfl, run_takeDeferred hKD, ?_⟩⟩
        obtain ⟨hbl, hl9, hdo⟩ := HDI.out
        have hs := HS.out
        have hB5 := HB5.out.1
        have hl9' : lastL h m xs = ds := by rw [hl9, lastL]; simp
        have hbw : Below w.heap.size w W := hB5.trans (Below.mono (bt HK6.out hbl) hB5.size)
        refine ⟨.tuple #[vl, .int .i64 0], by simp [results, Tryd.f47, go_sem], ⟨m, vl, by have := HMM.out.1; have := HKK.out.1; omega, HMM.out.2.1, HMM.out.2.2.2, rfl, ?_⟩, hbw.trans (Below.putNew _ (by have := hB5.size; have := HK6.out.size; omega))⟩
        rw [hl9']
        exact (hdo.put hKD rfl).mono (by have := hB5.size; have := HK6.out.size; omega)
      case stop => rintro D c pre W _ _ h _; exact h.elim
theorem lastP_v (h : Int) (xs : List Rk) (u : Value) (w : World) (hT : TabR w) (hu : RL xs u w) (c : Int) (hc : Hid (lastE h xs = c)) :
    Calls Tryd.prog 47 #[.agg #[.int .i64 h, u]] w fun e w' => LastPost h xs c w e w' ∧ Below w.heap.size w w' := by
  have hC := hc.out
  unfold lastE at hC
  cases hw : watchB h xs with
  | false =>
    rw [hw] at hC
    obtain rfl : c = 70 := by simpa using hC.symm
    exact (last_a h xs u w hT hu hw).mono fun e w' ⟨h1, h2⟩ => ⟨.inl ⟨by decide, h1⟩, h2⟩
  | true =>
    cases he : everB h xs with
    | true =>
      rw [hw, he] at hC
      obtain rfl : c = 6 := by simpa using hC.symm
      exact (last_b h xs u w hT hu hw he).mono fun e w' ⟨h1, h2⟩ => ⟨.inl ⟨by decide, h1⟩, h2⟩
    | false =>
      rw [hw, he] at hC
      obtain rfl : c = 0 := by simpa using hC.symm
      exact (last_c h xs u w hT hu hw he).mono fun e w' ⟨h1, h2⟩ => ⟨.inr ⟨rfl, h1⟩, h2⟩
end Go.Proofs.YtknpglgpkkhhiaaDoor

/- slices.Contains at numbers; slices.Clone at ricks. -/
namespace Go.Proofs.YtknpglgpkkhhiaaDoor
set_option linter.unusedSimpArgs false
set_option linter.unusedVariables false
open Go.RowKit Go.Proofs.YtknpglgpkkhhiaaDoor.Free2

set_option maxRecDepth 100000 in
set_option maxHeartbeats 2000000 in
theorem indexI7_any (xs : List Int) (a : Int) (u : Value) (w : World) (hu : IL xs u w) :
    Calls Tryd.prog 97 #[u, .int .i64 a] w fun e w' => (∃ r : Int, e = .returned (.int .i64 r) ∧ decide (0 ≤ r) = xs.contains a) ∧ Below w.heap.size w w' := by
  obtain ⟨p, cp, rfl, hm, hq⟩ := hu
  unfold maxLen at hm
  have HC := Lib.hid hq
  clear hq
  go_enter Tryd.func97, Tryd.ntmps97
  go_wp2_with fail
  go_loopw [8] (fun i wr => ∃ k : Nat, k ≤ xs.length ∧ i = .int .i64 k ∧ Hid (a ∉ xs.take k) ∧ Below w.heap.size w wr) (fun i _ => xs.length - (intOf i).toNat)
  case atStart => exact ⟨0, Nat.zero_le _, rfl, (by show a ∉ _; simp), Below.refl _ _⟩
  case round =>
    obtain ⟨k, hk, rfl, hno, hB⟩ := hrel
    by_cases hlt : k < xs.length
    · obtain ⟨b, off, rfl, hcp⟩ := HC.out (by intro e; simp [e] at hlt)
      have e1 := keepsB hB (hcp k hlt)
      have hklt : (k : Int) < xs.length := by omega
      have htk : Hid (xs.take (k + 1) = xs.take k ++ [xs[k]]) := by show _ = _; rw [List.take_add_one, List.getElem?_eq_getElem hlt]; rfl
      have hmem : Hid (xs[k] ∈ xs) := List.getElem_mem hlt
      clear hcp
      generalize xs[k] = x at *
      by_cases he : a = x
      · have g0 : (a == x) = true := by simp [he]
        have HM : Hid (xs.contains a = true) := by show _ = _; rw [he]; simpa using hmem.out
        clear he
        go_wp2_with fail
        go_ret
        exact ⟨⟨_, rfl, by rw [HM.out]; simp⟩, hB⟩
      · have g0 : (a == x) = false := by simp [he]
        have HE := Lib.hid he
        clear he
        go_wp2_with fail
        go_roundw
        case rel => exact ⟨k + 1, by omega, by go_num, (by show a ∉ _; rw [htk.out]; simp [hno.out, HE.out]), hB⟩
        case measure => simp [intOf]; omega
    · obtain rfl : k = xs.length := by omega
      have hno2 : a ∉ xs := by have := hno.out; rw [List.take_length] at this; exact this
      have HN := Lib.hid hno2
      clear hno2
      go_wp2_with fail
      go_ret
      exact ⟨⟨_, rfl, by have := HN.out; simp [this]⟩, hB⟩

set_option maxRecDepth 100000 in
set_option maxHeartbeats 2000000 in
theorem contI7_any (xs : List Int) (a : Int) (u : Value) (w : World) (hu : IL xs u w) :
    Calls Tryd.prog 72 #[u, .int .i64 a] w fun e w' => e = .returned (.bool (xs.contains a)) ∧ Below w.heap.size w w' := by
  have HI := Lib.hid (indexI7_any xs a u w hu)
  obtain ⟨p, cp, rfl, _, _⟩ := hu
  generalize xs.contains a = q at *
  go_enter Tryd.func72, Tryd.ntmps72
  go_wp2_with fail
  refine HI.out.mono ?_
  rintro e w1 ⟨⟨r, rfl, hr⟩, hB⟩
  have HR := Lib.hid hr
  clear hr
  go_wp2_with fail
  go_ret
  exact ⟨by rw [← HR.out]; rfl, hB⟩

set_option maxRecDepth 100000 in
set_option maxHeartbeats 2000000 in
theorem clone_any (xs : List (Int × Int × Int)) (u : Value) (w : World) (hu : RL xs u w) (hz : NZ u) (hn : xs.length ≤ 1000) :
    Calls Tryd.prog 71 #[u] w fun e w' => ∃ v, e = .returned v ∧ w'.ownsRow w.heap.size 47 3 v xs.length (cellsR xs) ∧ Below w.heap.size w w' := by
  obtain ⟨p, cp, rfl, hm, hp⟩ := hu
  have HNEW := Lib.hid (ricks_news (cp := cp) hp)
  have HNIL : Hid (p = none → xs.length = 0 ∧ cp = 0) := fun e => hz _ _ (by rw [e])
  clear hp hz
  obtain ⟨i0, hi0, hz0, hz1, hz2⟩ := info_parts T.infoRick
  have HZ := Lib.hid (And.intro hi0 (And.intro hz0 (And.intro hz1 hz2)))
  clear hi0 hz0 hz1 hz2
  have q22 : ∀ (w : World) (a : Option Addr) (n c n' c' : Nat), (binOp .eql 22 (.slice a n c) (.slice none n' c')).run Tryd.prog w = .ok (.bool a.isNone) w := fun w a n c n' c' => Lib.run_eql_slice_nil w _ _ a n c n' c' Tryd.underlying22
  have KA : Free.Bel w (w.alloc (.cells #[] 47)) := belAlloc _ _
  cases hpc : p with
  | none =>
    obtain ⟨h1, rfl⟩ := HNIL.out hpc
    obtain rfl : xs = [] := List.eq_nil_of_length_eq_zero h1
    subst hpc
    clear h1
    go_enter Tryd.func71, Tryd.ntmps71
    go_wp2_with fail
    go_ret
    exact ⟨_, rfl, by simpa [cellsR] using World.ownsRow_nil _ _ _ _, Below.refl _ _⟩
  | some ad =>
    subst hpc
    go_enter Tryd.func71, Tryd.ntmps71
    go_wp2_with (first | (at_builtin; go_loud (refine wpList_append_full rfl _ _ 22 rfl w.heap.size 47 i0 (.agg #[.int .i64 0, .int .i64 0, .int .i64 0]) 3 24 Tryd.underlying22 HZ.out.1 HZ.out.2.1 HZ.out.2.2.1 HZ.out.2.2.2 rfl (by decide) w.heap.size 0 #[] rfl (World.alloc_heap_new _ _) rfl (Nat.le_refl _) (some ad) xs.length cp (cellsR xs) rfl (cellsR_length xs) (HNEW.out _ KA) HNIL.out (by unfold maxLen; omega) (by omega) ?_); intro v9 w9 ho9 hb9) | fail)
    go_ret
    exact ⟨_, rfl, by simpa using ho9, bt KA hb9⟩
end Go.Proofs.YtknpglgpkkhhiaaDoor

/- The fewest hands, the moistest cake. -/
namespace Go.Proofs.YtknpglgpkkhhiaaDoor
set_option linter.unusedSimpArgs false
set_option linter.unusedVariables false
open Go.RowKit Go.Proofs.YtknpglgpkkhhiaaDoor.Free2 Go.Proofs.YtknpglgpkkhhiaaDoor.ML RR

theorem watch_hands {h k : Int} {xs : List Rk} (hw : watchB h xs = true) (h0 : 0 ≤ k) (h3 : k ≤ 3) : watchB k xs = true := by
  rw [watchB_iff] at hw ⊢
  exact ⟨⟨h0, h3⟩, hw.2⟩
def FewPost (h : Int) (xs : List Rk) (e : Ending) : Prop := (watchB h xs = false ∧ e = .returned (.tuple #[.int .i64 0, .int .i64 70])) ∨ (watchB h xs = true ∧ ∃ n c, FewIs xs n c ∧ e = .returned (.tuple #[.int .i64 n, .int .i64 c]))
set_option maxRecDepth 100000 in
set_option maxHeartbeats 8000000 in
theorem fewestP_any (h : Int) (xs : List Rk) (u : Value) (w : World) (hT : TabR w) (hu : RL xs u w) :
    Calls Tryd.prog 49 #[.agg #[.int .i64 h, u]] w fun e w' => FewPost h xs e ∧ Below w.heap.size w w' := by
  have HU := Lib.hid hu
  obtain ⟨p, cp, rfl, _, _⟩ := hu
  have KB : Free.Bel w (w.alloc (.cells #[.int .i64 h, .slice p xs.length cp] 24)) := belAlloc _ _
  have m0 : (w.alloc (.cells #[.int .i64 h, .slice p xs.length cp] 24)).heap[w.heap.size]? = some (.cells #[.int .i64 h, .slice p xs.length cp] 24 (0, 0)) := World.alloc_heap_new w _
  have FA : ∀ W, Free.Bel (w.alloc (.cells #[.int .i64 h, .slice p xs.length cp] 24)) W → W.cell? ⟨w.heap.size, 0, none⟩ = some (.int .i64 h) ∧ W.cell? ⟨w.heap.size, 1, none⟩ = some (.slice p xs.length cp) := fun W hW => ⟨keepsB hW (cell_of_heap m0 rfl), keepsB hW (cell_of_heap m0 rfl)⟩
  have KE : Free.Bel (w.alloc (.cells #[.int .i64 h, .slice p xs.length cp] 24)) (w.alloc (.cells #[.int .i64 h, .slice p xs.length cp] 24)) := Free.Bel.refl _
  have HCK := Lib.hid (fun c hc => checkP_v h xs _ (w.alloc (.cells #[.int .i64 h, .slice p xs.length cp] 24)) (hT.bel KB) (HU.out.keeps KB) c hc)
  have HKB := Lib.hid (And.intro KB m0)
  cases hw : watchB h xs with
  | false =>
    have HC := Lib.hid (HCK.out 70 (by show _ = _; simp [hw]))
    have HW := Lib.hid hw
    clear hT m0 hw HCK
    go_enter Tryd.func49, Tryd.ntmps49
    go_wp2_with fail
    refine HC.out.mono ?_
    rintro e w1 ⟨rfl, hB1⟩
    have HB := Lib.hid (bt HKB.out.1 hB1)
    clear hB1
    go_wp2_with fail
    go_ret2
    exact ⟨.inl ⟨HW.out, rfl⟩, HB.out⟩
  | true =>
    have HC := Lib.hid (HCK.out 0 (by show _ = _; simp [hw]))
    have HW := Lib.hid hw
    clear hT m0 hw HCK
    go_enter Tryd.func49, Tryd.ntmps49
    go_wp2_with fail
    refine HC.out.mono ?_
    rintro e w1 ⟨rfl, hB1⟩
    have HB1 := Lib.hid (show Free.Bel (w.alloc (.cells #[.int .i64 h, .slice p xs.length cp] 24)) w1 from hB1)
    clear hB1 FA KE KB
    go_wp2_with fail
    go_loopw [11] (fun i wr => ∃ (k : Nat) (hh : Int), k ≤ 4 ∧ i = .int .i64 k ∧ Below w.heap.size w wr ∧ wr.heap[w.heap.size]? = some (.cells #[.int .i64 hh, .slice p xs.length cp] 24 (0, 0)) ∧ Hid (∀ j : Nat, j < k → everB (j : Int) xs = false)) (fun i _ => 4 - (intOf i).toNat)
    case atStart => exact ⟨0, h, by omega, rfl, bt HKB.out.1 HB1.out, (HB1.out.block _ (lt_of_heap HKB.out.2)).trans HKB.out.2, fun j hj => absurd hj (Nat.not_lt_zero _)⟩
    case round =>
      obtain ⟨k, hh, hk, rfl, hB, hm, HNO⟩ := hrel
      by_cases hlt : k < 4
      · have hki : (k : Int) < 4 := by omega
        have hkw : IntKind.i64.wrap ((k : Int) + 1) = (k : Int) + 1 := IntWalk.i64_in _ (by omega)
        have HBW := Lib.hid (And.intro hB hm)
        have f0 := frozen_of_heap (o := 0) hm
        have y0 := cell_of_heap (o := 0) hm rfl
        have y1 := cell_of_heap (o := 1) hm rfl
        have KS : Below w.heap.size w (wr.setCell ⟨w.heap.size, 0, none⟩ (.int .i64 k)) := hB.setCell (by simp) _
        have mS : (wr.setCell ⟨w.heap.size, 0, none⟩ (.int .i64 (k : Int))).heap[w.heap.size]? = some (.cells #[.int .i64 k, .slice p xs.length cp] 24 (0, 0)) := by
          have := heap_setCell_same (o := 0) (.int .i64 (k : Int)) hm
          simpa using this
        obtain ⟨r, hr⟩ : ∃ r, everB (k : Int) xs = r := ⟨_, rfl⟩
        have HCAN := Lib.hid (can_any (k : Int) xs _ (wr.setCell ⟨w.heap.size, 0, none⟩ (.int .i64 (k : Int))) (HU.out.keeps KS) (watch_hands HW.out (by omega) (by omega)) r (Lib.hid hr))
        have HS := Lib.hid (And.intro KS mS)
        have HR := Lib.hid hr
        have c0 := cell_of_heap (o := 0) mS rfl
        have c1 := cell_of_heap (o := 1) mS rfl
        clear hB hm KS mS hr
        go_wp2_with fail
        refine HCAN.out.mono ?_
        rintro e w5 ⟨rfl, hB5⟩
        have hB5 : Free.Bel (wr.setCell ⟨w.heap.size, 0, none⟩ (.int .i64 (k : Int))) w5 := hB5
        have HB5 := Lib.hid (And.intro (HS.out.1.trans (Below.mono hB5 HS.out.1.size)) ((hB5.block _ (lt_of_heap HS.out.2)).trans HS.out.2))
        clear hB5 y0 y1 f0 c0 c1
        cases r with
        | true =>
          go_wp2_with fail
          go_ret2
          exact ⟨.inr ⟨HW.out, k, 0, .inr ⟨rfl, by omega, by omega, HR.out, fun j h0 hj => by
            have := HNO.out j.toNat (by omega)
            rwa [Int.toNat_of_nonneg h0] at this⟩, rfl⟩, HB5.out.1⟩
        | false =>
          go_wp2_with fail
          go_roundw
          case rel => exact ⟨k + 1, k, by omega, by go_num, HB5.out.1, HB5.out.2, fun j hj => by
            by_cases h9 : j < k
            · exact HNO.out j h9
            · obtain rfl : j = k := by omega
              exact HR.out⟩
          case measure => simp [intOf]; omega
      · obtain rfl : k = 4 := by omega
        have HB := Lib.hid hB
        clear hB hm
        go_wp2_with fail
        go_ret2
        exact ⟨.inr ⟨HW.out, 0, 8, .inl ⟨rfl, rfl, fun j h0 h3 => by
          have := HNO.out j.toNat (by omega)
          rwa [Int.toNat_of_nonneg h0] at this⟩, rfl⟩, HB.out⟩
end Go.Proofs.YtknpglgpkkhhiaaDoor

/- The moistest cake. -/
namespace Go.Proofs.YtknpglgpkkhhiaaDoor
set_option linter.unusedSimpArgs false
set_option linter.unusedVariables false
open Go.RowKit Go.Proofs.YtknpglgpkkhhiaaDoor.Free2 Go.Proofs.YtknpglgpkkhhiaaDoor.ML RR

theorem cellsR_setE (ys : List Rk) (k : Nat) (hk : k < ys.length) (v : Int) : (cellsR ys).set (k * 3 + 1) (.int .i64 v) = cellsR (ys.set k (ys[k].1, v, ys[k].2.2)) := by
  induction ys generalizing k with
  | nil => simp at hk
  | cons y r ih =>
    have e : ∀ (y : Rk) (l : List Rk), cellsR (y :: l) = .int .i64 y.1 :: .int .i64 y.2.1 :: .int .i64 y.2.2 :: cellsR l := fun y l => by simp [cellsR]
    cases k with
    | zero => simp [e]
    | succ k =>
      have := ih k (by simpa using hk)
      rw [e, show (k + 1) * 3 + 1 = (k * 3 + 1) + 1 + 1 + 1 by omega]
      simp only [List.set_cons_succ, List.getElem_cons_succ, e, this]
theorem rick_storeE {base g n cap : Nat} {ys : List Rk} {w : World} (h : w.ownsRow base 47 3 (.slice (some ⟨g, 0, none⟩) n cap) n (cellsR ys)) (k : Nat) (hk : k < ys.length) (v : Int) :
    (w.setCell ⟨g, k * 3 + 1, none⟩ (.int .i64 v)).ownsRow base 47 3 (.slice (some ⟨g, 0, none⟩) n cap) n (cellsR (ys.set k (ys[k].1, v, ys[k].2.2))) := by
  have := (h.stored (k * 3 + 1) (.int .i64 v)).1
  rw [cellsR_setE ys k hk] at this
  exact this
theorem moistR_length (xs : List Rk) (i : Nat) (n : Int) : (moistR xs i n).length = xs.length := by simp [moistR]
theorem moistR_get (xs : List Rk) (i : Nat) (hi : i < xs.length) (n : Int) (h : i < (moistR xs i n).length) : (moistR xs i n)[i] = (xs[i].1, n, xs[i].2.2) := by simp [moistR, hi]
theorem moistR_set (xs : List Rk) (i : Nat) (hi : i < xs.length) (n m : Int) : (moistR xs i n).set i (xs[i].1, m, xs[i].2.2) = moistR xs i m := by simp [moistR, hi]
theorem moistR_self (xs : List Rk) (i : Nat) (hi : i < xs.length) : moistR xs i xs[i].2.1 = xs := by
  unfold moistR
  simp only [List.getD_eq_getElem?_getD, List.getElem?_eq_getElem hi, Option.getD_some]
  exact List.set_getElem_self hi
theorem watch_moist {h : Int} {xs : List Rk} (hw : watchB h xs = true) (i : Nat) (hi : i < xs.length) {n : Int} (h1 : xs[i].2.2 + 1 ≤ n) (h6 : n ≤ 6) : watchB h (moistR xs i n) = true := by
  obtain ⟨a1, a2, a3⟩ := watchB_iff.1 hw
  refine watchB_iff.2 ⟨a1, by rw [moistR_length]; exact a2, ?_⟩
  have key : ∀ (xs : List Rk) (i : Nat) (l : Int), risesB l xs = true → (hi : i < xs.length) → xs[i].2.2 + 1 ≤ n → risesB l (moistR xs i n) = true := by
    intro xs
    induction xs with
    | nil => intro i l _ hi; simp at hi
    | cons x r ih =>
      intro i l hr hi hn
      simp only [risesB, inB, List.all_cons, List.all_nil, Bool.and_true, Bool.and_eq_true, decide_eq_true_eq] at hr
      cases i with
      | zero =>
        simp only [List.getElem_cons_zero] at hn
        simp only [moistR, List.getD_cons_zero, List.set_cons_zero, risesB, inB, List.all_cons, List.all_nil, Bool.and_true, Bool.and_eq_true, decide_eq_true_eq]
        exact ⟨hr.1, ⟨by omega, h6⟩, ⟨hr.2.2.1.1, by omega⟩, hr.2.2.2⟩
      | succ i =>
        have := ih i x.1 hr.2.2.2 (by simpa using hi) (by simpa using hn)
        simp only [moistR, List.getD_cons_succ, List.set_cons_succ, risesB, inB, List.all_cons, List.all_nil, Bool.and_true, Bool.and_eq_true, decide_eq_true_eq] at this ⊢
        exact ⟨hr.1, hr.2.1, hr.2.2.1, this⟩
  exact key xs i 0 a3 hi h1
def MoPost (h : Int) (xs : List Rk) (r : Int) (e : Ending) : Prop := (watchB h xs = false ∧ e = .returned (.tuple #[.int .i64 0, .int .i64 70])) ∨ (watchB h xs = true ∧ r < 0 ∧ e = .returned (.tuple #[.int .i64 0, .int .i64 6])) ∨ (watchB h xs = true ∧ 0 ≤ r ∧ ∃ n c, MoistIs h xs r.toNat n c ∧ e = .returned (.tuple #[.int .i64 n, .int .i64 c]))
set_option maxRecDepth 100000 in
set_option maxHeartbeats 8000000 in
theorem moistP_any (h id : Int) (xs : List Rk) (u : Value) (w : World) (hT : TabR w) (hu : RL xs u w) (hz : NZ u) (r : Int) (hr : Hid (RickIs xs id r)) :
    Calls Tryd.prog 51 #[.agg #[.int .i64 h, u], .int .i64 id] w fun e w' => MoPost h xs r e ∧ Below w.heap.size w w' := by
  have HU := Lib.hid hu
  obtain ⟨p, cp, rfl, _, _⟩ := hu
  have KB : Free.Bel w (w.alloc (.cells #[.int .i64 h, .slice p xs.length cp] 24)) := belAlloc _ _
  have m0 : ((w.alloc (.cells #[.int .i64 h, .slice p xs.length cp] 24))).heap[w.heap.size]? = some (.cells #[.int .i64 h, .slice p xs.length cp] 24 (0, 0)) := World.alloc_heap_new w _
  have FA : ∀ W, Free.Bel (w.alloc (.cells #[.int .i64 h, .slice p xs.length cp] 24)) W → W.cell? ⟨w.heap.size, 0, none⟩ = some (.int .i64 h) ∧ W.cell? ⟨w.heap.size, 1, none⟩ = some (.slice p xs.length cp) := fun W hW => ⟨keepsB hW (cell_of_heap m0 rfl), keepsB hW (cell_of_heap m0 rfl)⟩
  have KE : Free.Bel (w.alloc (.cells #[.int .i64 h, .slice p xs.length cp] 24)) (w.alloc (.cells #[.int .i64 h, .slice p xs.length cp] 24)) := Free.Bel.refl _
  have HCK := Lib.hid (fun c hc => checkP_v h xs _ (w.alloc (.cells #[.int .i64 h, .slice p xs.length cp] 24)) (hT.bel KB) (HU.out.keeps KB) c hc)
  have HKB := Lib.hid (And.intro KB m0)
  have HNZ := Lib.hid hz
  cases hw : watchB h xs with
  | false =>
    have HC := Lib.hid (HCK.out 70 (by show _ = _; simp [hw]))
    have HW := Lib.hid hw
    clear hT m0 hw HCK hz
    go_enter Tryd.func51, Tryd.ntmps51
    go_wp2_with fail
    refine HC.out.mono ?_
    rintro e w1 ⟨rfl, hB1⟩
    have HB := Lib.hid (bt HKB.out.1 hB1)
    clear hB1
    go_wp2_with fail
    go_ret2
    exact ⟨.inl ⟨HW.out, rfl⟩, HB.out⟩
  | true =>
    have HC := Lib.hid (HCK.out 0 (by show _ = _; simp [hw]))
    have HW := Lib.hid hw
    have hl4 := (watchB_iff.1 hw).2.1
    clear hT m0 hw HCK hz
    go_enter Tryd.func51, Tryd.ntmps51
    go_wp2_with fail
    refine HC.out.mono ?_
    rintro e w1 ⟨rfl, hB1⟩
    have K1 : Free.Bel (w.alloc (.cells #[.int .i64 h, .slice p xs.length cp] 24)) w1 := hB1
    clear hB1
    go_wp2_with fail
    refine (indexP_v h id xs _ w1 (HU.out.keeps (bt HKB.out.1 K1)) r hr).mono ?_
    rintro e w2 ⟨rfl, hB2⟩
    have K2 : Free.Bel (w.alloc (.cells #[.int .i64 h, .slice p xs.length cp] 24)) w2 := bt K1 hB2
    clear hB2
    by_cases hneg : r < 0
    · have HB := Lib.hid (bt HKB.out.1 K2)
      have HNG := Lib.hid hneg
      go_wp2_with fail
      go_ret2
      exact ⟨.inr (.inl ⟨HW.out, HNG.out, rfl⟩), HB.out⟩
    · obtain ⟨i, rfl⟩ : ∃ i : Nat, r = (i : Int) := ⟨r.toNat, by omega⟩
      have hil : i < xs.length := by
        rcases hr.out with ⟨h9, _⟩ | ⟨k, hk, h9, _⟩
        · omega
        · omega
      have hg0 : decide ((i : Int) < 0) = false := decide_eq_false (by omega)
      have hii : (i : Int) < (xs.length : Int) := by omega
      go_wp2_with fail
      refine (clone_any xs _ w2 (HU.out.keeps (bt HKB.out.1 K2)) HNZ.out (by omega)).mono ?_
      rintro e w3 ⟨vc, rfl, hrow, hB3⟩
      obtain ⟨g, cap, cur, rfl, hge, hgb, hgc, _, _, _⟩ := hrow.2.resolve_left (fun h9 => by omega)
      have K3 : Free.Bel (w.alloc (.cells #[.int .i64 h, .slice p xs.length cp] 24)) w3 := bt K2 hB3
      have n0 := (K3.block _ (lt_of_heap HKB.out.2)).trans HKB.out.2
      have hsw : w.heap.size < w2.heap.size := by have := K2.size; simp at this; omega
      obtain ⟨c1, c2, c3, _⟩ := rick_row hrow rfl i hil
      have f0 := frozen_of_heap (o := 1) n0
      have z0 := cell_of_heap (o := 1) n0 rfl
      have HB3 := Lib.hid (And.intro (bt HKB.out.1 K3) (And.intro n0 (And.intro hrow (And.intro hge hsw))))
      have hok := watchB_ok HW.out xs[i] (List.getElem_mem hil)
      unfold okR at hok
      obtain ⟨x, hx⟩ : ∃ y, xs[i] = y := ⟨_, rfl⟩
      rw [hx] at c1 c2 c3 hok
      have HX := Lib.hid hx
      have hwr : IntKind.i64.wrap (x.2.2 + 1) = x.2.2 + 1 := IntWalk.i64_in _ (by omega)
      have hgw : g ≠ w.heap.size := by omega
      have d3 : (w3.setCell ⟨w.heap.size, 1, none⟩ (.slice (some ⟨g, 0, none⟩) xs.length cap)).cell? ⟨g, i * 3 + 2, none⟩ = some (.int .i64 x.2.2) := by rw [World.cell?_setCell_other _ _ _ _ (by first | (simp; done) | (simp; omega))]; exact c3
      have HIL := Lib.hid (And.intro hil hgw)
      clear hrow hge hgb hB3 n0 hsw hx FA KE KB K1 K2 K3 c1 c2 c3
      go_wp2_with fail
      clear d3 f0 z0
      have hI0 : Below w.heap.size w (w3.setCell ⟨w.heap.size, 1, none⟩ (.slice (some ⟨g, 0, none⟩) xs.length cap)) ∧ (w3.setCell ⟨w.heap.size, 1, none⟩ (.slice (some ⟨g, 0, none⟩) xs.length cap)).heap[w.heap.size]? = some (.cells #[.int .i64 h, (.slice (some ⟨g, 0, none⟩) xs.length cap)] 24 (0, 0)) ∧ (w3.setCell ⟨w.heap.size, 1, none⟩ (.slice (some ⟨g, 0, none⟩) xs.length cap)).ownsRow w2.heap.size 47 3 (.slice (some ⟨g, 0, none⟩) xs.length cap) xs.length (cellsR (moistR xs i x.2.1)) := by
        obtain ⟨hB, n0, hrow, hge, hsw⟩ := HB3.out
        refine ⟨hB.setCell (by simp) _, ?_, ?_⟩
        · have := heap_setCell_same (o := 1) (.slice (some ⟨g, 0, none⟩) xs.length cap) n0
          simpa using this
        · rw [← HX.out, moistR_self xs i HIL.out.1]
          exact row_block hrow fun k hk _ => heap_setCell_other (by simp [Value.ownBlock] at hk; omega)
      have HI0 := Lib.hid hI0
      clear hI0
      go_loopw [8] (fun n wr => ∃ (m q : Int), x.2.2 + 1 ≤ m ∧ m ≤ 7 ∧ n = .int .i64 m ∧ Below w.heap.size w wr ∧ wr.heap[w.heap.size]? = some (.cells #[.int .i64 h, (.slice (some ⟨g, 0, none⟩) xs.length cap)] 24 (0, 0)) ∧ wr.ownsRow w2.heap.size 47 3 (.slice (some ⟨g, 0, none⟩) xs.length cap) xs.length (cellsR (moistR xs i q)) ∧ Hid (∀ j : Int, x.2.2 + 1 ≤ j → j < m → everB h (moistR xs i j) = false)) (fun n _ => (7 - intOf n).toNat)
      case atStart => exact ⟨x.2.2 + 1, x.2.1, by omega, by omega, rfl, HI0.out.1, HI0.out.2.1, HI0.out.2.2, fun j h1 h2 => by omega⟩
      case round =>
        obtain ⟨m, q, hm1, hm7, rfl, hB, hm, hrow, HNO⟩ := hrel
        by_cases hlt : m ≤ 6
        · have hmw : IntKind.i64.wrap (m + 1) = m + 1 := IntWalk.i64_in _ (by omega)
          have hil9 : i < (moistR xs i q).length := by rw [moistR_length]; exact HIL.out.1
          have hrow2 := rick_storeE hrow i hil9 m
          rw [moistR_get xs i HIL.out.1 q hil9, moistR_set xs i HIL.out.1 q m] at hrow2
          obtain ⟨c1, c2, c3, _⟩ := rick_row hrow (moistR_length xs i q) i hil9
          have f1 := hrow.frozenAt (i * 3 + 1)
          have y0 := cell_of_heap (o := 0) hm rfl
          have y1 := cell_of_heap (o := 1) hm rfl
          have KS : Below w.heap.size w (wr.setCell ⟨g, i * 3 + 1, none⟩ (.int .i64 m)) := hB.setCell (by simp; have := HB3.out.2.2.2.1; have := HB3.out.2.2.2.2; omega) _
          have mS : (wr.setCell ⟨g, i * 3 + 1, none⟩ (.int .i64 m)).heap[w.heap.size]? = some (.cells #[.int .i64 h, (.slice (some ⟨g, 0, none⟩) xs.length cap)] 24 (0, 0)) := heap_other hm (by simp; have := HIL.out.2; omega)
          obtain ⟨b, hb⟩ : ∃ b, everB h (moistR xs i m) = b := ⟨_, rfl⟩
          have HCAN := Lib.hid (can_any h (moistR xs i m) (.slice (some ⟨g, 0, none⟩) xs.length cap) (wr.setCell ⟨g, i * 3 + 1, none⟩ (.int .i64 m)) (RL.of_row (moistR_length xs i m) (by unfold maxLen; omega) hrow2) (watch_moist HW.out i HIL.out.1 (by rw [HX.out]; exact hm1) hlt) b (Lib.hid hb))
          have HS := Lib.hid (And.intro KS (And.intro mS hrow2))
          have HR := Lib.hid hb
          have c0 := cell_of_heap (o := 0) mS rfl
          have c9 := cell_of_heap (o := 1) mS rfl
          rw [moistR_get xs i HIL.out.1 q hil9] at c2
          clear hB hm hrow hrow2 KS mS hb c1 c3 hil9
          go_wp2_with fail
          refine HCAN.out.mono ?_
          rintro e w5 ⟨rfl, hB5⟩
          have hB5 : Free.Bel (wr.setCell ⟨g, i * 3 + 1, none⟩ (.int .i64 m)) w5 := hB5
          have HB5 := Lib.hid (And.intro (HS.out.1.trans (Below.mono hB5 HS.out.1.size)) (And.intro ((hB5.block _ (lt_of_heap HS.out.2.1)).trans HS.out.2.1) (bel_row HS.out.2.2 hB5)))
          clear hB5 y0 y1 f1 c0 c2 c9
          cases b with
          | true =>
            go_wp2_with fail
            go_ret2
            exact ⟨.inr (.inr ⟨HW.out, by omega, m, 0, .inr ⟨rfl, by simp [HIL.out.1, HX.out]; omega, hlt, by simpa using HR.out, fun j h1 h2 => by simpa using HNO.out j (by simpa [HIL.out.1, HX.out] using h1) h2⟩, rfl⟩), HB5.out.1⟩
          | false =>
            go_wp2_with fail
            go_roundw
            case rel => exact ⟨m + 1, m, by omega, by omega, rfl, HB5.out.1, HB5.out.2.1, HB5.out.2.2, fun j h1 h2 => by
              by_cases h9 : j < m
              · exact HNO.out j h1 h9
              · obtain rfl : j = m := by omega
                exact HR.out⟩
            case measure => simp [intOf]; omega
        · obtain rfl : m = 7 := by omega
          have HB := Lib.hid hB
          clear hB hm hrow
          go_wp2_with fail
          go_ret2
          exact ⟨.inr (.inr ⟨HW.out, by omega, 0, 8, .inl ⟨rfl, rfl, fun j h1 h2 => by simpa using HNO.out j (by simpa [HIL.out.1, HX.out] using h1) (by omega)⟩, rfl⟩), HB.out⟩
end Go.Proofs.YtknpglgpkkhhiaaDoor

/- The spare days. -/
namespace Go.Proofs.YtknpglgpkkhhiaaDoor
set_option linter.unusedSimpArgs false
set_option linter.unusedVariables false
open Go.RowKit Go.Proofs.YtknpglgpkkhhiaaDoor.Free2 Go.Proofs.YtknpglgpkkhhiaaDoor.ML RR

def idle (xs : List Rk) (k : Nat) : List Rk := endR xs (List.replicate k [])
theorem idle_succ (xs : List Rk) (k : Nat) : idle xs (k + 1) = dayR [] (idle xs k) := by
  unfold idle
  rw [List.replicate_succ', endR_append]
  rfl
theorem idle_st {h : Int} {xs : List Rk} (hw : watchB h xs = true) : ∀ k, (∀ j, 0 < j → j ≤ k → idleOk h xs j) → StOf xs (idle xs k)
  | 0, _ => st_self hw
  | k + 1, hh => by
    have ih := idle_st hw k fun j h0 hj => hh j h0 (by omega)
    have hc := (hh (k + 1) (by omega) (Nat.le_refl _)).1
    have e : endR xs (List.replicate (k + 1) []) = dayR [] (idle xs k) := idle_succ xs k
    rw [e] at hc
    rw [idle_succ]
    exact ih.day [] hc
theorem idle_small {h : Int} {xs : List Rk} (hw : watchB h xs = true) (hne : xs ≠ []) (k : Nat) (hh : ∀ j, 0 < j → j ≤ k → idleOk h xs j) : k < 6 := by
  have hst := idle_st hw k hh
  match xs, hne with
  | x :: r, _ =>
    have e : idle (x :: r) k = (x :: r).map fun x => (x.1, x.2.1, x.2.2 + (k : Int)) := endR_idle _ k
    rw [e] at hst
    have h1 := hst.2 (x.1, x.2.1, x.2.2 + (k : Int)) (by simp)
    have h2 := watchB_ok hw x (by simp)
    unfold okR at h2
    simp only at h1
    omega
def SpPost (h : Int) (xs : List Rk) (c : Int) (e : Ending) : Prop := (c ≠ 0 ∧ e = .returned (.tuple #[.int .i64 0, .int .i64 c])) ∨ (c = 0 ∧ xs = [] ∧ e = .returned (.tuple #[.int .i64 0, .int .i64 6])) ∨ (c = 0 ∧ xs ≠ [] ∧ ∃ n : Nat, SpareIs h xs n ∧ e = .returned (.tuple #[.int .i64 n, .int .i64 0]))
set_option maxRecDepth 100000 in
set_option maxHeartbeats 8000000 in
theorem spareP_v (h : Int) (xs : List Rk) (u : Value) (w : World) (hT : TabR w) (hu : RL xs u w) (c : Int) (hc : Hid (goE h xs = c)) :
    Calls Tryd.prog 53 #[.agg #[.int .i64 h, u]] w fun e w' => SpPost h xs c e ∧ Below w.heap.size w w' := by
  have HU := Lib.hid hu
  obtain ⟨p, cp, rfl, _, _⟩ := hu
  have KB : Free.Bel w (w.alloc (.cells #[.int .i64 h, .slice p xs.length cp] 24)) := belAlloc _ _
  have m0 : ((w.alloc (.cells #[.int .i64 h, .slice p xs.length cp] 24))).heap[w.heap.size]? = some (.cells #[.int .i64 h, .slice p xs.length cp] 24 (0, 0)) := World.alloc_heap_new w _
  have FA : ∀ W, Free.Bel (w.alloc (.cells #[.int .i64 h, .slice p xs.length cp] 24)) W → W.cell? ⟨w.heap.size, 0, none⟩ = some (.int .i64 h) ∧ W.cell? ⟨w.heap.size, 1, none⟩ = some (.slice p xs.length cp) := fun W hW => ⟨keepsB hW (cell_of_heap m0 rfl), keepsB hW (cell_of_heap m0 rfl)⟩
  have KE : Free.Bel (w.alloc (.cells #[.int .i64 h, .slice p xs.length cp] 24)) (w.alloc (.cells #[.int .i64 h, .slice p xs.length cp] 24)) := Free.Bel.refl _
  have HKB := Lib.hid (And.intro KB m0)
  have HGO := Lib.hid (going_v h xs _ (w.alloc (.cells #[.int .i64 h, .slice p xs.length cp] 24)) (hT.bel KB) (HU.out.keeps KB) c hc)
  by_cases hc0 : c = 0
  · subst hc0
    have hwe : watchB h xs = true ∧ everB h xs = true := by
      have := hc.out
      unfold goE at this
      cases hw : watchB h xs with
      | false => rw [hw] at this; simp at this
      | true =>
        cases he : everB h xs with
        | false => rw [hw, he] at this; simp at this
        | true => exact ⟨rfl, rfl⟩
    have HWE := Lib.hid hwe
    have hl4 := (watchB_iff.1 hwe.1).2.1
    clear hT m0 hc hwe
    go_enter Tryd.func53, Tryd.ntmps53
    go_wp2_with fail
    refine HGO.out.mono ?_
    rintro e w1 ⟨hG, hB1⟩
    obtain ⟨yb, gb, v0, dv, L, rfl, hye, hy1, hy2⟩ : ∃ yb gb u dv L, e = .returned (.tuple #[.pointer (some ⟨yb, 0, none⟩), .int .i64 0]) ∧ YE yb gb h xs u dv L w1 ∧ ((w.alloc (.cells #[.int .i64 h, .slice p xs.length cp] 24))).heap.size ≤ yb ∧ ((w.alloc (.cells #[.int .i64 h, .slice p xs.length cp] 24))).heap.size ≤ gb := by
      rcases hG with ⟨h9, _⟩ | ⟨_, h9⟩
      · exact absurd rfl h9
      · exact h9
    have K1 : Free.Bel (w.alloc (.cells #[.int .i64 h, .slice p xs.length cp] 24)) w1 := hB1
    have HYE := Lib.hid hye
    have HB1 := Lib.hid (bt HKB.out.1 K1)
    clear hG hB1 hye hy1 hy2
    by_cases hne : xs = []
    · have hl0 : ((xs.length : Int) == 0) = true := by rw [hne]; rfl
      have HNE := Lib.hid hne
      clear hne
      go_wp2_with fail
      go_ret2
      exact ⟨.inr (.inl ⟨rfl, HNE.out, rfl⟩), HB1.out⟩
    · have hl0 : ((xs.length : Int) == 0) = false := by
        have : xs.length ≠ 0 := fun e => hne (List.eq_nil_of_length_eq_zero e)
        simp only [beq_eq_false_iff_ne, ne_eq]; omega
      have HNE := Lib.hid hne
      have HST := Lib.hid (st_self HWE.out.1)
      clear hne
      go_wp2_with fail
      refine (now_any yb xs v0 w1 HYE.out.yw.c1 HYE.out.yw.rl hl4).mono ?_
      rintro e w2 ⟨rfl, hB2⟩
      have K2 : Free.Bel w1 w2 := hB2
      have KS : Free.Bel w2 (w2.alloc (.cells (arrV (waits xs)) 109)) := belAlloc _ _
      have mS : (w2.alloc (.cells (arrV (waits xs)) 109)).heap[w2.heap.size]? = some (.cells (arrV (waits xs)) 109 (0, 0)) := World.alloc_heap_new w2 _
      have HI := Lib.hid (And.intro (bt K2 KS) (And.intro mS K2.size))
      clear hB2 K2 KS mS FA KE KB K1 hl0
      go_wp2_with fail
      go_loopw [6, 7] (fun n s wr => ∃ (k g : Nat), n = .int .i64 k ∧ s = .pointer (some ⟨g, 0, none⟩) ∧ Free.Bel w1 wr ∧ wr.heap[g]? = some (.cells (arrV (waits (idle xs k))) 109 (0, 0)) ∧ w1.heap.size ≤ g ∧ Hid (∀ j, 0 < j → j ≤ k → idleOk h xs j)) (fun n _ _ => 7 - (intOf n).toNat)
      case atStart => exact ⟨0, w2.heap.size, rfl, rfl, HI.out.1, HI.out.2.1, HI.out.2.2, fun j h0 hj => by omega⟩
      case round =>
        obtain ⟨k, g, rfl, rfl, hK, hg, hgn, HOK⟩ := hrel
        have hst := idle_st HWE.out.1 k HOK.out
        have hk6 := idle_small HWE.out.1 HNE.out k HOK.out
        have hkw : IntKind.i64.wrap ((k : Int) + 1) = (k : Int) + 1 := IntWalk.i64_in _ (by omega)
        have hS6 : ∀ x ∈ xs, x.2.1 ≤ 6 := fun x hx => (watchB_ok HWE.out.1 x hx).2.2.2.1
        have hSb := waits_st hst hS6
        have hnx : nextS (waits (idle xs k)) (fun _ => false) xs.length = waits (idle xs (k + 1)) := by
          rw [idle_succ, ← waits_next, tset_nil, hst.1.length]
        have hY := HYE.out.bel hK
        have haf := after_any yb xs (waits (idle xs k)) (fun _ => false) v0 wr hY.yw.c1 hY.yw.rl hl4 hSb
        rw [hnx] at haf
        have hhot : (hotL (waits (idle xs (k + 1))) xs xs.length).isEmpty = coolB (idle xs (k + 1)) := hot_cool (by rw [idle_succ]; exact hst.1.day [])
        obtain ⟨al, hal⟩ : ∃ y, hotL (waits (idle xs (k + 1))) xs xs.length = y := ⟨_, rfl⟩
        have hall : al.length ≤ 4 := by rw [← hal]; exact Nat.le_trans (hotL_length _ _ _) hl4
        rw [hal] at haf hhot
        obtain ⟨S, hS⟩ : ∃ y, waits (idle xs k) = y := ⟨_, rfl⟩
        obtain ⟨RS, hRS⟩ : ∃ y, waits (idle xs (k + 1)) = y := ⟨_, rfl⟩
        rw [hS, hRS] at haf
        rw [hS] at hg
        obtain ⟨z0, z1, z2, z3, _⟩ := cells4 hg
        have HAF := Lib.hid haf
        have HSS := Lib.hid (And.intro hS (And.intro hRS (And.intro hhot hst)))
        have HKG := Lib.hid (And.intro hK (And.intro hg hgn))
        clear hst hS6 hSb hnx hY haf hhot hal hS hRS hK hg hgn
        go_wp2_with fail
        refine HAF.out.mono ?_
        rintro e w4 ⟨⟨v, rfl, hrow⟩, hB4⟩
        obtain ⟨pv, cv, rfl⟩ := row_slice hrow
        have K4 : Free.Bel wr w4 := hB4
        have mN : (w4.alloc (.cells (arrV RS) 109)).heap[w4.heap.size]? = some (.cells (arrV RS) 109 (0, 0)) := World.alloc_heap_new w4 _
        have KN : Free.Bel w4 (w4.alloc (.cells (arrV RS) 109)) := belAlloc _ _
        have HK5 := Lib.hid (And.intro (bt HKG.out.1 (bt K4 KN)) (And.intro mN ((bt K4 KN).block _ (lt_of_heap HKG.out.2.1) |>.trans HKG.out.2.1)))
        clear hrow hB4 K4 mN KN z0 z1 z2 z3
        go_wp2_with fail
        generalize hw5 : (w4.alloc (.cells (arrV RS) 109)) = w5 at *
        clear hw5
        have hYb := Lib.hid (fun (W : World) (hW : Free.Bel w5 W) => HYE.out.bel (bt HK5.out.1 hW))
        cases al with
        | cons a0 ar =>
          have g0 : decide ((0 : Int) < (ar.length : Int) + 1) = true := decide_eq_true (by omega)
          have hF : ∀ W, Free.Bel w5.drew W → True := fun _ _ => trivial
          refine Free.wp_free (R := Free.Bel) (by kernel_rfl) (by kernel_rfl) Free.Bel.refl Free.Bel.trans ?_
          refine Free.Chain.ex ?_ [] [9] (by kernel_rfl) (by kernel_rfl) rfl Free.Bel.refl ?_ ?_
          rotate_left
          · (intro ev W hb hR hO hD; have hS := hF W hR; obtain ⟨hb1, hb2, hb3⟩ := hb; simp only [Free.AllDeps, Free.AllOuts, Free.At, al1, al2, al3, al4, al5, and_true] at hO hD; go_simp; rfl)
          simp only [an1, an2]
          refine Free.Chain.ex ?_ [(0, 35)] [] (by kernel_rfl) (by kernel_rfl) rfl Free.Bel.refl ?_ ?_
          rotate_left
          · (intro ev W hb hR hO hD; have hS := hF W hR; obtain ⟨hb1, hb2, hb3⟩ := hb; simp only [Free.AllDeps, Free.AllOuts, Free.At, al1, al2, al3, al4, al5, and_true] at hO hD; go_simp; rfl)
          simp only [an1, an2]
          refine Free.Chain.ex ?_ [(1, 36)] [] (by kernel_rfl) (by kernel_rfl) rfl Free.Bel.refl ?_ ?_
          rotate_left
          · (intro ev W hb hR hO hD; have hS := hF W hR; obtain ⟨hb1, hb2, hb3⟩ := hb; simp only [Free.AllDeps, Free.AllOuts, Free.At, al1, al2, al3, al4, al5, and_true] at hO hD; go_simp; rfl)
          simp only [an1, an2]
          refine Free.Chain.ex ?_ [(2, 37)] [] (by kernel_rfl) (by kernel_rfl) rfl Free.Bel.refl ?_ ?_
          rotate_left
          · (intro ev W hb hR hO hD; have hS := hF W hR; obtain ⟨hb1, hb2, hb3⟩ := hb; simp only [Free.AllDeps, Free.AllOuts, Free.At, al1, al2, al3, al4, al5, and_true] at hO hD; go_simp; rfl)
          simp only [an1, an2]
          refine Free.Chain.no [(3, 38)] [4] 3 false 38 (by kernel_rfl) (by kernel_rfl) rfl (by kernel_rfl) ?_ ?_
          · (intro ev W hR hD; simp only [Free.AllDeps, Free.At, List.getElem?_cons_succ, List.getElem?_cons_zero, and_true] at hD; simp [hD])
          simp only [an1, an2]
          refine Free.Chain.no [(4, 39), (3, 38)] [] 3 false 38 (by kernel_rfl) (by kernel_rfl) rfl (by kernel_rfl) ?_ ?_
          · (intro ev W hR hD; simp only [Free.AllDeps, Free.At, List.getElem?_cons_succ, List.getElem?_cons_zero, and_true] at hD; simp [hD])
          simp only [an1, an2]
          refine Free.Chain.no [(5, 40), (3, 38)] [] 3 false 38 (by kernel_rfl) (by kernel_rfl) rfl (by kernel_rfl) ?_ ?_
          · (intro ev W hR hD; simp only [Free.AllDeps, Free.At, List.getElem?_cons_succ, List.getElem?_cons_zero, and_true] at hD; simp [hD])
          simp only [an1, an2]
          refine Free.Chain.no [(6, 41), (3, 38)] [] 3 false 38 (by kernel_rfl) (by kernel_rfl) rfl (by kernel_rfl) ?_ ?_
          · (intro ev W hR hD; simp only [Free.AllDeps, Free.At, List.getElem?_cons_succ, List.getElem?_cons_zero, and_true] at hD; simp [hD])
          simp only [an1, an2]
          refine Free.Chain.no [(3, 38)] [8] 3 false 38 (by kernel_rfl) (by kernel_rfl) rfl (by kernel_rfl) ?_ ?_
          · (intro ev W hR hD; simp only [Free.AllDeps, Free.At, List.getElem?_cons_succ, List.getElem?_cons_zero, and_true] at hD; simp [hD])
          simp only [an1, an2]
          refine Free.Chain.no [(7, 42), (8, 43), (3, 38)] [] 3 false 38 (by kernel_rfl) (by kernel_rfl) rfl (by kernel_rfl) ?_ ?_
          · (intro ev W hR hD; simp only [Free.AllDeps, Free.At, List.getElem?_cons_succ, List.getElem?_cons_zero, and_true] at hD; simp [hD])
          simp only [an1, an2]
          refine Free.Chain.no [(9, 44), (3, 38)] [] 3 false 38 (by kernel_rfl) (by kernel_rfl) rfl (by kernel_rfl) ?_ ?_
          · (intro ev W hR hD; simp only [Free.AllDeps, Free.At, List.getElem?_cons_succ, List.getElem?_cons_zero, and_true] at hD; simp [hD])
          simp only [an1, an2]
          refine Free.Chain.ex ?_ [(3, 38), (10, 45)] [] (by kernel_rfl) (by kernel_rfl) rfl Free.Bel.refl ?_ ?_
          rotate_left
          · (intro ev W hb hR hO hD; have hS := hF W hR; obtain ⟨hb1, hb2, hb3⟩ := hb; simp only [Free.AllDeps, Free.AllOuts, Free.At, al1, al2, al3, al4, al5, and_true] at hO hD; go_simp; rfl)
          simp only [an1, an2]
          intro ys w6 hR hV
          simp only [Free.AllV, Free.At, List.length_cons, List.length_nil, Nat.reduceAdd, List.getElem?_cons_succ, List.getElem?_cons_zero, true_and, and_true] at hV
          simp only [Free.putsFrom, Act.put, Nat.zero_add, Nat.reduceAdd, hV, List.setIfInBounds_toArray, List.set_cons_succ, List.set_cons_zero]
          have K6 : Free.Bel w5 w6 := bt (Bel.drewT (Free.Bel.refl _)) hR
          have HB6 := Lib.hid (bt HB1.out (bt HK5.out.1 K6))
          clear hR hV hF K6
          go_wp2_with fail
          go_ret2
          refine ⟨.inr (.inr ⟨rfl, HNE.out, k, ⟨HOK.out, fun hok => ?_⟩, rfl⟩), HB6.out⟩
          have h9 : coolB (idle xs (k + 1)) = true := hok.1
          rw [← HSS.out.2.2.1] at h9
          simp at h9
        | nil =>
          have hcool : coolB (idle xs (k + 1)) = true := by rw [← HSS.out.2.2.1]; rfl
          have hst1 : StOf xs (idle xs (k + 1)) := by rw [idle_succ] at hcool ⊢; exact HSS.out.2.2.2.day [] hcool
          obtain ⟨r, hr⟩ : ∃ r, everB h (idle xs (k + 1)) = r := ⟨_, rfl⟩
          have hF : ∀ W, Free.Bel w5.drew W → (W.cell? ⟨yb, 2, none⟩ = some (.map (some gb)) ∧ W.cell? ⟨w4.heap.size, 0, none⟩ = some (.int .i64 (RS 0)) ∧ W.cell? ⟨w4.heap.size, 1, none⟩ = some (.int .i64 (RS 1)) ∧ W.cell? ⟨w4.heap.size, 2, none⟩ = some (.int .i64 (RS 2)) ∧ W.cell? ⟨w4.heap.size, 3, none⟩ = some (.int .i64 (RS 3)) ∧ (Instr.lookup 139 (.map (some gb)) (.agg #[.int .i64 (RS 0), .int .i64 (RS 1), .int .i64 (RS 2), .int .i64 (RS 3)]) false).run Tryd.prog W = .ok (.bool r) W) := fun W hW => by
            have K6 : Free.Bel w5 W := bt (Bel.drewT (Free.Bel.refl _)) hW
            have hY := hYb.out W K6
            have hl := hY.has hl4 hst1
            rw [HSS.out.2.1, hr] at hl
            exact ⟨hY.yw.c2, keepsB K6 (cell_of_heap HK5.out.2.1 rfl), keepsB K6 (cell_of_heap HK5.out.2.1 rfl), keepsB K6 (cell_of_heap HK5.out.2.1 rfl), keepsB K6 (cell_of_heap HK5.out.2.1 rfl), hl⟩
          have HCS := Lib.hid (And.intro hcool (And.intro hst1 hr))
          clear hcool hst1 hr
          refine Free.wp_free (R := Free.Bel) (by kernel_rfl) (by kernel_rfl) Free.Bel.refl Free.Bel.trans ?_
          refine Free.Chain.ex ?_ [] [9] (by kernel_rfl) (by kernel_rfl) rfl Free.Bel.refl ?_ ?_
          rotate_left
          · (intro ev W hb hR hO hD; have hS := hF W hR; obtain ⟨hb1, hb2, hb3⟩ := hb; simp only [Free.AllDeps, Free.AllOuts, Free.At, al1, al2, al3, al4, al5, and_true] at hO hD; go_simp; rfl)
          simp only [an1, an2]
          refine Free.Chain.ex ?_ [(0, 35)] [] (by kernel_rfl) (by kernel_rfl) rfl Free.Bel.refl ?_ ?_
          rotate_left
          · (intro ev W hb hR hO hD; have hS := hF W hR; obtain ⟨hb1, hb2, hb3⟩ := hb; simp only [Free.AllDeps, Free.AllOuts, Free.At, al1, al2, al3, al4, al5, and_true] at hO hD; go_simp; rfl)
          simp only [an1, an2]
          refine Free.Chain.ex ?_ [(1, 36)] [] (by kernel_rfl) (by kernel_rfl) rfl Free.Bel.refl ?_ ?_
          rotate_left
          · (intro ev W hb hR hO hD; have hS := hF W hR; obtain ⟨hb1, hb2, hb3⟩ := hb; simp only [Free.AllDeps, Free.AllOuts, Free.At, al1, al2, al3, al4, al5, and_true] at hO hD; go_simp; rfl)
          simp only [an1, an2]
          refine Free.Chain.ex ?_ [(2, 37)] [] (by kernel_rfl) (by kernel_rfl) rfl Free.Bel.refl ?_ ?_
          rotate_left
          · (intro ev W hb hR hO hD; have hS := hF W hR; obtain ⟨hb1, hb2, hb3⟩ := hb; simp only [Free.AllDeps, Free.AllOuts, Free.At, al1, al2, al3, al4, al5, and_true] at hO hD; go_simp; rfl)
          simp only [an1, an2]
          refine Free.Chain.exG ?_ [(3, 38)] [4] 3 false 38 (by kernel_rfl) (by kernel_rfl) rfl (by kernel_rfl) Free.Bel.refl ?_ ?_
          rotate_left
          · (intro ev W hb hR hO hD; have hS := hF W hR; obtain ⟨hb1, hb2, hb3⟩ := hb; simp only [Free.AllDeps, Free.AllOuts, Free.At, al1, al2, al3, al4, al5, and_true] at hO hD; refine ⟨by simp [hD], ?_⟩; go_simp; rfl)
          simp only [an1, an2]
          refine Free.Chain.exG ?_ [(4, 39), (3, 38)] [] 3 false 38 (by kernel_rfl) (by kernel_rfl) rfl (by kernel_rfl) Free.Bel.refl ?_ ?_
          rotate_left
          · (intro ev W hb hR hO hD; have hS := hF W hR; obtain ⟨hb1, hb2, hb3⟩ := hb; simp only [Free.AllDeps, Free.AllOuts, Free.At, al1, al2, al3, al4, al5, and_true] at hO hD; refine ⟨by simp [hD], ?_⟩; go_simp; rfl)
          simp only [an1, an2]
          refine Free.Chain.exG ?_ [(5, 40), (3, 38)] [] 3 false 38 (by kernel_rfl) (by kernel_rfl) rfl (by kernel_rfl) Free.Bel.refl ?_ ?_
          rotate_left
          · (intro ev W hb hR hO hD; have hS := hF W hR; obtain ⟨hb1, hb2, hb3⟩ := hb; simp only [Free.AllDeps, Free.AllOuts, Free.At, al1, al2, al3, al4, al5, and_true] at hO hD; refine ⟨by simp [hD], ?_⟩; go_simp; rfl)
          simp only [an1, an2]
          refine Free.Chain.exG ?_ [(6, 41), (3, 38)] [] 3 false 38 (by kernel_rfl) (by kernel_rfl) rfl (by kernel_rfl) Free.Bel.refl ?_ ?_
          rotate_left
          · (intro ev W hb hR hO hD; have hS := hF W hR; obtain ⟨hb1, hb2, hb3⟩ := hb; simp only [Free.AllDeps, Free.AllOuts, Free.At, al1, al2, al3, al4, al5, and_true] at hO hD; refine ⟨by simp [hD], ?_⟩; go_simp; rfl)
          simp only [an1, an2]
          refine Free.Chain.exG ?_ [(3, 38)] [8] 3 false 38 (by kernel_rfl) (by kernel_rfl) rfl (by kernel_rfl) Free.Bel.refl ?_ ?_
          rotate_left
          · (intro ev W hb hR hO hD; have hS := hF W hR; obtain ⟨hb1, hb2, hb3⟩ := hb; simp only [Free.AllDeps, Free.AllOuts, Free.At, al1, al2, al3, al4, al5, and_true] at hO hD; refine ⟨by simp [hD], ?_⟩; go_simp; rfl)
          simp only [an1, an2]
          refine Free.Chain.exG ?_ [(7, 42), (8, 43), (3, 38)] [] 3 false 38 (by kernel_rfl) (by kernel_rfl) rfl (by kernel_rfl) Free.Bel.refl ?_ ?_
          rotate_left
          · (intro ev W hb hR hO hD; have hS := hF W hR; obtain ⟨hb1, hb2, hb3⟩ := hb; simp only [Free.AllDeps, Free.AllOuts, Free.At, al1, al2, al3, al4, al5, and_true] at hO hD; refine ⟨by simp [hD], ?_⟩; go_simp; rfl)
          simp only [an1, an2]
          refine Free.Chain.exG ?_ [(9, 44), (3, 38)] [] 3 false 38 (by kernel_rfl) (by kernel_rfl) rfl (by kernel_rfl) Free.Bel.refl ?_ ?_
          rotate_left
          · (intro ev W hb hR hO hD; have hS := hF W hR; obtain ⟨hb1, hb2, hb3⟩ := hb; simp only [Free.AllDeps, Free.AllOuts, Free.At, al1, al2, al3, al4, al5, and_true] at hO hD; refine ⟨by simp [hD], ?_⟩; go_simp; rfl)
          simp only [an1, an2]
          refine Free.Chain.ex ?_ [(3, 38), (10, 45)] [] (by kernel_rfl) (by kernel_rfl) rfl Free.Bel.refl ?_ ?_
          rotate_left
          · (intro ev W hb hR hO hD; have hS := hF W hR; obtain ⟨hb1, hb2, hb3⟩ := hb; simp only [Free.AllDeps, Free.AllOuts, Free.At, al1, al2, al3, al4, al5, and_true] at hO hD; go_simp; rfl)
          simp only [an1, an2]
          intro ys w6 hR hV
          simp only [Free.AllV, Free.At, List.length_cons, List.length_nil, Nat.reduceAdd, List.getElem?_cons_succ, List.getElem?_cons_zero, true_and, and_true] at hV
          simp only [Free.putsFrom, Act.put, Nat.zero_add, Nat.reduceAdd, hV, List.setIfInBounds_toArray, List.set_cons_succ, List.set_cons_zero]
          have K6 : Free.Bel w5 w6 := bt (Bel.drewT (Free.Bel.refl _)) hR
          have q5 := (K6.block _ (lt_of_heap HK5.out.2.1)).trans HK5.out.2.1
          have q6 := (K6.block _ (lt_of_heap HK5.out.2.2)).trans HK5.out.2.2
          have HQ := Lib.hid (And.intro (bt HK5.out.1 K6) (And.intro q5 q6))
          obtain ⟨y0, y1, y2, y3, _⟩ := cells4 q5
          obtain ⟨z0, z1, z2, z3, f0, f1, f2, f3⟩ := cells4 q6
          clear hR hV hF K6 q5 q6
          cases r with
          | false =>
            go_wp2_with fail
            go_ret2
            refine ⟨.inr (.inr ⟨rfl, HNE.out, k, ⟨HOK.out, fun hok => ?_⟩, rfl⟩), bt HB1.out HQ.out.1⟩
            have h9 : everB h (idle xs (k + 1)) = true := hok.2
            rw [HCS.out.2.2] at h9
            cases h9
          | true =>
            have HNX := Lib.hid (show Free.Bel w1 (((((w6.setCell ⟨g, 0, none⟩ (.int .i64 (RS 0))).setCell ⟨g, 1, none⟩ (.int .i64 (RS 1))).setCell ⟨g, 2, none⟩ (.int .i64 (RS 2))).setCell ⟨g, 3, none⟩ (.int .i64 (RS 3))).alloc (.cells (arrV RS) 109)) ∧ (((((w6.setCell ⟨g, 0, none⟩ (.int .i64 (RS 0))).setCell ⟨g, 1, none⟩ (.int .i64 (RS 1))).setCell ⟨g, 2, none⟩ (.int .i64 (RS 2))).setCell ⟨g, 3, none⟩ (.int .i64 (RS 3))).alloc (.cells (arrV RS) 109)).heap[w6.heap.size]? = some (.cells (arrV RS) 109 (0, 0)) from by
              have hg := HKG.out.2.2
              have h1 : Below w1.heap.size w1 ((((w6.setCell ⟨g, 0, none⟩ (.int .i64 (RS 0))).setCell ⟨g, 1, none⟩ (.int .i64 (RS 1))).setCell ⟨g, 2, none⟩ (.int .i64 (RS 2))).setCell ⟨g, 3, none⟩ (.int .i64 (RS 3))) := (((Below.setCell (show Below w1.heap.size w1 w6 from HQ.out.1) (by simpa using hg) _).setCell (by simpa using hg) _).setCell (by simpa using hg) _).setCell (by simpa using hg) _
              refine ⟨Below.trans h1 (Below.mono (belAlloc _ _) h1.size), ?_⟩
              have := World.alloc_heap_new ((((w6.setCell ⟨g, 0, none⟩ (.int .i64 (RS 0))).setCell ⟨g, 1, none⟩ (.int .i64 (RS 1))).setCell ⟨g, 2, none⟩ (.int .i64 (RS 2))).setCell ⟨g, 3, none⟩ (.int .i64 (RS 3))) (.cells (arrV RS) 109)
              simpa using this)
            go_wp2_with fail
            go_roundw
            case rel => exact ⟨k + 1, w6.heap.size, by go_num, rfl, HNX.out.1, by rw [HSS.out.2.1]; exact HNX.out.2, HQ.out.1.size, fun j h0 hj => by
              by_cases h9 : j ≤ k
              · exact HOK.out j h0 h9
              · obtain rfl : j = k + 1 := by omega
                exact ⟨HCS.out.1, HCS.out.2.2⟩⟩
            case measure => simp [intOf]; omega
  · have g0 : (c != 0) = true := by simp [hc0]
    have HC := Lib.hid hc0
    clear hT m0 hc hc0
    go_enter Tryd.func53, Tryd.ntmps53
    go_wp2_with fail
    refine HGO.out.mono ?_
    rintro e w1 ⟨hG, hB1⟩
    obtain rfl : e = .returned (.tuple #[.pointer none, .int .i64 c]) := by
      rcases hG with ⟨_, h9⟩ | ⟨h9, _⟩
      · exact h9
      · exact absurd h9 HC.out
    have HB := Lib.hid (bt HKB.out.1 hB1)
    clear hG hB1
    go_wp2_with fail
    go_ret2
    exact ⟨.inl ⟨HC.out, rfl⟩, HB.out⟩
end Go.Proofs.YtknpglgpkkhhiaaDoor

/- The share. -/
namespace Go.Proofs.YtknpglgpkkhhiaaDoor
set_option linter.unusedSimpArgs false
set_option linter.unusedVariables false
open Go.RowKit Go.Proofs.YtknpglgpkkhhiaaDoor.Free2 Go.Proofs.YtknpglgpkkhhiaaDoor.ML RR

def shareI (xs : List Rk) : Int := sumI (xs.map fun x => 60 / x.2.1)
def ShPost (h : Int) (xs : List Rk) (e : Ending) : Prop := (watchB h xs = false ∧ e = .returned (.tuple #[.agg #[.int .i64 0, .int .i64 0], .int .i64 70])) ∨ (watchB h xs = true ∧ e = .returned (.tuple #[partV (shareI xs).toNat 60, .int .i64 0]))
theorem share_step (n d S c E : Int) (h : n * 60 = S * d) (hE : c * E = 60) : (n * E + d) * 60 = (S + c) * (d * E) := by
  have h1 : (S + c) * (d * E) = S * d * E + c * E * d := by
    rw [Int.add_mul, Int.mul_assoc S d E, Int.mul_comm d E, ← Int.mul_assoc c E d]
  rw [h1, hE, ← h, Int.add_mul, Int.mul_right_comm n E 60, Int.mul_comm 60 d]
theorem share_bound (k : Nat) (n d E : Int) (h0 : 0 ≤ n) (hn : n ≤ k * 6 ^ k) (hd0 : 1 ≤ d) (hd : d ≤ 6 ^ k) (h1 : 1 ≤ E) (h6 : E ≤ 6) : 0 ≤ n * E + d ∧ n * E + d ≤ (k + 1 : Nat) * 6 ^ (k + 1) ∧ 1 ≤ d * E ∧ d * E ≤ 6 ^ (k + 1) ∧ 0 ≤ n * E := by
  have hP : (0 : Int) ≤ 6 ^ k := Int.pow_nonneg (by omega)
  have a1 : n * E ≤ (k * 6 ^ k) * 6 := Int.mul_le_mul hn h6 (by omega) (Int.mul_nonneg (by omega) hP)
  have a2 : d * E ≤ 6 ^ k * 6 := Int.mul_le_mul hd h6 (by omega) hP
  have a3 : 0 ≤ n * E := Int.mul_nonneg h0 (by omega)
  have a4 : 1 * 1 ≤ d * E := Int.mul_le_mul hd0 h1 (by omega) (by omega)
  have e1 : (6 : Int) ^ (k + 1) = 6 ^ k * 6 := Int.pow_succ 6 k
  have e2 : ((k + 1 : Nat) : Int) * 6 ^ (k + 1) = (k * 6 ^ k) * 6 + 6 ^ k * 6 := by
    rw [e1, Int.natCast_add, Int.add_mul, ← Int.mul_assoc]
    simp
  rw [e2, e1]
  generalize (k : Int) * 6 ^ k = M at *
  generalize (6 : Int) ^ k = P at *
  omega
theorem sixty {E : Int} (h1 : 1 ≤ E) (h6 : E ≤ 6) : (60 / E) * E = 60 := by
  rcases (show E = 1 ∨ E = 2 ∨ E = 3 ∨ E = 4 ∨ E = 5 ∨ E = 6 by omega) with rfl | rfl | rfl | rfl | rfl | rfl <;> decide
theorem sumI_append (a b : List Int) : sumI (a ++ b) = sumI a + sumI b := by
  induction a with
  | nil => simp [sumI]
  | cons x r ih => simp only [List.cons_append, sumI, ih]; omega
theorem pow6 {k : Nat} (h : k ≤ 4) : (6 : Int) ^ k ≤ 1296 ∧ (k : Int) * 6 ^ k ≤ 5184 := by
  rcases (show k = 0 ∨ k = 1 ∨ k = 2 ∨ k = 3 ∨ k = 4 by omega) with rfl | rfl | rfl | rfl | rfl <;> decide
theorem share_nonneg {h : Int} {xs : List Rk} (hw : watchB h xs = true) : 0 ≤ shareI xs := by
  have key : ∀ xs : List Rk, (∀ x ∈ xs, okR x) → 0 ≤ shareI xs := by
    intro xs
    induction xs with
    | nil => exact fun _ => Int.le_refl _
    | cons x r ih =>
      intro hx
      have h1 := ih fun y hy => hx y (by simp [hy])
      have h2 := hx x (by simp)
      unfold okR at h2
      have h3 : 0 ≤ 60 / x.2.1 := Int.ediv_nonneg (by omega) (by omega)
      unfold shareI at h1 ⊢
      simp only [List.map_cons, sumI]
      omega
  exact key xs (watchB_ok hw)
set_option maxRecDepth 100000 in
set_option maxHeartbeats 8000000 in
theorem shareP_any (h : Int) (xs : List Rk) (u : Value) (w : World) (hT : TabR w) (hu : RL xs u w) :
    Calls Tryd.prog 30 #[.agg #[.int .i64 h, u]] w fun e w' => ShPost h xs e ∧ Below w.heap.size w w' := by
  have HU := Lib.hid hu
  obtain ⟨p, cp, rfl, hm, hp⟩ := hu
  have HP := Lib.hid hp
  have KB : Free.Bel w ((w.alloc (.cells #[.int .i64 h, .slice p xs.length cp] 24)).alloc (.cells #[.int .i64 0, .int .i64 0] 51)) := bt (belAlloc _ _) (belAlloc _ _)
  have m0 : ((w.alloc (.cells #[.int .i64 h, .slice p xs.length cp] 24)).alloc (.cells #[.int .i64 0, .int .i64 0] 51)).heap[w.heap.size]? = some (.cells #[.int .i64 h, .slice p xs.length cp] 24 (0, 0)) := heap_old (World.alloc_heap_new w _)
  have m1 : ((w.alloc (.cells #[.int .i64 h, .slice p xs.length cp] 24)).alloc (.cells #[.int .i64 0, .int .i64 0] 51)).heap[w.heap.size + 1]? = some (.cells #[.int .i64 0, .int .i64 0] 51 (0, 0)) := by
    have := World.alloc_heap_new (w.alloc (.cells #[.int .i64 h, .slice p xs.length cp] 24)) (.cells #[.int .i64 0, .int .i64 0] 51)
    simpa using this
  have FA : ∀ W, Free.Bel ((w.alloc (.cells #[.int .i64 h, .slice p xs.length cp] 24)).alloc (.cells #[.int .i64 0, .int .i64 0] 51)) W → W.cell? ⟨w.heap.size, 0, none⟩ = some (.int .i64 h) ∧ W.cell? ⟨w.heap.size, 1, none⟩ = some (.slice p xs.length cp) := fun W hW => ⟨keepsB hW (cell_of_heap m0 rfl), keepsB hW (cell_of_heap m0 rfl)⟩
  have KE : Free.Bel ((w.alloc (.cells #[.int .i64 h, .slice p xs.length cp] 24)).alloc (.cells #[.int .i64 0, .int .i64 0] 51)) ((w.alloc (.cells #[.int .i64 h, .slice p xs.length cp] 24)).alloc (.cells #[.int .i64 0, .int .i64 0] 51)) := Free.Bel.refl _
  have HCK := Lib.hid (fun c hc => checkP_v h xs _ ((w.alloc (.cells #[.int .i64 h, .slice p xs.length cp] 24)).alloc (.cells #[.int .i64 0, .int .i64 0] 51)) (hT.bel KB) (HU.out.keeps KB) c hc)
  have HKB := Lib.hid (And.intro KB m1)
  cases hw : watchB h xs with
  | false =>
    have HC := Lib.hid (HCK.out 70 (by show _ = _; simp [hw]))
    have HW0 := Lib.hid hw
    clear hT m0 m1 hw HCK hp
    go_enter Tryd.func30, Tryd.ntmps30
    go_wp2_with fail
    refine HC.out.mono ?_
    rintro e w1 ⟨rfl, hB1⟩
    have K1 : Free.Bel ((w.alloc (.cells #[.int .i64 h, .slice p xs.length cp] 24)).alloc (.cells #[.int .i64 0, .int .i64 0] 51)) w1 := hB1
    have n1 := (K1.block _ (lt_of_heap HKB.out.2)).trans HKB.out.2
    have y0 := cell_of_heap (o := 0) n1 rfl
    have y1 := cell_of_heap (o := 1) n1 rfl
    have f0 := frozen_of_heap (o := 0) n1
    have f1 := frozen_of_heap (o := 1) n1
    have HB := Lib.hid (bt KB K1)
    clear hB1 n1
    go_wp2_with fail
    exact bodyPost_ret (v := .tuple #[.agg #[.int .i64 0, .int .i64 0], .int .i64 70]) (by simp [results, Tryd.results30, go_sem, y0, y1]) rfl ⟨.inl ⟨HW0.out, rfl⟩, (HB.out.setCell (by simp) _).setCell (by simp) _⟩
  | true =>
    have HC := Lib.hid (HCK.out 0 (by show _ = _; simp [hw]))
    have hl4 := (watchB_iff.1 hw).2.1
    have HW := Lib.hid hw
    clear hT m0 m1 hw HCK hp
    go_enter Tryd.func30, Tryd.ntmps30
    go_wp2_with fail
    refine HC.out.mono ?_
    rintro e w1 ⟨rfl, hB1⟩
    have K1 : Free.Bel ((w.alloc (.cells #[.int .i64 h, .slice p xs.length cp] 24)).alloc (.cells #[.int .i64 0, .int .i64 0] 51)) w1 := hB1
    have HK1 := Lib.hid K1
    clear hB1
    go_wp2_with fail
    clear K1 KE FA KB
    go_loopw [18, 5, 6] (fun i n d wr => ∃ (k : Nat) (nv dv : Int), k ≤ xs.length ∧ i = .int .i64 k ∧ n = .int .i64 nv ∧ d = .int .i64 dv ∧ Free.Bel ((w.alloc (.cells #[.int .i64 h, .slice p xs.length cp] 24)).alloc (.cells #[.int .i64 0, .int .i64 0] 51)) wr ∧ 0 ≤ nv ∧ nv ≤ k * 6 ^ k ∧ 1 ≤ dv ∧ dv ≤ 6 ^ k ∧ Hid (nv * 60 = shareI (xs.take k) * dv)) (fun i _ _ _ => xs.length - (intOf i).toNat)
    case atStart => exact ⟨0, 0, 1, Nat.zero_le _, rfl, rfl, rfl, HK1.out, by omega, by decide, by omega, by decide, (show (0 : Int) * 60 = shareI (xs.take 0) * 1 by simp [shareI, sumI])⟩
    case round =>
      obtain ⟨k, nv, dv, hk, rfl, rfl, rfl, hK, h0, h1, h2, h3, HEQ⟩ := hrel
      by_cases hlt : k < xs.length
      · have hx : xs ≠ [] := by intro e; simp [e] at hlt
        obtain ⟨b, off, rfl, hcp⟩ := HP.out hx
        obtain ⟨d1, d2, d3⟩ := hcp k hlt
        have e1 := keepsB (bt HKB.out.1 hK) d1
        have e2 := keepsB (bt HKB.out.1 hK) d2
        have e3 := keepsB (bt HKB.out.1 hK) d3
        have hklt : (k : Int) < xs.length := by omega
        have hok := watchB_ok HW.out xs[k] (List.getElem_mem hlt)
        unfold okR at hok
        have htk : Hid (shareI (xs.take (k + 1)) = shareI (xs.take k) + 60 / xs[k].2.1) := by
          show _ = _
          rw [List.take_succ_eq_append_getElem hlt, shareI, List.map_append, sumI_append]
          simp [shareI, sumI]
        obtain ⟨b1, b2, b3, b4, b5⟩ := share_bound k nv dv xs[k].2.1 h0 h1 h2 h3 hok.2.2.1 hok.2.2.2.1
        obtain ⟨p1, p2⟩ := pow6 (show k + 1 ≤ 4 by omega)
        obtain ⟨p3, p4⟩ := pow6 (show k ≤ 4 by omega)
        have hb3 : 1 ≤ dv * xs[k].2.1 := b3
        have HB := Lib.hid (And.intro b1 (And.intro b2 (And.intro b3 b4)))
        have hd9 : dv ≤ 1296 := by omega
        have hn9 : nv ≤ 5184 := by omega
        have hs9 : nv * xs[k].2.1 + dv ≤ 5184 := Int.le_trans b2 p2
        have hm9 : dv * xs[k].2.1 ≤ 1296 := Int.le_trans b4 p1
        clear hcp hx d1 d2 d3 b2 b4 p1 p2 p3 p4 h1 h3
        have HSX := Lib.hid (sixty hok.2.2.1 hok.2.2.2.1)
        generalize xs[k] = x at *
        obtain ⟨x1, x2, x3⟩ := x
        simp only at *
        have hw1 : IntKind.i64.wrap (nv * x2) = nv * x2 := IntWalk.i64_in _ (by omega)
        have hw2 : IntKind.i64.wrap (nv * x2 + dv) = nv * x2 + dv := IntWalk.i64_in _ (by omega)
        have hw3 : IntKind.i64.wrap (dv * x2) = dv * x2 := IntWalk.i64_in _ (by omega)
        have hkw : IntKind.i64.wrap ((k : Int) + 1) = (k : Int) + 1 := IntWalk.i64_in _ (by omega)
        have KA : Free.Bel wr (wr.alloc (.cells #[.int .i64 x1, .int .i64 x2, .int .i64 x3] 47)) := belAlloc _ _
        have hx1 : (wr.alloc (.cells #[.int .i64 x1, .int .i64 x2, .int .i64 x3] 47)).cell? ⟨wr.heap.size, 1, none⟩ = some (.int .i64 x2) := by simp [go_sem]
        have HKA := Lib.hid (bt hK KA)
        go_wp2_with fail
        clear e1 e2 e3
        go_quiet (fail)
        go_wp2_with fail
        go_roundw
        case rel =>
          refine ⟨k + 1, nv * x2 + dv, dv * x2, by omega, by go_num, rfl, rfl, ?_, HB.out.1, HB.out.2.1, HB.out.2.2.1, HB.out.2.2.2, ?_⟩
          · exact bt HKA.out (belN _ _)
          · show _ = _
            rw [htk.out]
            exact share_step nv dv _ _ x2 HEQ.out HSX.out
        case measure => simp [intOf]; omega
      · obtain rfl : k = xs.length := by omega
        have hd9 := (pow6 (k := xs.length) (by omega))
        have hnn := share_nonneg HW.out
        rw [List.take_length] at HEQ
        have heq : partV nv.toNat dv.toNat = partV (shareI xs).toNat 60 := by
          have h9 : Samp.lowest nv.toNat dv.toNat = Samp.lowest (shareI xs).toNat 60 := by
            refine Samp.lowest_cross (by omega) (by decide) ?_
            have := HEQ.out
            obtain ⟨a, rfl⟩ := Int.eq_ofNat_of_zero_le h0
            obtain ⟨b, rfl⟩ := Int.eq_ofNat_of_zero_le (show 0 ≤ dv by omega)
            obtain ⟨s, hs⟩ := Int.eq_ofNat_of_zero_le hnn
            rw [hs] at this ⊢
            simp only [Int.toNat_natCast]
            exact_mod_cast this
          unfold partV
          rw [h9]
        have HPT := Lib.hid (part_int nv dv h0 (by omega) (by omega) (by omega) _ heq wr)
        have HK := Lib.hid hK
        clear hK hd9 hnn heq h1 h3
        go_wp2_with fail
        refine HPT.out.mono ?_
        rintro e w5 ⟨rfl, hB5⟩
        have K5 : Free.Bel ((w.alloc (.cells #[.int .i64 h, .slice p xs.length cp] 24)).alloc (.cells #[.int .i64 0, .int .i64 0] 51)) w5 := bt HK.out hB5
        have n1 := (K5.block _ (lt_of_heap HKB.out.2)).trans HKB.out.2
        have y0 := cell_of_heap (o := 0) n1 rfl
        have y1 := cell_of_heap (o := 1) n1 rfl
        have f0 := frozen_of_heap (o := 0) n1
        have f1 := frozen_of_heap (o := 1) n1
        have HB := Lib.hid (bt HKB.out.1 K5)
        obtain ⟨q1, hq1⟩ : ∃ y, ((Samp.lowest (shareI xs).toNat 60).1 : Int) = y := ⟨_, rfl⟩
        obtain ⟨q2, hq2⟩ : ∃ y, ((Samp.lowest (shareI xs).toNat 60).2 : Int) = y := ⟨_, rfl⟩
        have hpv : partV (shareI xs).toNat 60 = .agg #[.int .i64 q1, .int .i64 q2] := by unfold partV; rw [hq1, hq2]
        have HPV := Lib.hid hpv
        rw [hpv]
        clear hB5 n1 hpv hq1 hq2
        go_wp2_with fail
        exact bodyPost_ret (v := .tuple #[.agg #[.int .i64 q1, .int .i64 q2], .int .i64 0]) (by simp [results, Tryd.results30, go_sem, y0, y1]) rfl ⟨.inr ⟨HW.out, by rw [HPV.out]⟩, (HB.out.setCell (by simp) _).setCell (by simp) _⟩
end Go.Proofs.YtknpglgpkkhhiaaDoor

/- The program's Hot, After. -/
namespace Go.Proofs.YtknpglgpkkhhiaaDoor
set_option linter.unusedSimpArgs false
set_option linter.unusedVariables false
open Go.RowKit Go.Proofs.YtknpglgpkkhhiaaDoor.Free2

/-- What the program's played returns, in one form. -/
theorem PlayedP.one {h : Int} {xs : List Rk} {ds : List (List Int)} {e : Ending} {w' : World} (H : PlayedP h xs ds e w') :
    ∃ (pt : Option Addr) (S : Nat → Int) (p4 : Option Addr) (n4 c4 : Nat), e = .returned (.tuple #[.pointer pt, stV S, .slice p4 n4 c4, .int .i64 (askE h xs ds)]) ∧ n4 = (hotOut h xs ds).length ∧ PL (hotOut h xs ds) (.slice p4 n4 c4) w' ∧ (askE h xs ds = 0 → S = waits (endR xs ds)) := by
  rcases H with ⟨h1, S, rfl⟩ | ⟨h1, h2, S, rfl⟩ | ⟨h1, h2, yb, v, rfl, hpl⟩
  · have ha : askE h xs ds = 70 := by simp [askE, h1]
    have hh : hotOut h xs ds = [] := by rw [hotOut, if_neg (by rw [ha]; decide)]
    rw [ha, hh]
    exact ⟨_, S, none, 0, 0, rfl, rfl, PL.nil _, fun h => by simp at h⟩
  · have ha : askE h xs ds = 72 := by simp [askE, h1, h2]
    have hh : hotOut h xs ds = [] := by rw [hotOut, if_neg (by rw [ha]; decide)]
    rw [ha, hh]
    exact ⟨_, S, none, 0, 0, rfl, rfl, PL.nil _, fun h => by simp at h⟩
  · have ha : askE h xs ds = 0 := by simp [askE, h1, h2]
    have hh : hotOut h xs ds = heatR 0 xs ds := by rw [hotOut, if_pos ha]
    rw [ha, hh]
    obtain ⟨p4, c4, rfl, h5, h6⟩ := hpl
    exact ⟨_, _, p4, _, c4, rfl, rfl, ⟨p4, c4, rfl, h5, h6⟩, fun _ => rfl⟩

set_option maxRecDepth 100000 in
set_option maxHeartbeats 4000000 in
theorem hotP_any (h : Int) (xs : List Rk) (ds : List (List Int)) (u v : Value) (w : World) (hT : TabR w) (hu : RL xs u w) (hv : DL ds v w) (hd : ds.length ≤ 1000) :
    Calls Tryd.prog 21 #[.agg #[.int .i64 h, u], v] w fun e w' => (∃ v2, e = .returned (.tuple #[v2, .int .i64 (askE h xs ds)]) ∧ PL (hotOut h xs ds) v2 w') ∧ Below w.heap.size w w' := by
  have HU := Lib.hid hu
  have HV := Lib.hid hv
  obtain ⟨p, cp, rfl, _, _⟩ := hu
  obtain ⟨q, cq, rfl, hm, _⟩ := hv
  have KB : Free.Bel w (w.alloc (.cells #[.int .i64 h, .slice p xs.length cp] 24)) := belAlloc _ _
  have HPL := Lib.hid (playedP_any h xs ds _ _ _ (hT.bel KB) (HU.out.keeps KB) (HV.out.keeps KB) hd)
  obtain ⟨c, hc0⟩ : ∃ c, askE h xs ds = c := ⟨_, rfl⟩
  obtain ⟨H9, hH9⟩ : ∃ x, hotOut h xs ds = x := ⟨_, rfl⟩
  rw [hc0, hH9]
  have HC := Lib.hid (And.intro hc0 hH9)
  clear hT hc0 hH9
  go_enter Tryd.func21, Tryd.ntmps21
  go_wp2_with fail
  refine HPL.out.mono ?_
  rintro e w1 ⟨hP, hB1⟩
  obtain ⟨pt, S, p4, n4, c4, rfl, hn4, hpl, _⟩ := hP.one
  rw [HC.out.1]
  rw [HC.out.2] at hpl hn4
  have HP4 := Lib.hid hpl
  clear hpl hn4 HPL hP
  go_wp2_with fail
  exact bodyPost_ret (v := .tuple #[.slice p4 n4 c4, .int .i64 c]) (by simp [results, Tryd.results21, go_sem]) rfl ⟨⟨_, rfl, HP4.out.keeps (belAlloc _ _)⟩, bt KB (bt hB1 (belAlloc _ _))⟩

def RowIs (base : Nat) (e : TypeId) (v : Value) (n : Nat) (xs : List Value) (W : World) : Prop := W.ownsRow base e 3 v n xs
theorem RowIs.kept {base : Nat} {e : TypeId} {v : Value} {n : Nat} {xs : List Value} : ∀ a b : World, Below a.heap.size a b → RowIs base e v n xs a → RowIs base e v n xs b := fun a b h k => bel_row k h
/-- The first k ricks with what they have waited behind, the rest ahead. -/
def mixW (zs xs : List Rk) (k : Nat) : List Rk := zs.take k ++ xs.drop k
theorem mixW_get {zs xs : List Rk} (hl : zs.length = xs.length) {k : Nat} (h : k < xs.length) (h' : k < (mixW zs xs k).length) : (mixW zs xs k)[k] = xs[k] := by
  have hm : min k zs.length = k := Nat.min_eq_left (by omega)
  simp [mixW, List.getElem_append, hm]
theorem mixW_length {zs xs : List Rk} (hl : zs.length = xs.length) {k : Nat} (h : k ≤ xs.length) : (mixW zs xs k).length = xs.length := by simp [mixW]; omega
theorem mixW_step {zs xs : List Rk} (hl : zs.length = xs.length) {k : Nat} (h : k < xs.length) : (mixW zs xs k).set k (zs[k]'(by omega)) = mixW zs xs (k + 1) := by
  unfold mixW
  rw [take_step zs k (by omega), List.append_assoc, List.set_append_right _ _ (by simp; omega)]
  have hm : min k zs.length = k := Nat.min_eq_left (by omega)
  rw [List.length_take, hm, Nat.sub_self, List.drop_eq_getElem_cons h]
  rfl
theorem mixW_set {zs xs : List Rk} (hl : zs.length = xs.length) {k : Nat} (h : k < xs.length) (h' : k < (mixW zs xs (k + 1)).length) : (mixW zs xs (k + 1))[k] = zs[k]'(by omega) ∧ (mixW zs xs (k + 1)).set k (zs[k]'(by omega)) = mixW zs xs (k + 1) := by
  have hm : min (k + 1) zs.length = k + 1 := Nat.min_eq_left (by omega)
  have hg : (mixW zs xs (k + 1))[k] = zs[k]'(by omega) := by simp [mixW, List.getElem_append, hm]
  exact ⟨hg, by rw [← hg]; exact List.set_getElem_self _⟩

set_option maxRecDepth 100000 in
set_option maxHeartbeats 16000000 in
theorem aftP_any (h : Int) (xs : List Rk) (ds : List (List Int)) (u v : Value) (w : World) (hT : TabR w) (hu : RL xs u w) (hz : NZ u) (hv : DL ds v w) (hd : ds.length ≤ 1000) :
    Calls Tryd.prog 23 #[.agg #[.int .i64 h, u], v] w fun e w' => (∃ v2, e = .returned (.tuple #[.agg #[.int .i64 (aftH h xs ds), v2], .int .i64 (aftE h xs ds)]) ∧ w'.ownsRow w.heap.size 47 3 v2 (aftL h xs ds).length (cellsR (aftL h xs ds))) ∧ Below w.heap.size w w' := by
  have HU := Lib.hid hu
  have HV := Lib.hid hv
  obtain ⟨p, cp, rfl, _, _⟩ := hu
  obtain ⟨q, cq, rfl, hm, _⟩ := hv
  have KB : Free.Bel w ((w.alloc (.cells #[.int .i64 h, .slice p xs.length cp] 24)).alloc (.cells #[.int .i64 0, .slice none 0 0] 24)) := Bel.allocT (Bel.allocT (Free.Bel.refl _) _) _
  have m0 : ((w.alloc (.cells #[.int .i64 h, .slice p xs.length cp] 24)).alloc (.cells #[.int .i64 0, .slice none 0 0] 24)).heap[w.heap.size]? = some (.cells #[.int .i64 h, .slice p xs.length cp] 24 (0, 0)) := heap_old (World.alloc_heap_new w _)
  have m1 : ((w.alloc (.cells #[.int .i64 h, .slice p xs.length cp] 24)).alloc (.cells #[.int .i64 0, .slice none 0 0] 24)).heap[w.heap.size + 1]? = some (.cells #[.int .i64 0, .slice none 0 0] 24 (0, 0)) := by
    have := World.alloc_heap_new (w.alloc (.cells #[.int .i64 h, .slice p xs.length cp] 24)) (.cells #[.int .i64 0, .slice none 0 0] 24)
    simpa using this
  have HPL := Lib.hid (playedP_any h xs ds _ _ _ (hT.bel KB) (HU.out.keeps KB) (HV.out.keeps KB) hd)
  have HM := Lib.hid (And.intro KB (And.intro m0 m1))
  have HNZ := Lib.hid hz
  obtain ⟨E, hE⟩ : ∃ x, aftE h xs ds = x := ⟨_, rfl⟩
  obtain ⟨Hh, hHh⟩ : ∃ x, aftH h xs ds = x := ⟨_, rfl⟩
  rw [hE, hHh]
  have HE := Lib.hid hE
  have HHh := Lib.hid hHh
  clear hT m0 m1 hz hE hHh
  go_enter Tryd.func23, Tryd.ntmps23
  go_wp2_with fail
  refine HPL.out.mono ?_
  rintro e w1 ⟨hP, hB1⟩
  obtain ⟨pt, S, p4, n4, c4, rfl, hn4, _, hS4⟩ := hP.one
  have HS4 := Lib.hid hS4
  have K1 : Free.Bel ((w.alloc (.cells #[.int .i64 h, .slice p xs.length cp] 24)).alloc (.cells #[.int .i64 0, .slice none 0 0] 24)) (w1.alloc (.cells (arrV S) 109)) := bt hB1 (belAlloc _ _)
  have hs7 : (w1.alloc (.cells (arrV S) 109)).heap[w1.heap.size]? = some (.cells (arrV S) 109 (0, 0)) := World.alloc_heap_new _ _
  have hb0 := (K1.block _ (lt_of_heap HM.out.2.1)).trans HM.out.2.1
  have hrz := (K1.block _ (lt_of_heap HM.out.2.2)).trans HM.out.2.2
  have b0 := cell_of_heap (o := 0) hb0 rfl
  have b1 := cell_of_heap (o := 1) hb0 rfl
  have b2 := frozen_of_heap (o := 1) hb0
  have z0 := cell_of_heap (o := 0) hrz rfl
  have z1 := cell_of_heap (o := 1) hrz rfl
  have z2 := frozen_of_heap (o := 0) hrz
  have z3 := frozen_of_heap (o := 1) hrz
  have HBW := Lib.hid (bt KB K1)
  have HRZ := Lib.hid hrz
  have HB0 := Lib.hid hb0
  have HS7 := Lib.hid hs7
  have HZ2 := Lib.hid (And.intro (two_stores (.int .i64 0) (.slice none 0 0) z0 z1) hn4)
  obtain ⟨c, hc0⟩ : ∃ c, askE h xs ds = c := ⟨_, rfl⟩
  have hc := Lib.hid hc0
  rw [hc0]
  clear hS4 hP HPL hB1 hn4 hs7 hb0 hrz hc0 K1 KB HM
  by_cases h0 : c = 0
  · have hask := hc.out
    rw [h0] at hask
    have hho : hotOut h xs ds = heatR 0 xs ds := if_pos hask
    by_cases hh : n4 = 0
    · have hem : (heatR 0 xs ds).isEmpty = true := by rw [List.isEmpty_iff]; exact List.eq_nil_of_length_eq_zero (by rw [← hho, ← HZ2.out.2]; exact hh)
      have hE : aftE h xs ds = 0 := by rw [aftE, if_pos hask, if_pos hem]
      have hH : aftH h xs ds = h := if_pos hE
      have HL : Hid (aftL h xs ds = endR xs ds) := if_pos hE
      have hwv := askE_zero.1 hask
      have HX4 := Lib.hid (watchB_iff.1 hwv.1).2.1
      obtain rfl : S = waits (endR xs ds) := HS4.out hask
      obtain rfl : E = 0 := HE.out.symm.trans hE
      obtain rfl : Hh = h := HHh.out.symm.trans hH
      subst h0 hh
      obtain ⟨zs, hzs⟩ : ∃ x, endR xs ds = x := ⟨_, rfl⟩
      have hzl : zs.length = xs.length := by rw [← hzs]; exact endR_length _ _
      have hkey : Hid (∀ k (h1 : k < xs.length) (h2 : k < zs.length), zs[k] = (xs[k].1, xs[k].2.1, waits zs k)) := by
        intro k h1 h2
        have h3 := endR_get xs ds k
        rw [hzs, List.getElem?_eq_getElem h2, List.getElem?_eq_getElem h1] at h3
        simp only [Option.map_some, Option.some.injEq] at h3
        have h4 := runW_keys xs[k] ds
        rw [← h3] at h4
        exact Prod.ext h4.1 (Prod.ext h4.2 (by rw [waits_lt zs k h2]))
      rw [hzs] at HL HS7 HBW HRZ HB0 b0 b1 b2 z0 z1 z2 z3 ⊢
      have HZS := Lib.hid hzs
      have HZL := Lib.hid hzl
      clear hem hE hH hwv hask hho hzs HS4 HZ2 hzl
      go_wp2_with fail
      generalize (w1.alloc _) = wa at *
      refine (clone_any xs _ wa (HU.out.keeps HBW.out) HNZ.out (by have := HX4.out; omega)).mono ?_
      rintro e w2 ⟨v2, rfl, hr2, hB2⟩
      obtain ⟨p2, c2, rfl⟩ := row_slice hr2
      have d0 := keepsB hB2 b0
      have d1 := keepsB hB2 b1
      have d2 := frozB hB2 b1 b2
      have hi : ∀ o, o = w2.setCell ⟨w.heap.size, 1, none⟩ (.slice p2 xs.length c2) → Below w.heap.size w o ∧ o.heap[w.heap.size]? = some (.cells #[.int .i64 Hh, .slice p2 xs.length c2] 24 (0, 0)) ∧ o.heap[w.heap.size + 1]? = some (.cells #[.int .i64 0, .slice none 0 0] 24 (0, 0)) ∧ o.heap[w1.heap.size]? = some (.cells (arrV (waits zs)) 109 (0, 0)) ∧ o.ownsRow wa.heap.size 47 3 (.slice p2 xs.length c2) xs.length (cellsR xs) := by
        intro o ho
        subst ho
        have hlt1 := lt_of_heap HS7.out
        have hlt2 := lt_of_heap HRZ.out
        have hw1 : w.heap.size ≠ w1.heap.size := by
          intro e
          have h9 := HS7.out
          have h8 := HB0.out
          rw [e, h9] at h8
          cases h8
        refine ⟨(show Below w.heap.size w w2 from bt HBW.out hB2).setCell (by simp) _, ?_, heap_other ((hB2.block _ hlt2).trans HRZ.out) (by simp), heap_other ((hB2.block _ hlt1).trans HS7.out) (by simpa using Ne.symm hw1), ownsRow_setCell_below hr2 (by simp; omega) _⟩
        have := heap_setCell_same (o := 1) (.slice p2 xs.length c2) ((hB2.block _ (lt_of_heap HB0.out)).trans HB0.out)
        simpa using this
      have HIH := Lib.hid hi
      clear hi hr2 hB2 b0 b1 b2 z0 z1 z2 z3
      go_wp2_with fail
      have hi2 := HIH.out _ rfl
      have HI2 := Lib.hid hi2
      clear hi2 HIH d0 d1 d2
      have q1 := cell_of_heap (o := 1) HI2.out.2.1 rfl
      generalize w2.setCell _ _ = w3 at *
      go_wp2_with fail
      clear q1
      go_loopw [36] (fun i wr => ∃ k : Nat, k ≤ xs.length ∧ i = .int .i64 k ∧ Below w.heap.size w wr ∧ wr.heap[w.heap.size]? = some (.cells #[.int .i64 Hh, .slice p2 xs.length c2] 24 (0, 0)) ∧ wr.heap[w.heap.size + 1]? = some (.cells #[.int .i64 0, .slice none 0 0] 24 (0, 0)) ∧ wr.heap[w1.heap.size]? = some (.cells (arrV (waits zs)) 109 (0, 0)) ∧ wr.ownsRow wa.heap.size 47 3 (.slice p2 xs.length c2) xs.length (cellsR (mixW zs xs k))) (fun i _ => xs.length - (intOf i).toNat)
      case atStart => exact ⟨0, Nat.zero_le _, rfl, HI2.out.1, HI2.out.2.1, HI2.out.2.2.1, HI2.out.2.2.2.1, by simpa [mixW] using HI2.out.2.2.2.2⟩
      case round =>
        obtain ⟨k, hk, rfl, hB, hb0, hrz, hs7, hrow⟩ := hrel
        have hlw0 := lt_of_heap HRZ.out
        have hlw1 := lt_of_heap HS7.out
        by_cases hlt : k < xs.length
        · have hklt : (k : Int) < xs.length := by omega
          have hk4 : (k : Int) < 4 := by have := HX4.out; omega
          have hk5 : k < 4 := by have := HX4.out; omega
          obtain ⟨g, hg1, hg2, hg3⟩ : ∃ g, p2 = some ⟨g, 0, none⟩ ∧ wa.heap.size ≤ g ∧ g < wr.heap.size := by
            rcases hrow.2 with ⟨_, h8⟩ | ⟨g, cap, cur, h8, hb8, hg8, _⟩
            · omega
            · simp only [Value.slice.injEq] at h8
              exact ⟨g, h8.1, hb8, lt_of_heap hg8⟩
          subst hg1
          have HALL := Lib.hid (And.intro hB (And.intro hb0 (And.intro hrz (And.intro hs7 hrow))))
          have e1 := cell_of_heap (o := 1) hb0 rfl
          have e2 := cell_of_heap (o := k) hs7 (arrV_get _ k hk5)
          clear hB hb0 hrz hs7 hrow
          go_wp2_with fail
          have hF : ∀ W, RS g (RowIs wa.heap.size 47 (.slice (some ⟨g, 0, none⟩) xs.length c2) xs.length (cellsR (mixW zs xs (k + 1)))) wr.drew W → (W.cell? ⟨w.heap.size, 1, none⟩ = some (.slice (some ⟨g, 0, none⟩) xs.length c2) ∧ W.cell? ⟨w1.heap.size, k, none⟩ = some (.int .i64 (waits zs k))) ∧ (W.ownsRow wa.heap.size 47 3 (.slice (some ⟨g, 0, none⟩) xs.length c2) xs.length (cellsR (mixW zs xs k)) ∨ RowIs wa.heap.size 47 (.slice (some ⟨g, 0, none⟩) xs.length c2) xs.length (cellsR (mixW zs xs (k + 1))) W) := fun W hW => by
            refine ⟨⟨hW.bx.cell (show wr.drew.cell? _ = _ from e1) (by simp; omega), hW.bx.cell (show wr.drew.cell? _ = _ from e2) (by simp; omega)⟩, ?_⟩
            rcases hW.now with e | e
            · exact .inl (bel_row (show wr.drew.ownsRow _ _ _ _ _ _ from HALL.out.2.2.2.2) (hW.bx.bel e))
            · exact .inr e
          refine Free.wp_free (R := RS g (RowIs wa.heap.size 47 (.slice (some ⟨g, 0, none⟩) xs.length c2) xs.length (cellsR (mixW zs xs (k + 1))))) (by kernel_rfl) (by kernel_rfl) (RS.refl _ _) (RS.trans RowIs.kept) ?_
          refine Free.Chain.ex ?_ [] [2] (by kernel_rfl) (by kernel_rfl) rfl (RS.refl _ _) ?_ ?_
          rotate_left
          · (intro ev W hb hR hO hD; have hS := hF W hR; obtain ⟨hb1, hb2, hb3⟩ := hb; simp only [Free.AllDeps, Free.AllOuts, Free.At, al1, al2, al3, al4, al5, and_true] at hO hD; obtain ⟨hS, hS2⟩ := hS; go_simp; rfl)
          simp only [an1, an2]
          refine Free.Chain.ex ?_ [(0, 39)] [] (by kernel_rfl) (by kernel_rfl) rfl (RS.refl _ _) ?_ ?_
          rotate_left
          · (intro ev W hb hR hO hD; have hS := hF W hR; obtain ⟨hb1, hb2, hb3⟩ := hb; simp only [Free.AllDeps, Free.AllOuts, Free.At, al1, al2, al3, al4, al5, and_true] at hO hD; obtain ⟨hS, hS2⟩ := hS; go_simp; rfl)
          simp only [an1, an2]
          refine Free.Chain.ex ?_ [] [10] (by kernel_rfl) (by kernel_rfl) rfl (RS.refl _ _) ?_ ?_
          rotate_left
          · (intro ev W hb hR hO hD; have hS := hF W hR; obtain ⟨hb1, hb2, hb3⟩ := hb; simp only [Free.AllDeps, Free.AllOuts, Free.At, al1, al2, al3, al4, al5, and_true] at hO hD; obtain ⟨hS, hS2⟩ := hS; go_simp; rfl)
          simp only [an1, an2]
          refine Free.Chain.ex ?_ [] [10] (by kernel_rfl) (by kernel_rfl) rfl (RS.refl _ _) ?_ ?_
          rotate_left
          · (intro ev W hb hR hO hD; have hS := hF W hR; obtain ⟨hb1, hb2, hb3⟩ := hb; simp only [Free.AllDeps, Free.AllOuts, Free.At, al1, al2, al3, al4, al5, and_true] at hO hD; obtain ⟨hS, hS2⟩ := hS; go_simp; rfl)
          simp only [an1, an2]
          refine Free.Chain.ex ?_ [(3, 42)] [7] (by kernel_rfl) (by kernel_rfl) rfl (RS.refl _ _) ?_ ?_
          rotate_left
          · (intro ev W hb hR hO hD; have hS := hF W hR; obtain ⟨hb1, hb2, hb3⟩ := hb; simp only [Free.AllDeps, Free.AllOuts, Free.At, al1, al2, al3, al4, al5, and_true] at hO hD; obtain ⟨hS, hS2⟩ := hS; go_simp; rfl)
          simp only [an1, an2]
          refine Free.Chain.ex ?_ [(4, 43)] [] (by kernel_rfl) (by kernel_rfl) rfl (RS.refl _ _) ?_ ?_
          rotate_left
          · (intro ev W hb hR hO hD; have hS := hF W hR; obtain ⟨hb1, hb2, hb3⟩ := hb; simp only [Free.AllDeps, Free.AllOuts, Free.At, al1, al2, al3, al4, al5, and_true] at hO hD; obtain ⟨hS, hS2⟩ := hS; go_simp; rfl)
          simp only [an1, an2]
          refine Free.Chain.ex ?_ [(1, 40), (2, 41), (0, 39), (1, 40), (2, 41), (3, 42), (4, 43), (5, 44)] [] (by kernel_rfl) (by kernel_rfl) rfl (RS.refl _ _) ?_ ?_
          rotate_left
          · (intro ev W hb hR hO hD; have hS := hF W hR; obtain ⟨hb1, hb2, hb3⟩ := hb; simp only [Free.AllDeps, Free.AllOuts, Free.At, al1, al2, al3, al4, al5, and_true] at hO hD; obtain ⟨hS, hS2⟩ := hS; go_simp; rfl)
          simp only [an1, an2]
          refine Free.Chain.ex ?_ [(6, 45), (0, 39), (1, 40), (2, 41), (3, 42), (4, 43), (5, 44)] [] (by kernel_rfl) (by kernel_rfl) rfl (RS.refl _ _) ?_ ?_
          rotate_left
          · (intro ev W hb hR hO hD; have hS := hF W hR; obtain ⟨hb1, hb2, hb3⟩ := hb; simp only [Free.AllDeps, Free.AllOuts, Free.At, al1, al2, al3, al4, al5, and_true] at hO hD; obtain ⟨hS, hS2⟩ := hS; go_simp; rfl)
          simp only [an1, an2]
          refine Free.Chain.pr (fun _ w1 => RowIs wa.heap.size 47 (.slice (some ⟨g, 0, none⟩) xs.length c2) xs.length (cellsR (mixW zs xs (k + 1))) w1) [(7, 46), (5, 44), (0, 39), (1, 40), (2, 41), (3, 42), (4, 43), (5, 44)] [] (by kernel_rfl) (by kernel_rfl) rfl (RS.stable RowIs.kept) ?_ ?_
          · (intro ev W hb hR hO hD; have hS := hF W hR; obtain ⟨hb1, hb2, hb3⟩ := hb; simp only [Free.AllDeps, Free.AllOuts, Free.At, al1, al2, al3, al4, al5, and_true] at hO hD; obtain ⟨hS, hS2⟩ := hS; have hml := mixW_length HZL.out (Nat.le_of_lt hlt); have hml2 := mixW_length HZL.out (show k + 1 ≤ xs.length from hlt); have hkm : k < (mixW zs xs k).length := (by omega); have hkm2 : k < (mixW zs xs (k + 1)).length := (by omega); have hke := hkey.out k hlt (by have := HZL.out; omega); have hph : RowIs wa.heap.size 47 (.slice (some ⟨g, 0, none⟩) xs.length c2) xs.length (cellsR (mixW zs xs (k + 1))) (W.setCell ⟨g, k * 3 + 2, none⟩ (.int .i64 (waits zs k))) ∧ W.cell? ⟨g, k * 3 + 2, none⟩ ≠ none ∧ W.frozen? ⟨g, k * 3 + 2, none⟩ = false := Or.elim hS2 (fun h9 => (by have h8 := rick_store h9 k hkm (waits zs k); rw [mixW_get HZL.out hlt hkm, ← hke, mixW_step HZL.out hlt] at h8; exact ⟨h8, by rw [(rick_row h9 hml k hkm).2.2.1]; simp, (rick_row h9 hml k hkm).2.2.2⟩)) (fun h9 => (by have h8 := rick_store h9 k hkm2 (waits zs k); rw [(mixW_set HZL.out hlt hkm2).1, hke] at h8; simp only at h8; rw [← hke, (mixW_set HZL.out hlt hkm2).2] at h8; exact ⟨h8, by rw [(rick_row h9 hml2 k hkm2).2.2.1]; simp, (rick_row h9 hml2 k hkm2).2.2.2⟩)); obtain ⟨hp1, hp2, hp3⟩ := hph; obtain ⟨v9, hv9⟩ := Option.ne_none_iff_exists'.1 hp2; go_simp; exact ⟨⟨BX.set, .inr hp1⟩, hp1⟩)
          simp only [an1, an2]
          intro ys w' hR hV
          simp only [Free.AllV, Free.At, List.length_cons, List.length_nil, Nat.reduceAdd, List.getElem?_cons_succ, List.getElem?_cons_zero, true_and] at hV
          simp only [Free.putsFrom, Act.put, Nat.zero_add, Nat.reduceAdd, hV, List.setIfInBounds_toArray, List.set_cons_succ, List.set_cons_zero]
          have HPH : Hid (RowIs wa.heap.size 47 (.slice (some ⟨g, 0, none⟩) xs.length c2) xs.length (cellsR (mixW zs xs (k + 1))) w') := hV.2
          have HBX := Lib.hid hR.bx
          clear hR hV hF e1 e2
          go_wp2_with fail
          go_roundw
          case rel => exact ⟨k + 1, by omega, by go_num, BX.below HALL.out.1.drew HBX.out HALL.out.1.size (by have := HALL.out.1.size; omega), (HBX.out.block _ (by have := lt_of_heap HALL.out.2.1; exact this) (by omega)).trans HALL.out.2.1, (HBX.out.block _ (by have := lt_of_heap HALL.out.2.2.1; exact this) (by omega)).trans HALL.out.2.2.1, (HBX.out.block _ (by have := lt_of_heap HALL.out.2.2.2.1; exact this) (by omega)).trans HALL.out.2.2.2.1, HPH.out⟩
          case measure => simp [intOf]; omega
        · obtain rfl : k = xs.length := by omega
          have hmx : mixW zs xs xs.length = zs := by simp [mixW, List.take_of_length_le (Nat.le_of_eq HZL.out)]
          rw [hmx] at hrow
          have e0 := cell_of_heap (o := 0) hb0 rfl
          have e1 := cell_of_heap (o := 1) hb0 rfl
          have z0 := cell_of_heap (o := 0) hrz rfl
          have z1 := cell_of_heap (o := 1) hrz rfl
          have z2 := frozen_of_heap (o := 0) hrz
          have z3 := frozen_of_heap (o := 1) hrz
          have HROW := Lib.hid hrow
          have HB9 := Lib.hid hB
          have hlw2 : w.heap.size + 1 < wa.heap.size := hlw0
          clear hrow hmx hb0 hrz hs7 hB
          go_wp2_with fail
          have hst := two_stores (.int .i64 Hh) (.slice p2 xs.length c2) z0 z1
          exact bodyPost_ret (v := .tuple #[.agg #[.int .i64 Hh, .slice p2 xs.length c2], .int .i64 0]) (by simp [results, Tryd.results23, go_sem, hst]) rfl ⟨⟨_, rfl, by
            rw [HL.out, HZL.out]
            exact row_mono (ownsRow_setCell_below (ownsRow_setCell_below HROW.out (by simp; omega) _) (by simp; omega) _) (by omega)⟩, (HB9.out.setCell (by simp) _).setCell (by simp) _⟩
    · have hem : ¬ (heatR 0 xs ds).isEmpty = true := by rw [List.isEmpty_iff, ← hho]; intro e; rw [e] at HZ2; exact hh HZ2.out.2
      have hE : aftE h xs ds = 73 := by rw [aftE, if_pos hask, if_neg hem]
      have hH : aftH h xs ds = 0 := if_neg (by rw [hE]; decide)
      have HL : Hid (aftL h xs ds = []) := if_neg (by rw [hE]; decide)
      have g0 : decide (0 < (n4 : Int)) = true := decide_eq_true (by omega)
      have g1 : 0 < n4 := by omega
      obtain rfl : E = 73 := HE.out.symm.trans hE
      obtain rfl : Hh = 0 := HHh.out.symm.trans hH
      subst h0
      clear hem hE hH hask hho hh
      go_wp2_with fail
      have hst := HZ2.out.1
      exact bodyPost_ret (v := .tuple #[.agg #[.int .i64 0, .slice none 0 0], .int .i64 73]) (by simp [results, Tryd.results23, go_sem, hst]) rfl ⟨⟨_, rfl, by rw [HL.out]; simpa [cellsR] using World.ownsRow_nil _ _ _ _⟩, (HBW.out.setCell (by simp) _).setCell (by simp) _⟩
  · have g0 : (c == 0) = false := by simp [h0]
    have hE : aftE h xs ds = c := by rw [aftE, if_neg (by rw [hc.out]; exact h0)]; exact hc.out
    have hH : aftH h xs ds = 0 := by rw [aftH, if_neg (by rw [hE]; exact h0)]
    have HL : Hid (aftL h xs ds = []) := if_neg (by rw [hE]; exact h0)
    obtain rfl : E = c := HE.out.symm.trans hE
    obtain rfl : Hh = 0 := HHh.out.symm.trans hH
    clear hE hH
    go_wp2_with fail
    have hst := HZ2.out.1
    exact bodyPost_ret (v := .tuple #[.agg #[.int .i64 0, .slice none 0 0], .int .i64 E]) (by simp [results, Tryd.results23, go_sem, hst]) rfl ⟨⟨_, rfl, by rw [HL.out]; simpa [cellsR] using World.ownsRow_nil _ _ _ _⟩, (HBW.out.setCell (by simp) _).setCell (by simp) _⟩
end Go.Proofs.YtknpglgpkkhhiaaDoor

/- The program's Repeats. -/
namespace Go.Proofs.YtknpglgpkkhhiaaDoor
set_option linter.unusedSimpArgs false
set_option linter.unusedVariables false
open Go.RowKit Go.Proofs.YtknpglgpkkhhiaaDoor.Free2

set_option maxRecDepth 100000 in
theorem eqS (S : Nat → Int) (W : World) : (binOp .eql 109 (stV S) (stV S)).run Tryd.prog W = .ok (.bool true) W := by
  rw [run_eql_struct]
  have hi : ∀ (i : Nat), i < 4 → ∀ W : World, (Op.equalIn 9999 3 (.int .i64 (S i)) (.int .i64 (S i))).run Tryd.prog W = .ok true W := fun i _ W => by
    rw [show (9999 : Nat) = 9998 + 1 from rfl, run_equalIn_int W 9998 3 .i64 .i64 _ _ Tryd.underlying3]; simp
  have hsz : ∀ W : World, (Go.sizeOf 3).run Tryd.prog W = .ok 1 W := fun W => by kernel_rfl
  have h0 := hi 0 (by omega)
  have h1 := hi 1 (by omega)
  have h2 := hi 2 (by omega)
  have h3 := hi 3 (by omega)
  rw [show (10000 : Nat) = 9999 + 1 from rfl]
  unfold Op.equalIn
  simp [go_sem, hsz, Std.Legacy.Range.forIn_eq_forIn_range', List.range', h0, h1, h2, h3]
theorem rep_cases {h : Int} {xs : List Rk} {ds : List (List Int)} (ha : askE h xs ds = 0) : repE h xs ds = (if ds.isEmpty = true then 72 else 0) ∧ (ds.isEmpty = true → repB h xs ds = false) ∧ (ds.isEmpty = false → repB h xs ds = repP xs ds) := by
  have hw := askE_zero.1 ha
  refine ⟨by rw [repE, if_pos ha], fun he => ?_, fun he => ?_⟩
  · rw [repB, repE, if_pos ha, if_pos he]; rfl
  · rw [repB, repE, if_pos ha, if_neg (by rw [he]; simp), repP_eq (watchB_ok hw.1) (by intro e; rw [e] at he; cases he)]
    rfl

set_option maxRecDepth 100000 in
set_option maxHeartbeats 16000000 in
theorem repP_v (h : Int) (xs : List Rk) (ds : List (List Int)) (u v : Value) (w : World) (hT : TabR w) (hu : RL xs u w) (hz : NZ u) (hv : DL ds v w) (hd : ds.length ≤ 1000) (c : Int) (r : Bool) (hcr : Hid (repE h xs ds = c ∧ repB h xs ds = r)) :
    Calls Tryd.prog 25 #[.agg #[.int .i64 h, u], v] w fun e w' => e = .returned (.tuple #[.bool r, .int .i64 c]) ∧ Below w.heap.size w w' := by
  have HU := Lib.hid hu
  have HV := Lib.hid hv
  obtain ⟨p, cp, rfl, _, _⟩ := hu
  obtain ⟨q, cq, rfl, hm, hq⟩ := hv
  unfold maxLen at hm
  have HQ := Lib.hid hq
  have KB : Free.Bel w (w.alloc (.cells #[.int .i64 h, .slice p xs.length cp] 24)) := belAlloc _ _
  have FA : ∀ W, Free.Bel (w.alloc (.cells #[.int .i64 h, .slice p xs.length cp] 24)) W → W.cell? ⟨w.heap.size, 0, none⟩ = some (.int .i64 h) ∧ W.cell? ⟨w.heap.size, 1, none⟩ = some (.slice p xs.length cp) := fun W hW => ⟨keepsB hW (by simp [go_sem]), keepsB hW (by simp [go_sem])⟩
  have KE : Free.Bel (w.alloc (.cells #[.int .i64 h, .slice p xs.length cp] 24)) (w.alloc (.cells #[.int .i64 h, .slice p xs.length cp] 24)) := Free.Bel.refl _
  have HPL := Lib.hid (playedP_any h xs ds _ _ _ (hT.bel KB) (HU.out.keeps KB) (HV.out.keeps KB) hd)
  have HTAB := Lib.hid hT
  have HNZ := Lib.hid hz
  clear hT hq hz
  go_enter Tryd.func25, Tryd.ntmps25
  go_wp2_with fail
  go_step3
  go_wp2_with fail
  refine HPL.out.mono ?_
  rintro e w1 ⟨hP, hB1⟩
  obtain ⟨pt, S, p4, n4, c4, rfl, hn4, _, hS4⟩ := hP.one
  have HS4 := Lib.hid hS4
  have K1 : Free.Bel (w.alloc (.cells #[.int .i64 h, .slice p xs.length cp] 24)) (w1.alloc (.cells (arrV S) 109)) := bt hB1 (belAlloc _ _)
  have hs7 : (w1.alloc (.cells (arrV S) 109)).heap[w1.heap.size]? = some (.cells (arrV S) 109 (0, 0)) := World.alloc_heap_new _ _
  have HBW := Lib.hid (bt KB K1)
  have HS7 := Lib.hid hs7
  have HN4 := Lib.hid hn4
  obtain ⟨a, ha0⟩ : ∃ a, askE h xs ds = a := ⟨_, rfl⟩
  have ha := Lib.hid ha0
  rw [ha0]
  clear hS4 hP HPL hB1 hn4 hs7 ha0 KE
  by_cases h0 : a = 0
  · have hask := ha.out
    rw [h0] at hask
    have hho : hotOut h xs ds = heatR 0 xs ds := if_pos hask
    have hrc := rep_cases hask
    by_cases hem : ds.length = 0
    · obtain rfl : ds = [] := List.eq_nil_of_length_eq_zero hem
      obtain rfl : c = 72 := by rw [← hcr.out.1, hrc.1]; rfl
      obtain rfl : r = false := by rw [← hcr.out.2, hrc.2.1 rfl]
      subst h0
      clear hask hho hrc hem
      go_wp2_with fail
      rw [Exit.noGoto_ret]
      simp +zetaDelta only [Exit.inBlock, Exit.then]
      exact bodyPost_ret (v := .tuple #[.bool false, .int .i64 72]) (by simp [results, Tryd.results25, go_sem]) rfl ⟨rfl, HBW.out⟩
    · have hem2 : ds.isEmpty = false := by
        cases h9 : ds.isEmpty
        · rfl
        · rw [List.isEmpty_iff] at h9; rw [h9] at hem; exact absurd rfl hem
      obtain rfl : c = 0 := by rw [← hcr.out.1, hrc.1, hem2]; rfl
      have hr2 : repP xs ds = r := by rw [← hcr.out.2, hrc.2.2 hem2]
      have g5 : ((ds.length : Int) == 0) = false := by simp; intro e; rw [e] at hem; exact hem rfl
      have g6 : ¬ ds = [] := by intro e; rw [e] at hem; exact hem rfl
      by_cases hh : n4 = 0
      · have hem3 : (heatR 0 xs ds).isEmpty = true := by rw [List.isEmpty_iff]; exact List.eq_nil_of_length_eq_zero (by rw [← hho, ← HN4.out]; exact hh)
        have hr3 : Hid ((allTurned xs ds && (heatR 0 (endR xs ds) ds).isEmpty) = r) := by show _ = _; rw [← hr2, repP, hem3, Bool.true_and]
        have hE : aftE h xs ds = 0 := by rw [aftE, if_pos hask, if_pos hem3]
        have hH : aftH h xs ds = h := if_pos hE
        have HL : aftL h xs ds = endR xs ds := if_pos hE
        have hwv := askE_zero.1 hask
        have HWV := Lib.hid hwv
        have HX4 := Lib.hid (watchB_iff.1 hwv.1).2.1
        obtain rfl : S = waits (endR xs ds) := HS4.out hask
        have HAFT := Lib.hid (aftP_any h xs ds _ _ _ (HTAB.out.bel HBW.out) (HU.out.keeps HBW.out) HNZ.out (HV.out.keeps HBW.out) hd)
        rw [hE, hH, HL] at HAFT
        have HEM3 := Lib.hid hem3
        subst h0 hh
        clear hask hho hrc hem hem2 hem3 hE hH HL hwv hr2
        go_wp2_with fail
        refine HAFT.out.mono ?_
        rintro e w2 ⟨⟨v2, rfl, hr2⟩, hB2⟩
        obtain ⟨p2, c2, rfl⟩ := row_slice hr2
        obtain ⟨zs, hzs⟩ : ∃ x, endR xs ds = x := ⟨_, rfl⟩
        have hzl : zs.length = xs.length := by rw [← hzs]; exact endR_length _ _
        rw [hzs] at hr2 HBW HS7 hB2 hr3 ⊢
        rw [hzl] at hr2 ⊢
        have HZS := Lib.hid hzs
        have HZL := Lib.hid hzl
        have K2 : Free.Bel w w2 := bt HBW.out hB2
        have KC0 : Free.Bel w (w2.alloc (.cells #[.int .i64 h, .slice p2 xs.length c2] 24)) := bt K2 (belAlloc _ _)
        have hrow := bel_row hr2 (belAlloc w2 (.cells #[.int .i64 h, .slice p2 xs.length c2] 24))
        have hs7 := (bt hB2 (belAlloc w2 (.cells #[.int .i64 h, .slice p2 xs.length c2] 24))).block _ (lt_of_heap HS7.out) |>.trans HS7.out
        have ht10 : (w2.alloc (.cells #[.int .i64 h, .slice p2 xs.length c2] 24)).heap[w2.heap.size]? = some (.cells #[.int .i64 h, .slice p2 xs.length c2] 24 (0, 0)) := World.alloc_heap_new _ _
        have FB : ∀ W, Free.Bel (w2.alloc (.cells #[.int .i64 h, .slice p2 xs.length c2] 24)) W → W.cell? ⟨w.heap.size, 0, none⟩ = some (.int .i64 h) ∧ W.cell? ⟨w.heap.size, 1, none⟩ = some (.slice p xs.length cp) ∧ W.cell? ⟨w2.heap.size, 0, none⟩ = some (.int .i64 h) ∧ W.cell? ⟨w2.heap.size, 1, none⟩ = some (.slice p2 xs.length c2) ∧ W.cell? ⟨w1.heap.size, 0, none⟩ = some (.int .i64 (waits zs 0)) ∧ W.cell? ⟨w1.heap.size, 1, none⟩ = some (.int .i64 (waits zs 1)) ∧ W.cell? ⟨w1.heap.size, 2, none⟩ = some (.int .i64 (waits zs 2)) ∧ W.cell? ⟨w1.heap.size, 3, none⟩ = some (.int .i64 (waits zs 3)) := fun W hW =>
          ⟨(FA W (bt K1 (by rw [hzs]; exact bt hB2 (bt (belAlloc _ _) hW)))).1, (FA W (bt K1 (by rw [hzs]; exact bt hB2 (bt (belAlloc _ _) hW)))).2, keepsB hW (cell_of_heap ht10 rfl), keepsB hW (cell_of_heap ht10 rfl), keepsB hW (cell_of_heap hs7 rfl), keepsB hW (cell_of_heap hs7 rfl), keepsB hW (cell_of_heap hs7 rfl), keepsB hW (cell_of_heap hs7 rfl)⟩
        have KE := Free.Bel.refl (w2.alloc (.cells #[.int .i64 h, .slice p2 xs.length c2] 24))
        have HROW := Lib.hid hrow
        have HKC := Lib.hid KC0
        clear FA hrow KC0 hs7 ht10 hr2 hzs hzl K2 HAFT HNZ K1 KB hB2
        go_wp2_with fail
        go_step3
        go_wp2_with fail
        generalize (w2.alloc _) = wC at *
        go_loopw [50] (fun i wr => ∃ k : Nat, k ≤ xs.length ∧ i = .int .i64 k ∧ Hid (allTurned (xs.take k) ds = true) ∧ Free.Bel wC wr) (fun i _ => xs.length - (intOf i).toNat)
        case atStart => exact ⟨0, Nat.zero_le _, rfl, rfl, KE⟩
        case round =>
          obtain ⟨k, hk, rfl, hall, hB⟩ := hrel
          obtain ⟨wo, hwo⟩ : ∃ x, x = wr := ⟨_, rfl⟩
          subst hwo
          have hww : Free.Bel w wo := bt HKC.out hB
          have hx4 := HX4.out
          by_cases hlt : k < xs.length
          · obtain ⟨p9, c9, hp9, _, hq9⟩ := HU.out
            obtain ⟨b, off, hb, hcc⟩ := hq9 (by intro e; simp [e] at hlt)
            simp only [Value.slice.injEq] at hp9
            obtain ⟨rfl, hl0, rfl⟩ := hp9
            subst hb
            obtain ⟨d1, d2, d3⟩ := hcc k hlt
            have e1 := keepsB hww d1
            have e2 := keepsB hww d2
            have e3 := keepsB hww d3
            have hklt : (k : Int) < xs.length := by omega
            have hat : Hid (allTurned (xs.take (k + 1)) ds = (allTurned (xs.take k) ds && ds.any fun d => d.contains xs[k].1)) := by
              show _ = _
              rw [take_step xs k hlt]
              simp only [allTurned, List.all_append, List.all_cons, List.all_nil, Bool.and_true]
            have hmem : Hid (xs[k] ∈ xs) := List.getElem_mem hlt
            have KA : Free.Bel wo (wo.alloc (.cells #[.int .i64 xs[k].1, .int .i64 xs[k].2.1, .int .i64 xs[k].2.2] 47)) := belAlloc _ _
            clear hl0 hcc hq9 d1 d2 d3
            generalize xs[k] = x at *
            obtain ⟨x1, x2, x3⟩ := x
            have FX : ∀ W, Free.Bel (wo.alloc (.cells #[.int .i64 x1, .int .i64 x2, .int .i64 x3] 47)) W → W.cell? ⟨wo.heap.size, 0, none⟩ = some (.int .i64 x1) := fun W hW => keepsB hW (by simp [go_sem])
            go_wp2_with fail
            have HKA := Lib.hid KA
            have KE2 := Free.Bel.refl (wo.alloc (.cells #[.int .i64 x1, .int .i64 x2, .int .i64 x3] 47))
            clear KA e1 e2 e3 KE
            generalize (wo.alloc (.cells #[.int .i64 x1, .int .i64 x2, .int .i64 x3] 47)) = wa at *
            go_loopw [56] (fun i wr => ∃ j : Nat, j ≤ ds.length ∧ i = .int .i64 j ∧ Hid (((ds.take j).any fun d => d.contains x1) = false) ∧ Free.Bel wa wr) (fun i _ => ds.length - (intOf i).toNat)
            case atStart => exact ⟨0, Nat.zero_le _, rfl, rfl, KE2⟩
            case round =>
              obtain ⟨j, hj, rfl, hno, hB2⟩ := hrel
              have hw2 : Free.Bel w wr := bt hww (bt HKA.out hB2)
              by_cases hlt2 : j < ds.length
              · obtain ⟨b2, off2, rfl, hcp⟩ := HQ.out (by intro e; simp [e] at hlt2)
                obtain ⟨u1, d1, i1⟩ := hcp j hlt2
                have e1 := keepsB hw2 d1
                have i2 := i1.keeps hw2
                have hjlt : (j : Int) < ds.length := by omega
                have hst : Hid (((ds.take (j + 1)).any fun d => d.contains x1) = (((ds.take j).any fun d => d.contains x1) || ds[j].contains x1)) := by
                  show _ = _
                  rw [take_step ds j hlt2]
                  simp only [List.any_append, List.any_cons, List.any_nil, Bool.or_false]
                have hmem2 : Hid (ds[j] ∈ ds) := List.getElem_mem hlt2
                have HCON := Lib.hid (contI7_any ds[j] x1 u1 wr i2)
                obtain ⟨q1, c1, rfl, _, _⟩ := i2
                clear hcp d1 i1
                generalize ds[j] = day at *
                obtain ⟨qc, hqc⟩ : ∃ y, day.contains x1 = y := ⟨_, rfl⟩
                rw [hqc] at hst HCON
                have HQC := Lib.hid hqc
                clear hqc
                cases qc
                · go_wp2_with fail
                  refine HCON.out.mono ?_
                  rintro e w5 ⟨rfl, hB5⟩
                  go_wp2_with fail
                  go_roundw
                  case rel => exact ⟨j + 1, by omega, by go_num, by show _ = _; rw [hst.out, hno.out]; rfl, bt hB2 hB5⟩
                  case measure => simp [intOf]; omega
                · go_wp2_with fail
                  refine HCON.out.mono ?_
                  rintro e w5 ⟨rfl, hB5⟩
                  go_wp2_with fail
                  go_roundw
                  case rel => exact ⟨k + 1, by omega, by go_num, by
                    show _ = _
                    rw [hat.out, hall.out, Bool.true_and, List.any_eq_true]
                    exact ⟨day, hmem2.out, HQC.out⟩, bt hB (bt HKA.out (bt hB2 hB5))⟩
                  case measure => simp [intOf]; omega
              · obtain rfl : j = ds.length := by omega
                have hf : r = false := by
                  rw [← hr3.out]
                  have h9 := hno.out
                  rw [List.take_length] at h9
                  have h8 : allTurned xs ds = false := by
                    rw [allTurned, List.all_eq_false]
                    exact ⟨_, hmem.out, by rw [h9]; simp⟩
                  rw [h8, Bool.false_and]
                subst hf
                go_wp2_with fail
                rw [Exit.noGoto_ret]
                simp +zetaDelta only [Exit.inBlock, Exit.then]
                exact bodyPost_ret (v := .tuple #[.bool false, .int .i64 0]) (by simp [results, Tryd.results25, go_sem]) rfl ⟨rfl, hw2⟩
          · obtain rfl : k = xs.length := by omega
            rw [List.take_length] at hall
            have HALL := Lib.hid hall
            have hcool := (heat_empty xs ds).1 HEM3.out
            have hwz : watchB h zs = true := by rw [← HZS.out]; exact watchB_end HWV.out.1 hcool
            have hvz : validB h zs ds = true := by rw [← HZS.out, validB_ids (endR_ids xs ds)]; exact HWV.out.2
            have haz : askE h zs ds = 0 := askE_zero.2 ⟨hwz, hvz⟩
            have hez : endR zs ds = zs := by rw [← HZS.out]; exact end_end hall
            have hhz : hotOut h zs ds = heatR 0 zs ds := if_pos haz
            have hrlz := RL.of_row HZL.out (by have := HX4.out; unfold maxLen; omega) (bel_row HROW.out hB)
            have HPL2 := Lib.hid (playedP_any h zs ds _ _ wo (HTAB.out.bel hww) hrlz (HV.out.keeps hww) hd)
            have HZ9 := Lib.hid (And.intro haz (And.intro hez hhz))
            have hrr : Hid ((heatR 0 zs ds).isEmpty = r) := by show _ = _; rw [← hr3.out, hall, Bool.true_and]
            clear hcool hwz hvz haz hez hhz hrlz hall
            go_wp2_with fail
            refine HPL2.out.mono ?_
            rintro e w6 ⟨hP, hB6⟩
            obtain ⟨pt2, S2, p5, n5, c5, rfl, hn5, _, hS5⟩ := hP.one
            obtain rfl : S2 = waits zs := (hS5 HZ9.out.1).trans (by rw [HZ9.out.2.1])
            rw [HZ9.out.1]
            have hn6 : n5 = (heatR 0 zs ds).length := by rw [hn5, HZ9.out.2.2]
            have HN6 := Lib.hid hn6
            have KF : Free.Bel wC (w6.alloc (.cells (arrV (waits zs)) 109)) := bt hB (bt hB6 (belAlloc _ _))
            have HKF := Lib.hid (bt HKC.out KF)
            have y0 : (w6.alloc (.cells (arrV (waits zs)) 109)).heap[w6.heap.size]? = some (.cells (arrV (waits zs)) 109 (0, 0)) := World.alloc_heap_new _ _
            obtain ⟨y1, y2, y3, y4, _, _, _, _⟩ := cells4 y0
            clear hn5 hn6 hS5 hP y0 hB6
            have heq := eqS (waits zs)
            have hgd : Tryd.prog.eqGuardType Tryd.prog.depth 109 = false := by kernel_rfl
            by_cases h5 : n5 = 0
            · have hrt : r = true := by
                rw [← hrr.out, List.isEmpty_iff]
                exact List.eq_nil_of_length_eq_zero (by rw [← HN6.out]; exact h5)
              subst hrt h5
              go_wp2_with fail
              rw [Exit.noGoto_ret]
              simp +zetaDelta only [Exit.inBlock, Exit.then]
              exact bodyPost_ret (v := .tuple #[.bool true, .int .i64 0]) (by simp [results, Tryd.results25, go_sem]) rfl ⟨rfl, HKF.out⟩
            · have hrt : r = false := by
                rw [← hrr.out]
                cases h9 : (heatR 0 zs ds).isEmpty
                · rfl
                · rw [List.isEmpty_iff] at h9; rw [h9] at HN6; exact absurd HN6.out h5
              subst hrt
              have g9 : ((n5 : Int) == 0) = false := by simp; exact h5
              go_wp2_with fail
              rw [Exit.noGoto_ret]
              simp +zetaDelta only [Exit.inBlock, Exit.then]
              exact bodyPost_ret (v := .tuple #[.bool false, .int .i64 0]) (by simp [results, Tryd.results25, go_sem]) rfl ⟨rfl, HKF.out⟩
      · have hem3 : (heatR 0 xs ds).isEmpty = false := by
          cases h9 : (heatR 0 xs ds).isEmpty
          · rfl
          · rw [List.isEmpty_iff, ← hho] at h9; rw [h9] at HN4; exact absurd HN4.out hh
        obtain rfl : r = false := by rw [← hr2, repP, hem3, Bool.false_and]
        have g7 : decide (0 < (n4 : Int)) = true := decide_eq_true (by omega)
        have g8 : 0 < n4 := by omega
        subst h0
        clear hask hho hrc hem hem2 hem3 hh hr2
        go_wp2_with fail
        rw [Exit.noGoto_ret]
        simp +zetaDelta only [Exit.inBlock, Exit.then]
        exact bodyPost_ret (v := .tuple #[.bool false, .int .i64 0]) (by simp [results, Tryd.results25, go_sem]) rfl ⟨rfl, HBW.out⟩
  · have g0 : (a == 0) = false := by simp [h0]
    obtain rfl : c = a := by rw [← hcr.out.1, repE, if_neg (by rw [ha.out]; exact h0)]; exact ha.out
    obtain rfl : r = false := by rw [← hcr.out.2, repB, hcr.out.1, decide_eq_false h0, Bool.false_and]
    clear hcr
    go_wp2_with fail
    rw [Exit.noGoto_ret]
    simp +zetaDelta only [Exit.inBlock, Exit.then]
    exact bodyPost_ret (v := .tuple #[.bool false, .int .i64 c]) (by simp [results, Tryd.results25, go_sem]) rfl ⟨rfl, HBW.out⟩
end Go.Proofs.YtknpglgpkkhhiaaDoor

/- The examples of chapter 07's laws: what each call tells. -/
namespace Go.Proofs.YtknpglgpkkhhiaaDoor
set_option linter.unusedSimpArgs false
set_option linter.unusedVariables false
open Go.RowKit Go.Proofs.YtknpglgpkkhhiaaDoor.Free2 Go.Proofs.YtknpglgpkkhhiaaDoor.ML RR

set_option maxRecDepth 100000 in
set_option maxHeartbeats 4000000 in
theorem watchX_any (w : World) :
    Calls Tryd.prog 66 #[] w fun e w' => (∃ b, e = .returned (.agg #[.int .i64 1, .slice (some ⟨b, 0, none⟩) 3 3]) ∧ w.heap.size ≤ b ∧ w'.heap[b]? = some (.cells #[.int .i64 1, .int .i64 2, .int .i64 0, .int .i64 2, .int .i64 4, .int .i64 1, .int .i64 3, .int .i64 4, .int .i64 0] 47 (0, 0))) ∧ Below w.heap.size w w' := by
  go_enter Tryd.func66, Tryd.ntmps66
  go_wp2_with fail
  exact bodyPost_ret (v := .agg #[.int .i64 1, .slice (some ⟨w.heap.size + 1, 0, none⟩) 3 3]) (by simp [results, Tryd.f66, go_sem]) rfl ⟨⟨w.heap.size + 1, rfl, by omega, by
    have := World.alloc_heap_new (w.alloc (.cells #[.int .i64 1, .slice (some ⟨w.heap.size + 1, 0, none⟩) 3 3] 24)) (.cells #[.int .i64 1, .int .i64 2, .int .i64 0, .int .i64 2, .int .i64 4, .int .i64 1, .int .i64 3, .int .i64 4, .int .i64 0] 47)
    simpa using this⟩, bt (belAlloc _ _) (belAlloc _ _)⟩
set_option maxRecDepth 100000 in
theorem dayX_any (v : Value) (w : World) : Calls Tryd.prog 67 #[v] w fun e w' => e = .returned v ∧ w = w' := by
  go_enter Tryd.func67, Tryd.ntmps67
  go_wp2_with fail
  go_ret
  exact ⟨rfl, rfl⟩
set_option maxRecDepth 100000 in
theorem daysX_any (v : Value) (w : World) : Calls Tryd.prog 61 #[v] w fun e w' => e = .returned v ∧ w = w' := by
  go_enter Tryd.func61, Tryd.ntmps61
  go_wp2_with fail
  go_ret
  exact ⟨rfl, rfl⟩
theorem ex_share (u : Value) (w : World) (hT : TabR w) (hu : RL wx u w) :
    Calls Tryd.prog 30 #[.agg #[.int .i64 1, u]] w fun e w' => e = .returned (.tuple #[.agg #[.int .i64 1, .int .i64 1], .int .i64 0]) ∧ Below w.heap.size w w' := by
  refine (shareP_any 1 wx u w hT hu).mono fun e w' ⟨h1, h2⟩ => ⟨?_, h2⟩
  rcases h1 with ⟨h, _⟩ | ⟨_, h⟩
  · rw [wx_watch] at h; cases h
  · rw [h]
    have : partV (shareI wx).toNat 60 = .agg #[.int .i64 1, .int .i64 1] := by kernel_rfl
    rw [this]
theorem ex_can (u : Value) (w : World) (hT : TabR w) (hu : RL wx u w) :
    Calls Tryd.prog 32 #[.agg #[.int .i64 1, u]] w fun e w' => e = .returned (.tuple #[.bool true, .int .i64 0]) ∧ Below w.heap.size w w' := by
  exact canP_v 1 wx u w hT hu 0 true (by rw [wx_watch, wx_yes]; exact ⟨rfl, rfl⟩)
theorem ex_today (u : Value) (w : World) (hT : TabR w) (hu : RL wx u w) :
    Calls Tryd.prog 34 #[.agg #[.int .i64 1, u]] w fun e w' => (∃ v, e = .returned (.tuple #[v, .int .i64 0]) ∧ IL [1] v w') ∧ Below w.heap.size w w' := by
  refine (todayP_v 1 wx u w hT hu 0 (by show _ = _; unfold goE; simp [wx_watch, wx_yes])).mono fun e w' ⟨h1, h2⟩ => ⟨?_, h2⟩
  rcases h1 with ⟨h, _⟩ | ⟨_, v, h, b, hr⟩
  · exact absurd rfl h
  · rw [wx_today] at hr
    exact ⟨v, h, IL.of_own (by simp [maxLen]) hr⟩
theorem ex_days (u : Value) (w : World) (hT : TabR w) (hu : RL wx u w) :
    Calls Tryd.prog 39 #[.agg #[.int .i64 1, u], .int .i64 3] w fun e w' => (∃ v, e = .returned (.tuple #[v, .int .i64 0]) ∧ DL [[1], [2], [1]] v w') ∧ Below w.heap.size w w' := by
  refine (daysP_v 1 wx 3 u w hT hu 0 (by show _ = _; unfold daysE goE; simp [wx_watch, wx_yes, inB])).mono fun e w' ⟨h1, h2⟩ => ⟨?_, h2⟩
  rcases h1 with ⟨h, _⟩ | ⟨_, v, h, hd⟩
  · exact absurd rfl h
  · rw [show (3 : Int).toNat = 3 from rfl, wx_days] at hd
    exact ⟨v, h, (hd.dz (by simp [maxLen]) (by simp [maxLen])).dl⟩
theorem ex_round (u : Value) (w : World) (hT : TabR w) (hu : RL wx u w) :
    Calls Tryd.prog 41 #[.agg #[.int .i64 1, u]] w fun e w' => (∃ vl vr, e = .returned (.tuple #[vl, vr, .int .i64 0]) ∧ DL [[1], [2]] vl w' ∧ DL [[1], [3], [1], [2]] vr w') ∧ Below w.heap.size w w' := by
  refine (round_b 1 wx u w hT hu wx_watch wx_yes).mono fun e w' ⟨⟨i, j, vl, vr, hr, he, hl, hr2⟩, h2⟩ => ⟨?_, h2⟩
  obtain ⟨rfl, rfl⟩ := hr.unique wx_round
  rw [wx_lead] at hl
  rw [wx_again] at hr2
  exact ⟨vl, vr, he, hl.dl, hr2.dl⟩
theorem ex_few (u : Value) (w : World) (hT : TabR w) (hu : RL wx u w) :
    Calls Tryd.prog 49 #[.agg #[.int .i64 1, u]] w fun e w' => e = .returned (.tuple #[.int .i64 1, .int .i64 0]) ∧ Below w.heap.size w w' := by
  refine (fewestP_any 1 wx u w hT hu).mono fun e w' ⟨h1, h2⟩ => ⟨?_, h2⟩
  rcases h1 with ⟨h, _⟩ | ⟨_, n, c, hf, h⟩
  · rw [wx_watch] at h; cases h
  · obtain ⟨rfl, rfl⟩ := hf.unique wx_few
    exact h
theorem ex_moist (u : Value) (w : World) (hT : TabR w) (hu : RL wx u w) (hz : NZ u) :
    Calls Tryd.prog 51 #[.agg #[.int .i64 1, u], .int .i64 3] w fun e w' => e = .returned (.tuple #[.int .i64 4, .int .i64 0]) ∧ Below w.heap.size w w' := by
  refine (moistP_any 1 3 wx u w hT hu hz 2 (.inr ⟨2, by decide, rfl, by decide, by decide⟩)).mono fun e w' ⟨h1, h2⟩ => ⟨?_, h2⟩
  rcases h1 with ⟨h, _⟩ | ⟨_, h, _⟩ | ⟨_, _, n, c, hf, h⟩
  · rw [wx_watch] at h; cases h
  · exact absurd h (by decide)
  · obtain ⟨rfl, rfl⟩ := hf.unique wx_moist
    exact h
theorem ex_spare (u : Value) (w : World) (hT : TabR w) (hu : RL wx u w) :
    Calls Tryd.prog 53 #[.agg #[.int .i64 1, u]] w fun e w' => e = .returned (.tuple #[.int .i64 0, .int .i64 0]) ∧ Below w.heap.size w w' := by
  refine (spareP_v 1 wx u w hT hu 0 (by show _ = _; unfold goE; simp [wx_watch, wx_yes])).mono fun e w' ⟨h1, h2⟩ => ⟨?_, h2⟩
  rcases h1 with ⟨h, _⟩ | ⟨_, h, _⟩ | ⟨_, _, n, hf, h⟩
  · exact absurd rfl h
  · cases h
  · obtain rfl := hf.unique wx_spare
    exact h
theorem ex_hot (u : Value) (w : World) (hT : TabR w) (hu : RL wx u w) (hz : NZ u) (v : Value) (hv : DL [[], [1], []] v w) :
    Calls Tryd.prog 21 #[.agg #[.int .i64 1, u], v] w fun e w' => (∃ v2, e = .returned (.tuple #[v2, .int .i64 0]) ∧ PL [(3, 2)] v2 w') ∧ Below w.heap.size w w' := by
  refine (hotP_any 1 wx [[], [1], []] u v w hT hu hv (by decide)).mono fun e w' ⟨⟨v2, h1, h3⟩, h2⟩ => ⟨?_, h2⟩
  rw [show askE 1 wx [[], [1], []] = 0 by decide +kernel] at h1
  rw [show hotOut 1 wx [[], [1], []] = [(3, 2)] by decide +kernel] at h3
  exact ⟨v2, h1, h3⟩
theorem ex_after (u : Value) (w : World) (hT : TabR w) (hu : RL wx u w) (hz : NZ u) (v : Value) (hv : DL [[1], [2]] v w) :
    Calls Tryd.prog 23 #[.agg #[.int .i64 1, u], v] w fun e w' => (∃ g cap, e = .returned (.tuple #[.agg #[.int .i64 1, .slice (some ⟨g, 0, none⟩) 3 cap], .int .i64 0]) ∧ w'.cell? ⟨g, 2, none⟩ = some (.int .i64 1) ∧ w'.cell? ⟨g, 5, none⟩ = some (.int .i64 0) ∧ w'.cell? ⟨g, 8, none⟩ = some (.int .i64 2)) ∧ Below w.heap.size w w' := by
  refine (aftP_any 1 wx [[1], [2]] u v w hT hu hz hv (by decide)).mono fun e w' ⟨⟨v2, h1, h3⟩, h2⟩ => ⟨?_, h2⟩
  rw [show aftE 1 wx [[1], [2]] = 0 by decide +kernel, show aftH 1 wx [[1], [2]] = 1 by decide +kernel] at h1
  rw [show aftL 1 wx [[1], [2]] = [(1, 2, 1), (2, 4, 0), (3, 4, 2)] by decide +kernel] at h3
  obtain ⟨g, cap, cur, rfl, _⟩ := h3.2.resolve_left (fun h => by simp at h)
  have c2 := h3.cells (g := g) rfl 2 (.int .i64 1) rfl
  have c5 := h3.cells (g := g) rfl 5 (.int .i64 0) rfl
  have c8 := h3.cells (g := g) rfl 8 (.int .i64 2) rfl
  rw [addE] at c2 c5 c8
  exact ⟨g, cap, h1, by simpa using c2, by simpa using c5, by simpa using c8⟩
theorem ex_rep (u : Value) (w : World) (hT : TabR w) (hu : RL wx u w) (hz : NZ u) (v : Value) (hv : DL [[1], [2], [1], [3]] v w) :
    Calls Tryd.prog 25 #[.agg #[.int .i64 1, u], v] w fun e w' => e = .returned (.tuple #[.bool true, .int .i64 0]) ∧ Below w.heap.size w w' := by
  exact repP_v 1 wx [[1], [2], [1], [3]] u v w hT hu hz hv (by decide) 0 true (by
    show _ ∧ _
    decide +kernel)
theorem ex_last (u : Value) (w : World) (hT : TabR w) (hu : RL wl u w) :
    Calls Tryd.prog 47 #[.agg #[.int .i64 1, u]] w fun e w' => (∃ v, e = .returned (.tuple #[v, .int .i64 0]) ∧ DL [[3]] v w') ∧ Below w.heap.size w w' := by
  refine (last_c 1 wl u w hT hu wl_watch wl_no).mono fun e w' ⟨⟨n, v, _, h1, h3, he, hd⟩, h2⟩ => ⟨?_, h2⟩
  rw [wl_last h1 h3] at hd
  exact ⟨v, he, (hd.dz (by simp [maxLen]) (by simp [maxLen])).dl⟩
theorem rl_of9 {a b c d e f g i j : Int} {b0 : Nat} {t : TypeId} {w : World} (h : w.heap[b0]? = some (.cells #[.int .i64 a, .int .i64 b, .int .i64 c, .int .i64 d, .int .i64 e, .int .i64 f, .int .i64 g, .int .i64 i, .int .i64 j] t (0, 0))) : RL [(a, b, c), (d, e, f), (g, i, j)] (.slice (some ⟨b0, 0, none⟩) 3 3) w := by
  refine ⟨_, 3, rfl, by simp [maxLen], fun _ => ⟨b0, 0, rfl, fun k hk => ?_⟩⟩
  have hk' : k < 3 := hk
  rcases (show k = 0 ∨ k = 1 ∨ k = 2 by omega) with rfl | rfl | rfl
  · exact ⟨cell_of_heap (o := 0) h rfl, cell_of_heap (o := 1) h rfl, cell_of_heap (o := 2) h rfl⟩
  · exact ⟨cell_of_heap (o := 3) h rfl, cell_of_heap (o := 4) h rfl, cell_of_heap (o := 5) h rfl⟩
  · exact ⟨cell_of_heap (o := 6) h rfl, cell_of_heap (o := 7) h rfl, cell_of_heap (o := 8) h rfl⟩
theorem nz_some {a : Addr} {n c : Nat} : NZ (.slice (some a) n c) := fun n' c' h => by cases h
theorem il_one (a : Int) (t : TypeId) (w : World) : IL [a] (.slice (some ⟨w.heap.size, 0, none⟩) 1 1) (w.alloc (.cells #[.int .i64 a] t)) :=
  ⟨_, 1, rfl, by simp [maxLen], fun _ => ⟨w.heap.size, 0, rfl, fun k hk => by
    have hk' : k < 1 := hk
    obtain rfl : k = 0 := by omega
    simp [go_sem]⟩⟩
theorem pl_one (a b : Int) (t : TypeId) (w : World) : PL [(a, b)] (.slice (some ⟨w.heap.size, 0, none⟩) 1 1) (w.alloc (.cells #[.int .i64 a, .int .i64 b] t)) :=
  ⟨_, 1, rfl, by simp [maxLen], fun _ => ⟨w.heap.size, 0, rfl, fun k hk => by
    have hk' : k < 1 := hk
    obtain rfl : k = 0 := by omega
    simp [go_sem]⟩⟩
theorem dl_new {ds : List (List Int)} {us : List Value} {t : TypeId} {w : World} (hl : us.length = ds.length) (hm : ds.length ≤ maxLen) (hd : ∀ (k : Nat) (h : k < ds.length) u, us[k]? = some u → IL ds[k] u w) : DL ds (.slice (some ⟨w.heap.size, 0, none⟩) ds.length ds.length) (w.alloc (.cells us.toArray t)) :=
  ⟨_, _, rfl, hm, fun _ => ⟨w.heap.size, 0, rfl, fun k hk => ⟨us[k], by
    have hn := World.alloc_heap_new w (.cells us.toArray t)
    rw [Nat.zero_add]
    exact cell_of_heap (o := k) hn (by rw [List.getElem?_toArray]; exact List.getElem?_eq_getElem (by omega)), (hd k hk _ (List.getElem?_eq_getElem (by omega))).keeps (belAlloc _ _)⟩⟩⟩
/-- A watch of which two ricks are turned later. -/
def JW (b : Nat) (X : XT) (W : World) : Prop := W.heap[b]? = some (.cells #[.int .i64 1, .int .i64 2, .int .i64 0, .int .i64 2, .int .i64 4, .int .i64 (if (X 6).isSome = true then 2 else 1), .int .i64 3, .int .i64 4, .int .i64 (if (X 9).isSome = true then 3 else 0)] 47 (0, 0))
theorem JW.at {b : Nat} {X : XT} {W : World} (h : JW b X W) : ∃ x y, W.cell? ⟨b, 5, none⟩ = some x ∧ W.cell? ⟨b, 8, none⟩ = some y ∧ W.frozen? ⟨b, 5, none⟩ = false ∧ W.frozen? ⟨b, 8, none⟩ = false := by
  unfold JW at h
  exact ⟨_, _, cell_of_heap (o := 5) h rfl, cell_of_heap (o := 8) h rfl, frozen_of_heap (o := 5) h, frozen_of_heap (o := 8) h⟩
theorem JW.skip {b : Nat} {X : XT} {W : World} (h : JW b X W) (n : Nat) (v : Value) (h6 : n ≠ 6) (h9 : n ≠ 9) : JW b (upd X n v) W := by
  unfold JW
  rw [upd_other _ _ (Ne.symm h6), upd_other _ _ (Ne.symm h9)]
  exact h
theorem JW.put6 {b : Nat} {X : XT} {W : World} (h : JW b X W) (v : Value) : JW b (upd X 6 v) (W.setCell ⟨b, 5, none⟩ (.int .i64 2)) := by
  unfold JW at h ⊢
  rw [upd_same, upd_other _ _ (show (9 : Nat) ≠ 6 by decide)]
  have := heap_setCell_same (o := 5) (.int .i64 2) h
  simpa using this
theorem JW.put9 {b : Nat} {X : XT} {W : World} (h : JW b X W) (v : Value) : JW b (upd X 9 v) (W.setCell ⟨b, 8, none⟩ (.int .i64 3)) := by
  unfold JW at h ⊢
  rw [upd_same, upd_other _ _ (show (6 : Nat) ≠ 9 by decide)]
  have := heap_setCell_same (o := 8) (.int .i64 3) h
  simpa using this
end Go.Proofs.YtknpglgpkkhhiaaDoor

/- The reference's comparison of heats. -/
namespace Go.Proofs.YtknpglgpkkhhiaaDoor
set_option linter.unusedSimpArgs false
set_option linter.unusedVariables false
open Go.RowKit

set_option maxRecDepth 100000 in
set_option maxHeartbeats 2000000 in
theorem sameH_any (xs : List (Int × Int)) (u v : Value) (w : World) (hu : PL xs u w) (hv : PL xs v w) :
    Calls Tryd.prog 27 #[u, v] w fun e w' => e = .returned (.bool true) ∧ Below w.heap.size w w' := by
  obtain ⟨p, cp, rfl, hm, hp⟩ := hu
  obtain ⟨q, cq, rfl, _, hq⟩ := hv
  unfold maxLen at hm
  have HP := Lib.hid hp
  have HQ := Lib.hid hq
  clear hp hq
  go_enter Tryd.func27, Tryd.ntmps27
  go_wp2_with fail
  go_loopw [5] (fun i wr => ∃ k : Nat, k ≤ xs.length ∧ i = .int .i64 k ∧ Below w.heap.size w wr) (fun i _ => xs.length - (intOf i).toNat)
  case atStart => exact ⟨0, Nat.zero_le _, rfl, Below.refl _ _⟩
  case round =>
    obtain ⟨k, hk, rfl, hB⟩ := hrel
    by_cases hlt : k < xs.length
    · have hx : xs ≠ [] := by intro e; simp [e] at hlt
      obtain ⟨b, off, rfl, hcp⟩ := HP.out hx
      obtain ⟨b2, off2, rfl, hcq⟩ := HQ.out hx
      have e1 := keepsB hB (hcp k hlt).1
      have e2 := keepsB hB (hcp k hlt).2
      have e3 := keepsB hB (hcq k hlt).1
      have e4 := keepsB hB (hcq k hlt).2
      have HC := Lib.hid (And.intro e1 (And.intro e2 (And.intro e3 e4)))
      have hklt : (k : Int) < xs.length := by omega
      generalize xs[k] = x at *
      obtain ⟨x1, x2⟩ := x
      clear hcp hcq
      go_wp2_with fail
      have hF : ∀ W, Free.Bel wr.drew W → W.cell? ⟨b, off + k * 2, none⟩ = some (.int .i64 x1) ∧ W.cell? ⟨b, off + k * 2 + 1, none⟩ = some (.int .i64 x2) ∧ W.cell? ⟨b2, off2 + k * 2, none⟩ = some (.int .i64 x1) ∧ W.cell? ⟨b2, off2 + k * 2 + 1, none⟩ = some (.int .i64 x2) :=
        fun W hW => ⟨keepsB (Free.Bel.first hW) HC.out.1, keepsB (Free.Bel.first hW) HC.out.2.1, keepsB (Free.Bel.first hW) HC.out.2.2.1, keepsB (Free.Bel.first hW) HC.out.2.2.2⟩
      refine Free.wp_free (R := Free.Bel) (by kernel_rfl) (by kernel_rfl) Free.Bel.refl Free.Bel.trans ?_
      refine Free.Chain.ex ?_ [] [0] (by kernel_rfl) (by kernel_rfl) rfl Free.Bel.refl ?_ ?_
      rotate_left 2
      simp only [an1, an2]
      refine Free.Chain.ex ?_ [] [5] (by kernel_rfl) (by kernel_rfl) rfl Free.Bel.refl ?_ ?_
      rotate_left 2
      simp only [an1, an2]
      refine Free.Chain.ex ?_ [(0, 17), (1, 18)] [] (by kernel_rfl) (by kernel_rfl) rfl Free.Bel.refl ?_ ?_
      rotate_left 2
      simp only [an1, an2]
      refine Free.Chain.ex ?_ [(2, 19)] [] (by kernel_rfl) (by kernel_rfl) rfl Free.Bel.refl ?_ ?_
      rotate_left 2
      simp only [an1, an2]
      refine Free.Chain.ex ?_ [] [1] (by kernel_rfl) (by kernel_rfl) rfl Free.Bel.refl ?_ ?_
      rotate_left 2
      simp only [an1, an2]
      refine Free.Chain.ex ?_ [] [5] (by kernel_rfl) (by kernel_rfl) rfl Free.Bel.refl ?_ ?_
      rotate_left 2
      simp only [an1, an2]
      refine Free.Chain.ex ?_ [(4, 21), (5, 22)] [] (by kernel_rfl) (by kernel_rfl) rfl Free.Bel.refl ?_ ?_
      rotate_left 2
      simp only [an1, an2]
      refine Free.Chain.ex ?_ [(6, 23)] [] (by kernel_rfl) (by kernel_rfl) rfl Free.Bel.refl ?_ ?_
      rotate_left 2
      simp only [an1, an2]
      refine Free.Chain.ex ?_ [(3, 20), (7, 24)] [] (by kernel_rfl) (by kernel_rfl) rfl Free.Bel.refl ?_ ?_
      rotate_left 2
      simp only [an1, an2]
      rotate_left
      iterate 9 (rotate_left; intro ev W hb hR hO hD; have hS := hF W hR; obtain ⟨hb1, hb2, hb3⟩ := hb; simp only [Free.AllDeps, Free.AllOuts, Free.At, al1, al2, al3, al4, al5, and_true] at hO hD; go_simp; rfl)
      intro xs w' hR hV
      simp only [Free.AllV, Free.At, List.length_cons, List.length_nil, Nat.reduceAdd, List.getElem?_cons_succ, List.getElem?_cons_zero, true_and] at hV
      simp only [Free.putsFrom, Act.put, hV, List.setIfInBounds_toArray, List.set_cons_succ, List.set_cons_zero]
      have HB2 := Lib.hid (hB.trans ((Free.Bel.first hR).mono hB.size))
      clear hR hV hF
      go_wp2_with fail
      go_roundw
      case rel => exact ⟨k + 1, by omega, by go_num, HB2.out⟩
      case measure => simp [intOf]; omega
    · obtain rfl : k = xs.length := by omega
      go_wp2_with fail
      go_ret
      exact ⟨rfl, hB⟩
end Go.Proofs.YtknpglgpkkhhiaaDoor

/- Watches: Great, Same. -/
namespace Go.Proofs.YtknpglgpkkhhiaaDoor
set_option linter.unusedSimpArgs false
set_option linter.unusedVariables false
open Go.RowKit

end Go.Proofs.YtknpglgpkkhhiaaDoor

