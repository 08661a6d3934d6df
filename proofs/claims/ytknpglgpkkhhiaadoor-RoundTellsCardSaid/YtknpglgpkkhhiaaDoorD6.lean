/- What goes out of the states that are good: settle, where they are told. -/
import Derived.Test.YtknpglgpkkhhiaaDoorD5
import Derived.Lib.SliceRun
namespace Go.Proofs.YtknpglgpkkhhiaaDoor
set_option linter.unusedSimpArgs false
set_option linter.unusedVariables false
open Go.RowKit Go.Proofs.YtknpglgpkkhhiaaDoor.Free2 Go.Proofs.YtknpglgpkkhhiaaDoor.ML RR

def SettleTPost (gb lb base : Nat) (h : Int) (xs : List Rk) (w0 : World) (e : Ending) (w' : World) : Prop := (∃ x, e = .returned x) ∧ ∃ (K : Nat) (gs : List Nat) (v : Value) (L : List Q4), K ≤ 1296 ∧ EverIs h xs L ∧ MapIs quadV gb (setK L) w' ∧ w0.grownBy w' (some gb) ∧ TellI lb base h xs (K + 1) gs v w' ∧ (∀ ys, StOf xs ys → goodN h K ys = true → goodN h (K + 1) ys = true)
def Inv0T (gb n1 lb T : Nat) (h : Int) (xs : List Rk) (w0 : World) (wr : World) : Prop :=
  ∃ (k : Nat) (L : List Q4) (gs : List Nat) (v : Value), GoodIs h xs k L ∧ MapIs quadV gb (setK L) wr ∧ w0.grownBy wr (some gb) ∧ (∃ G, MapIs quadV n1 (setK G) wr) ∧ TellI lb (n1 + 1) h xs k gs v wr ∧ k + L.length ≤ T
/-- The copy. -/
def Inv3 (gb mk r : Nat) (L : List Q4) (wz wr : World) : Prop :=
  ∃ (done K : List Q4), IterIs quadV gb (setK L) r done wr ∧ MapIs quadV mk (setK K) wr ∧ K.Nodup ∧ (∀ q ∈ done, q ∈ L) ∧ (∀ q, q ∈ K ↔ q ∈ done) ∧ Below wz.heap.size wz wr
set_option maxRecDepth 100000 in
set_option maxHeartbeats 32000000 in
theorem settle_told (yb gb lb : Nat) (h : Int) (xs : List Rk) (u dv : Value) (L0 : List Q4) (w0 w : World) (hy : YW yb gb h xs u dv w0) (hm : MapIs quadV gb (setK L0) w0) (hB0 : Free.Bel w0 w) (hl : w.heap[lb]? = some (.cells #[.slice none 0 0] 137 (0, 0))) (hlb : w0.heap.size ≤ lb) (h4 : xs.length ≤ 4) (hx : ∀ x ∈ xs, x.2.1 ≤ 6) (hG : GoodIs h xs 0 L0) (hT : L0.length ≤ 1296) :
    Calls Tryd.prog 90 #[.pointer (some ⟨yb, 0, none⟩), .func (.func 91) #[] #[.pointer (some ⟨lb, 0, none⟩)]] w (SettleTPost gb lb (w.heap.size + 1) h xs w0) := by
  have hmm := @run_makeMap Tryd.prog
  have hneq : ∀ w : World, (binOp BinOp.neq 140 (.func (.func 91) #[] #[.pointer (some ⟨lb, 0, none⟩)]) Value.nilFunc).run Tryd.prog w = .ok (.bool true) w := fun _ => by kernel_rfl
  have hgl0 := hm.lt
  have hgl : gb < w.heap.size := Nat.lt_of_lt_of_le hgl0 hB0.size
  obtain ⟨ob, hob, hoc⟩ := hm.obj
  have hKC : Hid (∀ W, w0.grownBy W (some gb) → KC w0 W) := fun W hW => KC.of_grown hW hob hoc
  have FY : ∀ W, w0.grownBy W (some gb) → W.cell? ⟨yb, 2, none⟩ = some (.map (some gb)) := fun W hW => (hKC.out W hW).cell hy.c2
  have HSTEP : Hid (∀ W (L : List Q4), w0.grownBy W (some gb) → MapIs quadV gb (setK L) W → ∀ (S : Nat → Int), (∀ i, 0 ≤ S i ∧ S i ≤ 1000000) → ∀ RTn RS RB, Hid (stepS xs S L (D7 h xs) = (RTn, RS, RB)) → Calls Tryd.prog 94 #[.pointer (some ⟨yb, 0, none⟩), stV S, .map (some gb)] W fun e w' => e = .returned (.tuple #[stB RTn, stV RS, .bool RB]) ∧ Below W.heap.size W w') :=
    fun W L hW hML S hS RTn RS RB hr => (hy.kc (hKC.out W hW)).step hML h4 S hS RTn RS RB hr
  have HLB : Hid (w0.heap.size ≤ lb ∧ lb < w.heap.size ∧ gb < w0.heap.size ∧ w0.heap.size ≤ w.heap.size) := ⟨hlb, lt_of_heap hl, hgl0, hB0.size⟩
  have HI0 : Hid (Inv0T gb w.heap.size lb L0.length h xs w0 (w.alloc (.map #[] 0))) := ⟨0, L0, [], .slice none 0 0, hG, (hm.bel hB0).bel (belAlloc _ _), grown_bel ⟨hB0.os, hB0.tape, hB0.output, hB0.size, fun k hk _ => hB0.block k hk⟩ (belAlloc _ _), ⟨[], MapIs.made quadV w⟩, ⟨heap_old hl, rfl, World.ownsRow_nil _ _ _ _, fun i hi => by simp at hi⟩, by omega⟩
  have HX : Hid (xs.length ≤ 4 ∧ ∀ x ∈ xs, x.2.1 ≤ 6) := ⟨h4, hx⟩
  have HGL := Lib.hid hgl
  have HT := Lib.hid hT
  clear hy hm h4 hx hG hob hoc hgl hKC hl hlb hB0 hgl0 hT
  go_enter Tryd.func90, Tryd.ntmps90
  go_wp2_with fail
  go_loopw [] (fun wr => Inv0T gb w.heap.size lb L0.length h xs w0 wr) (fun wr => mapLen gb wr)
  case atStart => exact HI0.out
  case round =>
    obtain ⟨k, L, gs, v, hGood, hML, hGr, ⟨G0, hMG⟩, hTl, hkT⟩ := hrel
    have hnb : w.heap.size ≠ gb := by have := HGL.out; omega
    have HLEN : Hid (mapLen gb wr = L.length) := by show _ = _; have := hML.len; simpa [setK] using this
    have HKT := Lib.hid hkT
    have HGOOD := Lib.hid hGood
    have HN := Lib.hid hGood.1
    have hMz : MapIs quadV gb (setK L) (wr.alloc (.map #[] 0)) := hML.bel (belAlloc _ _)
    obtain ⟨obk, hrngk, hItk⟩ := MapIs.range T.uGood hMz
    have hcz := FY (wr.alloc (.map #[] 0)) (grown_bel hGr (belAlloc _ _))
    have hszz : (wr.alloc (.map #[] 0)).heap.size = wr.heap.size + 1 := by simp
    rw [hszz] at hrngk hItk
    have HW0 := Lib.hid (And.intro hGr (And.intro hMG (And.intro hTl hML)))
    have HIV3 : Hid (Inv3 gb wr.heap.size (wr.heap.size + 1) L wr ((wr.alloc (.map #[] 0)).alloc obk)) := ⟨[], [], hItk, (MapIs.made quadV wr).bel (belAlloc _ _), List.nodup_nil, by simp, by simp, ((Below.refl _ wr).alloc (Nat.le_refl _) _).alloc (by simp) _⟩
    clear hGood hGr hMG hTl hML hMz hItk hkT
    go_wp2_with fail
    clear hrngk hcz hszz
    generalize hwA : (wr.alloc (.map #[] 0)).alloc obk = wA at *
    clear hwA
    obtain ⟨wz, hwz⟩ : ∃ y, y = wr := ⟨_, rfl⟩
    have HWZ := Lib.hid hwz
    rw [← hwz] at HIV3 HW0 ⊢
    clear hwz
    go_loopw [] (fun wr => Inv3 gb wz.heap.size (wz.heap.size + 1) L wz wr) (fun wr => iterLeft (wz.heap.size + 1) gb wr)
    case atStart => exact HIV3.out
    case round =>
      obtain ⟨done, K, hI, hMK, hKn, hdL, hKm, hBz⟩ := hrel
      rcases hI.next (P := Tryd.prog) (by rw [setK_keys]; exact HN.out) 0 with ⟨hall, hrun⟩ | ⟨q, v1, hq, hqn, wn, hrun, hI1, hent, hg1, hs1⟩
      · have HALLK : Hid (∀ q ∈ L, q ∈ done) := fun q hq => hall (q, .bool true) (List.mem_map.2 ⟨q, hq, rfl⟩)
        have hKL : GoodIs h xs k K := ⟨hKn, fun q => by
          rw [hKm, ← HGOOD.out.2]
          exact ⟨hdL q, HALLK.out q⟩⟩
        have hTE := HW0.out.2.2.1.bel (show Free.Bel wz wr from hBz)
        have HTC := Lib.hid (tell1_any lb (w.heap.size + 1) wz.heap.size k h xs gs v K wr hTE hKL hMK (by have := HW0.out.2.1.lt; omega) (by have := hBz.size; have := HW0.out.2.1.lt; omega) (by have := HLB.out.2.1; omega) (by have := HKT.out; have := HT.out; omega))
        have HBZ := Lib.hid hBz
        clear hall hI hMK hKn hdL hKm hBz hKL hTE
        go_wp2_with fail
        refine HTC.out.mono ?_
        rintro e w6 ⟨⟨x, rfl⟩, v6, hT6, hkeep6, hRX6⟩
        obtain ⟨hGr0, hMG0, hTl0, hML0⟩ := HW0.out
        have hmk : ∀ {g : Nat} {l : List (Q4 × Value)}, MapIs quadV g l wr → MapIs quadV g l w6 := fun {g l} hm => hm.of_block (by
          obtain ⟨o, h1, h2⟩ := hm.obj
          rw [h1]
          refine hkeep6 g o h1 (fun e => ?_) (fun c f e => by subst e; cases h2)
          subst e
          have h3 := (show Free.Bel wz wr from HBZ.out).block _ (lt_of_heap hTl0.box)
          rw [h1, hTl0.box] at h3
          cases h3
          cases h2)
        have hML : MapIs quadV gb (setK L) w6 := hmk (hML0.bel HBZ.out)
        have hMG : MapIs quadV w.heap.size (setK G0) w6 := hmk (hMG0.bel HBZ.out)
        have hGr : w0.grownBy w6 (some gb) := by
          have h9 : w0.grownBy wr (some gb) := grown_bel hGr0 HBZ.out
          have hl := HLB.out
          exact ⟨hRX6.os.trans h9.os, hRX6.tape.trans h9.tape, hRX6.output.trans h9.output, Nat.le_trans h9.size hRX6.size, fun i hi hne => (hRX6.block i (by omega) (by simp; omega)).trans (h9.block i hi hne)⟩
        have HT6 := Lib.hid hT6
        clear hT6 hkeep6 hRX6 hGr0 hMG0 hTl0 hML0 hmk hrun
        obtain ⟨wc, hclr, hgc, hMc, hsc⟩ := ML.MapIs.clear T.uGood hMG 0
        have hGc : w0.grownBy wc (some gb) := grown_new hGr hgc HLB.out.2.2.2
        have hMLc : MapIs quadV gb (setK L) wc := hML.kept hgc (by simpa using fun e => hnb e.symm)
        have hn1l : w.heap.size < wc.heap.size := hMc.lt
        obtain ⟨ob, hrng, hIt⟩ := ML.MapIs.range T.uGood hMLc
        have HIV : Hid (Inv1 gb w.heap.size wc.heap.size h xs L w0 (wc.alloc ob)) := ⟨[], [], hIt, hMc.bel (belAlloc _ _), grown_bel hGc (belAlloc _ _), List.nodup_nil, by simp, by simp⟩
        have hlbc := HLB.out
        have HTD := Lib.hid (show TellI lb (w.heap.size + 1) h xs (k + 1) (gs ++ [wz.heap.size]) v6 wc from HT6.out.rx (s0 := w6.heap.size) (gb := gb) (n1 := w.heap.size) (RX.of_grown hgc (.inr (by simp)) (Nat.le_refl _)) rfl (by omega) (by omega) (by omega) (by omega))
        have HKD := Lib.hid (show Free.Bel wc (wc.alloc ob) from belAlloc _ _)
        have hcy := FY wc hGc
        clear hMG hgc hMc hIt hML hsc hlbc
        go_wp2_with fail
        have HRN := Lib.hid hn1l
        clear hclr hrng hMLc hGc hGr hn1l hcy
        obtain ⟨rb, hrb⟩ : ∃ y, y = wc.heap.size := ⟨_, rfl⟩
        have hwds : (wc.alloc ob).heap.size = rb + 1 := by rw [hrb]; simp
        rw [← hrb] at HRN HIV ⊢
        generalize hw1 : wc.alloc ob = wd at *
        have HWD := Lib.hid hwds
        have HRB := Lib.hid hrb
        clear hw1 hrb hwds
        go_loopw [] (fun wr => Inv1 gb w.heap.size rb h xs L w0 wr ∧ RX rb [gb, w.heap.size] wd wr) (fun wr => iterLeft rb gb wr)
        case atStart => exact ⟨HIV.out, RX.refl _ _ _⟩
        case round =>
          obtain ⟨⟨done, G, hI, hMG, hGr, hGn, hdL, hGm⟩, hRX⟩ := hrel
          have HRX := Lib.hid hRX
          clear hRX
          rcases hI.next (P := Tryd.prog) (by rw [setK_keys]; exact HN.out) 0 with ⟨hall, hrun⟩ | ⟨q, v, hq, hqn, wn, hrun, hI1, hent, hg1, hs1⟩
          · have HALL : Hid (∀ q ∈ L, q ∈ done) := fun q hq => hall (q, .bool true) (List.mem_map.2 ⟨q, hq, rfl⟩)
            have hMLr := hI.map
            have HTX := Lib.hid (HTD.out.rx (s0 := rb) (gb := gb) (n1 := w.heap.size) (RX.trans _ _ _ (RX.of_bel HKD.out (by rw [HRB.out]; exact Nat.le_refl _)) HRX.out) HRB.out (by have := HLB.out; omega) (by omega) (by have := HLB.out; omega) (by have := HLB.out; omega))
            obtain ⟨es, cl, hhs, hlen⟩ : ∃ es cl, wr.heap[w.heap.size]? = some (.map es cl) ∧ es.size = G.length := by
              obtain ⟨es, cl, hhs, hes, _⟩ := hMG
              exact ⟨es, cl, hhs, by have := congrArg List.length hes; simpa [setK] using this⟩
            have HDL := Lib.hid hdL
            have HFIN := Lib.hid (And.intro hMLr (And.intro hMG (And.intro hGr (And.intro hGn hGm))))
            have hlr := run_len_map (P := Tryd.prog) 139 3 w.heap.size es cl (w := wr) (by kernel_rfl) hhs
            rw [hlen] at hlr
            by_cases hg0 : G = []
            · subst hg0
              have HLL := Lib.hid (And.intro hlr hlr)
              simp only [List.length_nil, Int.natCast_zero] at hlr
              clear hall hhs hlen hMG hMLr hI hGr hGn hGm hdL
              go_wp2_with fail
              refine bodyPost_ret (results_none rfl _ _ _) rfl ?_
              obtain ⟨hMLr, hMG, hGr, hGn, hGm⟩ := HFIN.out
              have hlast := HGOOD.out.last HX.out.1 fun q hq => (show badQ h xs L q = false from by
                cases hb : badQ h xs L q with
                | false => rfl
                | true => have := (hGm q).2 ⟨HALL.out q hq, hb⟩; simp at this)
              exact ⟨⟨_, rfl⟩, k, _, _, L, (by have := HKT.out; have := HT.out; omega), hlast.2, hMLr, hGr, HTX.out, hlast.1⟩
            · have g0 : ((G.length : Int) == 0) = false := by
                have : G.length ≠ 0 := fun e => hg0 (List.eq_nil_of_length_eq_zero e)
                simp only [beq_eq_false_iff_ne, ne_eq]; omega
              obtain ⟨ob2, hrng2, hIt2⟩ := ML.MapIs.range T.uGood hMG
              have HN2 := Lib.hid hGn
              have HIV2 : Hid (Inv2 gb w.heap.size wr.heap.size L G w0 (wr.alloc ob2)) := ⟨[], L, hIt2, hMLr.bel (belAlloc _ _), grown_bel hGr (belAlloc _ _), HN.out, List.nodup_nil, by simp, by simp, by simp⟩
              have hrl2 : w.heap.size < wr.heap.size := hMG.lt
              have HG0 := Lib.hid hg0
              clear hall hhs hlen hMG hMLr hI hGr hGn hGm hdL hIt2 hg0
              go_wp2_with fail
              have HRN2 := Lib.hid hrl2
              have HKE := Lib.hid (show Free.Bel wr (wr.alloc ob2) from belAlloc _ _)
              clear hlr hrng2 hrl2 g0
              obtain ⟨rb2, hrb⟩ : ∃ y, y = wr.heap.size := ⟨_, rfl⟩
              rw [← hrb] at HRN2 HIV2 ⊢
              have hwes : (wr.alloc ob2).heap.size = rb2 + 1 := by rw [hrb]; simp
              generalize hw1 : wr.alloc ob2 = we at *
              have HWE2 := Lib.hid hwes
              have HRB2 := Lib.hid hrb
              clear hw1 hrb hwes
              go_loopw [] (fun wr => Inv2 gb w.heap.size rb2 L G w0 wr ∧ RX rb2 [gb, w.heap.size] we wr) (fun wr => iterLeft rb2 w.heap.size wr)
              case atStart => exact ⟨HIV2.out, RX.refl _ _ _⟩
              case round =>
                obtain ⟨⟨done2, L2, hI, hML2, hGr, hLn, hdn, hdG, hLm, hLl⟩, hRX2⟩ := hrel
                have HRX2 := Lib.hid hRX2
                clear hRX2
                rcases hI.next (P := Tryd.prog) (by rw [setK_keys]; exact HN2.out) 0 with ⟨hall, hrun⟩ | ⟨q, v, hq, hqn, wn, hrun, hI1, hent, hg1, hs1⟩
                · have HALL2 : Hid (∀ q ∈ G, q ∈ done2) := fun q hq => hall (q, .bool true) (List.mem_map.2 ⟨q, hq, rfl⟩)
                  have HF2 := Lib.hid (And.intro hML2 (And.intro hI.map (And.intro hGr (And.intro hLn (And.intro hLm (And.intro hLl hdG))))))
                  clear hall hI hML2 hGr hLn hdn hdG hLm hLl
                  go_wp2_with fail
                  clear hrun
                  go_roundw
                  case rel =>
                    obtain ⟨hML2, hMG2, hGr, hLn, hLm, hLl, hdG⟩ := HF2.out
                    obtain ⟨_, _, _, hGn, hGm⟩ := HFIN.out
                    have hne : done2 ≠ [] := by
                      rintro rfl
                      refine HG0.out ?_
                      match G, HALL2.out with
                      | [], _ => rfl
                      | a :: r, h9 => have := h9 a (by simp); simp at this
                    have hpos : 0 < done2.length := List.length_pos_iff.2 hne
                    have hkt := HKT.out
                    refine ⟨k + 1, L2, _, _, HGOOD.out.next HX.out.1 hLn fun q => ?_, hML2, hGr, ⟨G, hMG2⟩, HTX.out.rx (s0 := rb2) (gb := gb) (n1 := w.heap.size) (RX.trans _ _ _ (RX.of_bel HKE.out (by rw [HRB2.out]; exact Nat.le_refl _)) HRX2.out) HRB2.out (by have := HLB.out; omega) (by omega) (by have := HLB.out; omega) (by have := HLB.out; omega), by omega⟩
                    rw [hLm]
                    constructor
                    · rintro ⟨h1, h2⟩
                      refine ⟨h1, ?_⟩
                      cases hb : badQ h xs L q with
                      | false => rfl
                      | true => exact absurd (HALL2.out q ((hGm q).2 ⟨HALL.out q h1, hb⟩)) h2
                    · rintro ⟨h1, h2⟩
                      refine ⟨h1, fun h3 => ?_⟩
                      rw [((hGm q).1 (hdG q h3)).2] at h2
                      cases h2
                  case measure =>
                    obtain ⟨hML2, hMG2, hGr, hLn, hLm, hLl, hdG⟩ := HF2.out
                    have e := hML2.len
                    have e2 := HLEN.out
                    have : done2 ≠ [] := by
                      rintro rfl
                      refine HG0.out ?_
                      match G, HALL2.out with
                      | [], _ => rfl
                      | a :: r, h9 => have := h9 a (by simp); simp at this
                    have : 0 < done2.length := List.length_pos_iff.2 this
                    simp [setK] at e
                    omega
                · obtain ⟨hqG, hv⟩ := setK_mem hq
                  subst hv
                  obtain ⟨S, hS⟩ : ∃ S, S = unq q := ⟨_, rfl⟩
                  have hqS : q = q4 S := by rw [hS]; rfl
                  have hrun2 : (Instr.next (.pointer (some ⟨rb2, 0, none⟩)) false 0).run Tryd.prog wr = .ok (.tuple #[.bool true, .agg #[.int .i64 (S 0), .int .i64 (S 1), .int .i64 (S 2), .int .i64 (S 3)], .bool true]) wn := by rw [hrun, hqS]; rfl
                  have hent2 : (Instr.entry (.pointer (some ⟨rb2, 0, none⟩))).run Tryd.prog wn = .ok (.tuple #[.agg #[.int .i64 (S 0), .int .i64 (S 1), .int .i64 (S 2), .int .i64 (S 3)], .bool true]) wn := by rw [hent, hqS]; rfl
                  have hGn1 : w0.grownBy wn (some gb) := grown_new hGr hg1 (by have := HRN2.out; have := HLB.out; omega)
                  have hMLn : MapIs quadV gb (setK L2) wn := hML2.kept hg1 (by have := HRN2.out; have := HGL.out; simp; omega)
                  have KA : Free.Bel wn (wn.alloc (.cells (arrV S) 109)) := belAlloc _ _
                  have mS : (wn.alloc (.cells (arrV S) 109)).heap[wn.heap.size]? = some (.cells (arrV S) 109 (0, 0)) := World.alloc_heap_new wn _
                  have HG1 := Lib.hid hg1
                  have HIT := Lib.hid hI1
                  have HDEC := Lib.hid (iter_less hI hI1 hq hqn)
                  have HLL := Lib.hid (And.intro hLn (And.intro hdn (And.intro hdG (And.intro hLm hLl))))
                  have HQS := Lib.hid (And.intro hqS (And.intro hqG hqn))
                  have HGW := Lib.hid hGn1
                  have HMN := Lib.hid hMLn
                  clear hrun hent hqS hS hI hI1 hq hqn hqG hLn hdn hdG hLm hLl hGr hML2 hg1 hs1 hGn1 hMLn
                  go_wp2_with fail
                  clear hrun2 hent2
                  generalize hwa : (wn.alloc (.cells (arrV S) 109)) = wa at *
                  have hG9 : w0.grownBy wa (some gb) := grown_bel HGW.out KA
                  have hM9 : MapIs quadV gb (setK L2) wa := HMN.out.bel KA
                  obtain ⟨z0, z1, z2, z3, _⟩ := cells4 mS
                  obtain ⟨ogb, hogb, hogc⟩ := hM9.obj
                  have hM9d : MapIs quadV gb (setK L2) wa.drew := hM9
                  have hKW : ∀ W, World.grownBy wa.drew W (some gb) → KC wa W := fun W hW => KC.of_grown (grown_drew hW) hogb hogc
                  have hyc := FY wa hG9
                  have hF : ∀ W, World.grownBy wa.drew W (some gb) → (W.cell? ⟨yb, 2, none⟩ = some (.map (some gb)) ∧ W.cell? ⟨wn.heap.size, 0, none⟩ = some (.int .i64 (S 0)) ∧ W.cell? ⟨wn.heap.size, 1, none⟩ = some (.int .i64 (S 1)) ∧ W.cell? ⟨wn.heap.size, 2, none⟩ = some (.int .i64 (S 2)) ∧ W.cell? ⟨wn.heap.size, 3, none⟩ = some (.int .i64 (S 3))) := fun W hW =>
                    ⟨(hKW W hW).cell hyc, (hKW W hW).cell z0, (hKW W hW).cell z1, (hKW W hW).cell z2, (hKW W hW).cell z3⟩
                  refine Free2.wp_free (R := (fun a b => World.grownBy a b (some gb))) (J := JD 5 gb (setK L2) (setK (eraK (q4 S) L2))) (by kernel_rfl) (by kernel_rfl) (fun a => World.grownBy.refl a _) (fun _ _ _ => World.grownBy.trans) ⟨fun _ => hM9d, fun e => absurd rfl e⟩ ?_
                  refine Free2.Chain.ex ?_ 0 rfl [] [0] (by kernel_rfl) (by kernel_rfl) rfl (fun a => World.grownBy.refl a _) (fun X W v h => JD.skip h 0 v (by simp)) ?_ ?_
                  rotate_left
                  · (intro ev W hb hR hO hD; have hS := hF W hR; obtain ⟨hb1, hb2, hb3⟩ := hb; simp only [Free.AllDeps, Free.AllOuts, Free.At, al1, al2, al3, al4, al5, and_true] at hO hD; go_simp; rfl)
                  simp only [an1, an2]
                  refine Free2.Chain.ex ?_ 1 rfl [(0, 64)] [] (by kernel_rfl) (by kernel_rfl) rfl (fun a => World.grownBy.refl a _) (fun X W v h => JD.skip h 1 v (by simp)) ?_ ?_
                  rotate_left
                  · (intro ev W hb hR hO hD; have hS := hF W hR; obtain ⟨hb1, hb2, hb3⟩ := hb; simp only [Free.AllDeps, Free.AllOuts, Free.At, al1, al2, al3, al4, al5, and_true] at hO hD; go_simp; rfl)
                  simp only [an1, an2]
                  refine Free2.Chain.ex ?_ 2 rfl [(1, 65)] [] (by kernel_rfl) (by kernel_rfl) rfl (fun a => World.grownBy.refl a _) (fun X W v h => JD.skip h 2 v (by simp)) ?_ ?_
                  rotate_left
                  · (intro ev W hb hR hO hD; have hS := hF W hR; obtain ⟨hb1, hb2, hb3⟩ := hb; simp only [Free.AllDeps, Free.AllOuts, Free.At, al1, al2, al3, al4, al5, and_true] at hO hD; go_simp; rfl)
                  simp only [an1, an2]
                  refine Free2.Chain.ex ?_ 3 rfl [(2, 66)] [] (by kernel_rfl) (by kernel_rfl) rfl (fun a => World.grownBy.refl a _) (fun X W v h => JD.skip h 3 v (by simp)) ?_ ?_
                  rotate_left
                  · (intro ev W hb hR hO hD; have hS := hF W hR; obtain ⟨hb1, hb2, hb3⟩ := hb; simp only [Free.AllDeps, Free.AllOuts, Free.At, al1, al2, al3, al4, al5, and_true] at hO hD; go_simp; rfl)
                  simp only [an1, an2]
                  refine Free2.Chain.ex ?_ 4 rfl [] [11] (by kernel_rfl) (by kernel_rfl) rfl (fun a => World.grownBy.refl a _) (fun X W v h => JD.skip h 4 v (by simp)) ?_ ?_
                  rotate_left
                  · (intro ev W hb hR hO hD; have hS := hF W hR; obtain ⟨hb1, hb2, hb3⟩ := hb; simp only [Free.AllDeps, Free.AllOuts, Free.At, al1, al2, al3, al4, al5, and_true] at hO hD; go_simp; rfl)
                  simp only [an1, an2]
                  refine Free2.Chain.pr (fun _ _ => True) 5 rfl [(3, 67), (4, 68)] [] (by kernel_rfl) (by kernel_rfl) rfl (fun _ _ _ _ h => h) ?_ ?_
                  · (intro ev W X hb hR hO hD hj hx hax; have hS := hF W hR; obtain ⟨hb1, hb2, hb3⟩ := hb; simp only [Free.AllDeps, Free.AllOuts, Free.At, al1, al2, al3, al4, al5, and_true] at hO hD; simp only [Free2.AllX, and_true] at hax; obtain ⟨w7, f1, f2, f3, f4⟩ := (hj.a hx).delete T.quads T.uGood (ty := 0) (q4 S); rw [assocDel_eq, delR_setK] at f3; have f5 : (Builtin.delete_ #[139, 109] 0 #[.map (some gb), .agg #[.int .i64 (S 0), .int .i64 (S 1), .int .i64 (S 2), .int .i64 (S 3)]]).run Tryd.prog W = .ok (.tuple #[]) w7 := f1; clear f1; go_simp; exact ⟨f2, JD.did _ f3⟩)
                  simp only [an1, an2]
                  intro ys w' hR hV hX
                  obtain ⟨X, hj, hxx⟩ := hX
                  simp only [Free.AllV, Free.At, List.length_cons, List.length_nil, Nat.reduceAdd, List.getElem?_cons_succ, List.getElem?_cons_zero, true_and, and_true] at hV
                  simp only [Free.putsFrom, Act.put, Nat.zero_add, Nat.reduceAdd, hV, List.setIfInBounds_toArray, List.set_cons_succ, List.set_cons_zero]
                  have hM7 := hj.b (by rw [hxx 5 (by decide)]; simp)
                  have hRW : wa.grownBy w' (some gb) := grown_drew hR
                  have hI7 := (HIT.out.bel KA).of_blocks (hRW.block w.heap.size (HIT.out.bel KA).lt.1 (by have := HGL.out; simp; omega)) (hRW.block rb2 (HIT.out.bel KA).lt.2 (by have := HGL.out; have := HRN2.out; simp; omega))
                  have hG7 : w0.grownBy w' (some gb) := hG9.trans hRW
                  have HDE7 : Hid (iterLeft rb2 w.heap.size w' < iterLeft rb2 w.heap.size wr) := by
                    have := HDEC.out
                    have e : iterLeft rb2 w.heap.size w' = iterLeft rb2 w.heap.size wn := by rw [hI7.left, HIT.out.left]
                    show _ < _
                    omega
                  have HRX7 := Lib.hid (RX.trans _ _ _ HRX2.out (RX.trans _ _ _ (RX.of_grown (s0 := rb2) (bs := [gb, w.heap.size]) HG1.out (.inl (Nat.le_refl _)) (by have := HRX2.out.size; have := HWE2.out; omega)) (RX.trans _ _ _ (RX.of_bel KA (by have := HRX2.out.size; have := HG1.out.size; have := HWE2.out; omega)) (RX.of_grown (s0 := rb2) (bs := [gb, w.heap.size]) hRW (.inr (by simp)) (by have := HRX2.out.size; have := HG1.out.size; have := HWE2.out; have := KA.size; omega)))))
                  have HALL7 := Lib.hid (And.intro hI7 (And.intro hM7 hG7))
                  clear hR hV hF hj hxx hM7 hRW hI7 hG7 hM9 hM9d hKW hyc hogb hogc hG9 z0 z1 z2 z3 KA mS
                  go_wp2_with fail
                  go_roundw
                  case rel =>
                    obtain ⟨hLn, hdn, hdG, hLm, hLl⟩ := HLL.out
                    obtain ⟨hqS, hqG, hqn⟩ := HQS.out
                    obtain ⟨hI7, hM7, hG7⟩ := HALL7.out
                    rw [← hqS] at hM7
                    have hqL : q ∈ L := ((HFIN.out.2.2.2.2 q).1 hqG).1 |> fun h => HDL.out q h
                    have hqL2 : q ∈ L2 := (hLm q).2 ⟨hqL, hqn⟩
                    refine ⟨⟨q :: done2, eraK q L2, hI7, hM7, hG7, nodup_eraK hLn, List.nodup_cons.2 ⟨hqn, hdn⟩, fun y hy => ?_, fun y => ?_, ?_⟩, HRX7.out⟩
                    · rcases List.mem_cons.1 hy with rfl | hy
                      · exact hqG
                      · exact hdG y hy
                    · rw [mem_eraK hLn, hLm, List.mem_cons, not_or]
                      constructor
                      · rintro ⟨h1, h2, h3⟩; exact ⟨h2, h1, h3⟩
                      · rintro ⟨h2, h1, h3⟩; exact ⟨h1, h2, h3⟩
                    · have := List.length_pos_of_mem hqL2
                      rw [length_eraK hqL2, List.length_cons]
                      omega
                  case measure => exact HDE7.out
          · obtain ⟨hqL, hv⟩ := setK_mem hq
            subst hv
            obtain ⟨S, hS⟩ : ∃ S, S = unq q := ⟨_, rfl⟩
            have hqS : q = q4 S := by rw [hS]; rfl
            have hst : ∃ ys, StOf xs ys ∧ S = waits ys := by
              obtain ⟨ys, hy, _, e⟩ := (HGOOD.out.2 q).1 hqL
              exact ⟨ys, hy, by rw [hS, e, unq_waits (by have := hy.1.length; have := HX.out.1; omega)]⟩
            obtain ⟨ys, hyst, hSy⟩ := hst
            have hSb : ∀ i, 0 ≤ S i ∧ S i ≤ 1000000 := fun i => by rw [hSy]; exact waits_st hyst HX.out.2 i
            obtain ⟨⟨RTn, RS, RB⟩, hRR⟩ : ∃ y, stepS xs S L (D7 h xs) = y := ⟨_, rfl⟩
            have HBAD : Hid (badQ h xs L q = !RB) := by show _ = _; rw [badQ, ← hS, hRR]
            have hrun2 : (Instr.next (.pointer (some ⟨rb, 0, none⟩)) false 0).run Tryd.prog wr = .ok (.tuple #[.bool true, .agg #[.int .i64 (S 0), .int .i64 (S 1), .int .i64 (S 2), .int .i64 (S 3)], .bool true]) wn := by rw [hrun, hqS]; rfl
            have hent2 : (Instr.entry (.pointer (some ⟨rb, 0, none⟩))).run Tryd.prog wn = .ok (.tuple #[.agg #[.int .i64 (S 0), .int .i64 (S 1), .int .i64 (S 2), .int .i64 (S 3)], .bool true]) wn := by rw [hent, hqS]; rfl
            have hGn1 : w0.grownBy wn (some gb) := grown_new hGr hg1 (by have := HRN.out; have := HLB.out; omega)
            have hMGn : MapIs quadV w.heap.size (setK G) wn := hMG.kept hg1 (by have := HRN.out; simp; omega)
            have KA : Free.Bel wn (wn.alloc (.cells (arrV S) 109)) := belAlloc _ _
            have mS : (wn.alloc (.cells (arrV S) 109)).heap[wn.heap.size]? = some (.cells (arrV S) 109 (0, 0)) := World.alloc_heap_new wn _
            have HSC := Lib.hid (fun (W : World) (hW : Free.Bel (wn.alloc (.cells (arrV S) 109)) W) => HSTEP.out W L (grown_bel (grown_bel hGn1 KA) hW) ((hI1.bel KA).bel hW).map S hSb RTn RS RB (Lib.hid hRR))
            have HIT := Lib.hid hI1
            have HDEC := Lib.hid (iter_less hI hI1 hq hqn)
            have HG1 := Lib.hid hg1
            have HGG := Lib.hid (And.intro hGn (And.intro hdL hGm))
            have HQS := Lib.hid (And.intro hqS (And.intro hqL hqn))
            have HGW := Lib.hid hGn1
            have HMN := Lib.hid hMGn
            clear hrun hent hqS hSy hyst hSb hRR hS hI hI1 hq hqn hqL hGn hdL hGm hGr hMG hg1 hs1 hGn1 hMGn
            go_wp2_with fail
            clear hrun2 hent2
            generalize hwa : (wn.alloc (.cells (arrV S) 109)) = wa at *
            have FA : ∀ W, Free.Bel wa W → W.cell? ⟨yb, 2, none⟩ = some (.map (some gb)) ∧ W.cell? ⟨wn.heap.size, 0, none⟩ = some (.int .i64 (S 0)) ∧ W.cell? ⟨wn.heap.size, 1, none⟩ = some (.int .i64 (S 1)) ∧ W.cell? ⟨wn.heap.size, 2, none⟩ = some (.int .i64 (S 2)) ∧ W.cell? ⟨wn.heap.size, 3, none⟩ = some (.int .i64 (S 3)) := fun W hW =>
              ⟨FY W (grown_bel HGW.out (bt KA hW)), keepsB hW (cell_of_heap mS rfl), keepsB hW (cell_of_heap mS rfl), keepsB hW (cell_of_heap mS rfl), keepsB hW (cell_of_heap mS rfl)⟩
            have hF : ∀ W, Below wa.heap.size wa.drew W → Free.Bel wa W := fun W hW => (show Below wa.heap.size wa W from ((Below.refl _ wa).drew).trans hW)
            refine Free2.wp_free (R := Below wa.heap.size) (J := LL wa.heap.size [⟨11, 13, (.cells #[.bool false, .bool false, .bool false, .bool false] 149), (.cells #[.bool (RTn 0), .bool (RTn 1), .bool (RTn 2), .bool (RTn 3)] 149)⟩, ⟨12, 14, (.cells #[.int .i64 0, .int .i64 0, .int .i64 0, .int .i64 0] 109), (.cells #[.int .i64 (RS 0), .int .i64 (RS 1), .int .i64 (RS 2), .int .i64 (RS 3)] 109)⟩]) (by kernel_rfl) (by kernel_rfl) (Below.refl _) (fun _ _ _ => Below.trans) (LL.start (Nat.le_refl _)) ?_
            refine Free2.Chain.ex ?_ 0 rfl [] [0] (by kernel_rfl) (by kernel_rfl) rfl (Below.refl _) (fun X W v h => LL.skip h 0 v (by simp)) ?_ ?_
            rotate_left
            · (intro ev W hb hR hO hD; have hS0 := hF W hR; have hS := FA W hS0; obtain ⟨hb1, hb2, hb3⟩ := hb; simp only [Free.AllDeps, Free.AllOuts, Free.At, al1, al2, al3, al4, al5, and_true] at hO hD; go_simp; rfl)
            simp only [an1, an2]
            refine Free2.Chain.ex ?_ 1 rfl [] [7] (by kernel_rfl) (by kernel_rfl) rfl (Below.refl _) (fun X W v h => LL.skip h 1 v (by simp)) ?_ ?_
            rotate_left
            · (intro ev W hb hR hO hD; have hS0 := hF W hR; have hS := FA W hS0; obtain ⟨hb1, hb2, hb3⟩ := hb; simp only [Free.AllDeps, Free.AllOuts, Free.At, al1, al2, al3, al4, al5, and_true] at hO hD; go_simp; rfl)
            simp only [an1, an2]
            refine Free2.Chain.ex ?_ 2 rfl [] [0] (by kernel_rfl) (by kernel_rfl) rfl (Below.refl _) (fun X W v h => LL.skip h 2 v (by simp)) ?_ ?_
            rotate_left
            · (intro ev W hb hR hO hD; have hS0 := hF W hR; have hS := FA W hS0; obtain ⟨hb1, hb2, hb3⟩ := hb; simp only [Free.AllDeps, Free.AllOuts, Free.At, al1, al2, al3, al4, al5, and_true] at hO hD; go_simp; rfl)
            simp only [an1, an2]
            refine Free2.Chain.ex ?_ 3 rfl [(2, 43)] [] (by kernel_rfl) (by kernel_rfl) rfl (Below.refl _) (fun X W v h => LL.skip h 3 v (by simp)) ?_ ?_
            rotate_left
            · (intro ev W hb hR hO hD; have hS0 := hF W hR; have hS := FA W hS0; obtain ⟨hb1, hb2, hb3⟩ := hb; simp only [Free.AllDeps, Free.AllOuts, Free.At, al1, al2, al3, al4, al5, and_true] at hO hD; go_simp; rfl)
            simp only [an1, an2]
            refine Free2.Chain.ex ?_ 4 rfl [(3, 44)] [] (by kernel_rfl) (by kernel_rfl) rfl (Below.refl _) (fun X W v h => LL.skip h 4 v (by simp)) ?_ ?_
            rotate_left
            · (intro ev W hb hR hO hD; have hS0 := hF W hR; have hS := FA W hS0; obtain ⟨hb1, hb2, hb3⟩ := hb; simp only [Free.AllDeps, Free.AllOuts, Free.At, al1, al2, al3, al4, al5, and_true] at hO hD; go_simp; rfl)
            simp only [an1, an2]
            refine Free2.Chain.ex ?_ 5 rfl [(4, 45)] [] (by kernel_rfl) (by kernel_rfl) rfl (Below.refl _) (fun X W v h => LL.skip h 5 v (by simp)) ?_ ?_
            rotate_left
            · (intro ev W hb hR hO hD; have hS0 := hF W hR; have hS := FA W hS0; obtain ⟨hb1, hb2, hb3⟩ := hb; simp only [Free.AllDeps, Free.AllOuts, Free.At, al1, al2, al3, al4, al5, and_true] at hO hD; go_simp; rfl)
            simp only [an1, an2]
            refine Free2.Chain.pr (fun v _ => v = .tuple #[stB RTn, stV RS, .bool RB]) 6 rfl [(0, 41), (1, 42), (5, 46)] [] (by kernel_rfl) (by kernel_rfl) rfl (fun _ _ _ _ h => h) ?_ ?_
            · (intro ev W X hb hR hO hD hj hx hax; have hS0 := hF W hR; have hS := FA W hS0; obtain ⟨hb1, hb2, hb3⟩ := hb; simp only [Free.AllDeps, Free.AllOuts, Free.At, al1, al2, al3, al4, al5, and_true] at hO hD; simp only [Free2.AllX, and_true] at hax; go_simp; refine yields_enter ?_; (with_reducible refine (HSC.out _ hS0).mono ?_); rintro e W2 ⟨rfl, hB2⟩; exact ⟨_, rfl, hB2.mono hj.size, rfl, (hj.bel hB2).skip 6 _ (by simp)⟩)
            simp only [an1, an2]
            refine Free2.Chain.ex ?_ 7 rfl [(6, 47)] [] (by kernel_rfl) (by kernel_rfl) rfl (Below.refl _) (fun X W v h => LL.skip h 7 v (by simp)) ?_ ?_
            rotate_left
            · (intro ev W hb hR hO hD; have hS0 := hF W hR; have hS := FA W hS0; obtain ⟨hb1, hb2, hb3⟩ := hb; simp only [Free.AllDeps, Free.AllOuts, Free.At, al1, al2, al3, al4, al5, and_true] at hO hD; go_simp; rfl)
            simp only [an1, an2]
            refine Free2.Chain.ex ?_ 8 rfl [(7, 40)] [] (by kernel_rfl) (by kernel_rfl) rfl (Below.refl _) (fun X W v h => LL.skip h 8 v (by simp)) ?_ ?_
            rotate_left
            · (intro ev W hb hR hO hD; have hS0 := hF W hR; have hS := FA W hS0; obtain ⟨hb1, hb2, hb3⟩ := hb; simp only [Free.AllDeps, Free.AllOuts, Free.At, al1, al2, al3, al4, al5, and_true] at hO hD; go_simp; rfl)
            simp only [an1, an2]
            refine Free2.Chain.ex ?_ 9 rfl [(7, 40)] [] (by kernel_rfl) (by kernel_rfl) rfl (Below.refl _) (fun X W v h => LL.skip h 9 v (by simp)) ?_ ?_
            rotate_left
            · (intro ev W hb hR hO hD; have hS0 := hF W hR; have hS := FA W hS0; obtain ⟨hb1, hb2, hb3⟩ := hb; simp only [Free.AllDeps, Free.AllOuts, Free.At, al1, al2, al3, al4, al5, and_true] at hO hD; go_simp; rfl)
            simp only [an1, an2]
            refine Free2.Chain.ex ?_ 10 rfl [(7, 40)] [] (by kernel_rfl) (by kernel_rfl) rfl (Below.refl _) (fun X W v h => LL.skip h 10 v (by simp)) ?_ ?_
            rotate_left
            · (intro ev W hb hR hO hD; have hS0 := hF W hR; have hS := FA W hS0; obtain ⟨hb1, hb2, hb3⟩ := hb; simp only [Free.AllDeps, Free.AllOuts, Free.At, al1, al2, al3, al4, al5, and_true] at hO hD; go_simp; rfl)
            simp only [an1, an2]
            refine Free2.Chain.pr (fun v _ => ∃ b, v = ptr b) 11 rfl [] [] (by kernel_rfl) (by kernel_rfl) rfl (fun _ _ _ _ h => h) ?_ ?_
            · (intro ev W X hb hR hO hD hj hx hax; have hS0 := hF W hR; have hS := FA W hS0; obtain ⟨hb1, hb2, hb3⟩ := hb; simp only [Free.AllDeps, Free.AllOuts, Free.At, al1, al2, al3, al4, al5, and_true] at hO hD; simp only [Free2.AllX, and_true] at hax; go_simp; exact ⟨(Below.refl _ W).alloc hj.size _, ⟨_, rfl⟩, hj.new ⟨11, 13, (.cells #[.bool false, .bool false, .bool false, .bool false] 149), (.cells #[.bool (RTn 0), .bool (RTn 1), .bool (RTn 2), .bool (RTn 3)] 149)⟩ (by simp) (by simp) hx⟩)
            simp only [an1, an2]
            refine Free2.Chain.pr (fun v _ => ∃ b, v = ptr b) 12 rfl [] [] (by kernel_rfl) (by kernel_rfl) rfl (fun _ _ _ _ h => h) ?_ ?_
            · (intro ev W X hb hR hO hD hj hx hax; have hS0 := hF W hR; have hS := FA W hS0; obtain ⟨hb1, hb2, hb3⟩ := hb; simp only [Free.AllDeps, Free.AllOuts, Free.At, al1, al2, al3, al4, al5, and_true] at hO hD; simp only [Free2.AllX, and_true] at hax; go_simp; exact ⟨(Below.refl _ W).alloc hj.size _, ⟨_, rfl⟩, hj.new ⟨12, 14, (.cells #[.int .i64 0, .int .i64 0, .int .i64 0, .int .i64 0] 109), (.cells #[.int .i64 (RS 0), .int .i64 (RS 1), .int .i64 (RS 2), .int .i64 (RS 3)] 109)⟩ (by simp) (by simp) hx⟩)
            simp only [an1, an2]
            refine Free2.Chain.pr (fun _ _ => True) 13 rfl [(11, 8), (8, 48), (6, 47), (0, 41), (1, 42), (2, 43), (3, 44), (4, 45), (5, 46), (6, 47), (7, 40), (8, 48), (11, 8), (12, 9)] [] (by kernel_rfl) (by kernel_rfl) rfl (fun _ _ _ _ h => h) ?_ ?_
            · (intro ev W X hb hR hO hD hj hx hax; have hS0 := hF W hR; have hS := FA W hS0; obtain ⟨hb1, hb2, hb3⟩ := hb; simp only [Free.AllDeps, Free.AllOuts, Free.At, al1, al2, al3, al4, al5, and_true] at hO hD; simp only [Free2.AllX, and_true] at hax; obtain ⟨b, hb9, hs0, hbl⟩ := hj.at_ ⟨11, 13, (.cells #[.bool false, .bool false, .bool false, .bool false] 149), (.cells #[.bool (RTn 0), .bool (RTn 1), .bool (RTn 2), .bool (RTn 3)] 149)⟩ (by simp) hax.1 hx; have hX := hax.1; rw [hb9] at hX; have hp := hj.puts ⟨11, 13, (.cells #[.bool false, .bool false, .bool false, .bool false] 149), (.cells #[.bool (RTn 0), .bool (RTn 1), .bool (RTn 2), .bool (RTn 3)] 149)⟩ (by simp) (by simp) hX hs0 hbl [(0, .bool (RTn 0)), (1, .bool (RTn 1)), (2, .bool (RTn 2)), (3, .bool (RTn 3))] rfl; obtain ⟨y0, y1, y2, y3, t0, t1, t2, t3⟩ := cells4 hbl; go_simp; exact ⟨(hp undef).1, (hp _).2⟩)
            simp only [an1, an2]
            refine Free2.Chain.pr (fun _ _ => True) 14 rfl [(12, 9), (9, 49), (0, 41), (1, 42), (2, 43), (3, 44), (4, 45), (5, 46), (6, 47), (7, 40), (8, 48), (9, 49), (11, 8), (12, 9)] [] (by kernel_rfl) (by kernel_rfl) rfl (fun _ _ _ _ h => h) ?_ ?_
            · (intro ev W X hb hR hO hD hj hx hax; have hS0 := hF W hR; have hS := FA W hS0; obtain ⟨hb1, hb2, hb3⟩ := hb; simp only [Free.AllDeps, Free.AllOuts, Free.At, al1, al2, al3, al4, al5, and_true] at hO hD; simp only [Free2.AllX, and_true] at hax; obtain ⟨b, hb9, hs0, hbl⟩ := hj.at_ ⟨12, 14, (.cells #[.int .i64 0, .int .i64 0, .int .i64 0, .int .i64 0] 109), (.cells #[.int .i64 (RS 0), .int .i64 (RS 1), .int .i64 (RS 2), .int .i64 (RS 3)] 109)⟩ (by simp) hax.1 hx; have hX := hax.1; rw [hb9] at hX; have hp := hj.puts ⟨12, 14, (.cells #[.int .i64 0, .int .i64 0, .int .i64 0, .int .i64 0] 109), (.cells #[.int .i64 (RS 0), .int .i64 (RS 1), .int .i64 (RS 2), .int .i64 (RS 3)] 109)⟩ (by simp) (by simp) hX hs0 hbl [(0, .int .i64 (RS 0)), (1, .int .i64 (RS 1)), (2, .int .i64 (RS 2)), (3, .int .i64 (RS 3))] rfl; obtain ⟨y0, y1, y2, y3, t0, t1, t2, t3⟩ := cells4 hbl; go_simp; exact ⟨(hp undef).1, (hp _).2⟩)
            simp only [an1, an2]
            refine Free2.Chain.ex ?_ 15 rfl [(10, 50), (0, 41), (1, 42), (2, 43), (3, 44), (4, 45), (5, 46), (6, 47), (7, 40), (8, 48), (9, 49), (10, 50), (11, 8), (12, 9)] [] (by kernel_rfl) (by kernel_rfl) rfl (Below.refl _) (fun X W v h => LL.skip h 15 v (by simp)) ?_ ?_
            rotate_left
            · (intro ev W hb hR hO hD; have hS0 := hF W hR; have hS := FA W hS0; obtain ⟨hb1, hb2, hb3⟩ := hb; simp only [Free.AllDeps, Free.AllOuts, Free.At, al1, al2, al3, al4, al5, and_true] at hO hD; go_simp; rfl)
            simp only [an1, an2]
            intro xs' w5 hR hV hX
            obtain ⟨X, hj, hxx⟩ := hX
            simp only [Free.AllV, Free.At, List.length_cons, List.length_nil, Nat.reduceAdd, List.getElem?_cons_succ, List.getElem?_cons_zero, true_and, and_true] at hV
            obtain ⟨g8, hg8, _⟩ := hj.done ⟨11, 13, (.cells #[.bool false, .bool false, .bool false, .bool false] 149), (.cells #[.bool (RTn 0), .bool (RTn 1), .bool (RTn 2), .bool (RTn 3)] 149)⟩ (by simp) (hxx 11 (by decide)) (hxx 13 (by decide))
            obtain ⟨g9, hg9, _⟩ := hj.done ⟨12, 14, (.cells #[.int .i64 0, .int .i64 0, .int .i64 0, .int .i64 0] 109), (.cells #[.int .i64 (RS 0), .int .i64 (RS 1), .int .i64 (RS 2), .int .i64 (RS 3)] 109)⟩ (by simp) (hxx 12 (by decide)) (hxx 14 (by decide))
            simp only [Free.putsFrom, Act.put, Nat.zero_add, Nat.reduceAdd, hV, hg8, hg9, List.setIfInBounds_toArray, List.set_cons_succ, List.set_cons_zero]
            have K5 : Free.Bel wa w5 := hF w5 hR
            obtain ⟨f0, f1, f2, f3, f4⟩ := FA w5 K5
            have KN := bt KA K5
            have hI5 := HIT.out.bel KN
            have hG5 := grown_bel HGW.out KN
            have hM5 := HMN.out.bel KN
            have HDE5 : Hid (iterLeft rb gb w5 < iterLeft rb gb wr) := by
              have := HDEC.out
              have e : iterLeft rb gb w5 = iterLeft rb gb wn := by rw [hI5.left, HIT.out.left]
              show _ < _
              omega
            have HRX5 := Lib.hid (RX.trans _ _ _ HRX.out (RX.trans _ _ _ (RX.of_grown (s0 := rb) (bs := [gb, w.heap.size]) HG1.out (.inl (Nat.le_refl _)) (by have := HRX.out.size; have := HWD.out; omega)) (RX.of_bel KN (by have := HRX.out.size; have := HG1.out.size; have := HWD.out; omega))))
            clear hR hV hj hxx hg8 hg9 hF FA mS KA K5 KN
            cases RB with
            | true =>
              go_wp2_with fail
              go_roundw
              case rel =>
                obtain ⟨hGn, hdL, hGm⟩ := HGG.out
                obtain ⟨hqS, hqL, hqn⟩ := HQS.out
                refine ⟨⟨q :: done, G, hI5, hM5, hG5, hGn, fun y hy => ?_, fun y => ?_⟩, HRX5.out⟩
                · rcases List.mem_cons.1 hy with rfl | hy
                  · exact hqL
                  · exact hdL y hy
                · rw [hGm, List.mem_cons]
                  constructor
                  · exact fun ⟨h1, h2⟩ => ⟨.inr h1, h2⟩
                  · rintro ⟨rfl | h1, h2⟩
                    · rw [HBAD.out] at h2; cases h2
                    · exact ⟨h1, h2⟩
              case measure => exact HDE5.out
            | false =>
              obtain ⟨w6, hup, hg6, hM6, hs6⟩ := good_update hM5 S
              have hI6 := hI5.of_blocks (hg6.block gb hI5.lt.1 (by have := HGL.out; simp; omega)) (hg6.block rb hI5.lt.2 (by have := HRN.out; simp; omega))
              have hG6 := grown_new hG5 hg6 HLB.out.2.2.2
              have HDE6 : Hid (iterLeft rb gb w6 < iterLeft rb gb wr) := by
                have := HDE5.out
                have e : iterLeft rb gb w6 = iterLeft rb gb w5 := by rw [hI6.left, hI5.left]
                show _ < _
                omega
              have HRX6 := Lib.hid (RX.trans _ _ _ HRX5.out (RX.of_grown (s0 := rb) (bs := [gb, w.heap.size]) hg6 (.inr (by simp)) (by have := HRX5.out.size; have := HWD.out; omega)))
              have HALL6 := Lib.hid (And.intro hI6 (And.intro hM6 hG6))
              clear hI5 hM5 hG5 hI6 hM6 hG6 hg6 hs6
              go_wp2_with fail
              go_roundw
              case rel =>
                obtain ⟨hGn, hdL, hGm⟩ := HGG.out
                obtain ⟨hqS, hqL, hqn⟩ := HQS.out
                obtain ⟨hI6, hM6, hG6⟩ := HALL6.out
                rw [← hqS] at hM6
                refine ⟨⟨q :: done, addK q G, hI6, hM6, hG6, nodup_addK hGn, fun y hy => ?_, fun y => ?_⟩, HRX6.out⟩
                · rcases List.mem_cons.1 hy with rfl | hy
                  · exact hqL
                  · exact hdL y hy
                · rw [mem_addK, hGm, List.mem_cons]
                  constructor
                  · rintro (rfl | ⟨h1, h2⟩)
                    · exact ⟨.inl rfl, by rw [HBAD.out]; rfl⟩
                    · exact ⟨.inr h1, h2⟩
                  · rintro ⟨rfl | h1, h2⟩
                    · exact .inl rfl
                    · exact .inr ⟨h1, h2⟩
              case measure => exact HDE6.out
      · obtain ⟨hqL, hv⟩ := setK_mem hq
        subst hv
        obtain ⟨S, hS⟩ : ∃ S, S = unq q := ⟨_, rfl⟩
        have hqS : q = q4 S := by rw [hS]; rfl
        have hrun2 : (Instr.next (.pointer (some ⟨wz.heap.size + 1, 0, none⟩)) false 0).run Tryd.prog wr = .ok (.tuple #[.bool true, .agg #[.int .i64 (S 0), .int .i64 (S 1), .int .i64 (S 2), .int .i64 (S 3)], .bool true]) wn := by rw [hrun, hqS]; rfl
        have hent2 : (Instr.entry (.pointer (some ⟨wz.heap.size + 1, 0, none⟩))).run Tryd.prog wn = .ok (.tuple #[.agg #[.int .i64 (S 0), .int .i64 (S 1), .int .i64 (S 2), .int .i64 (S 3)], .bool true]) wn := by rw [hent, hqS]; rfl
        have hMKn : MapIs quadV wz.heap.size (setK K) wn := hMK.kept hg1 (by simp)
        have KA : Free.Bel wn (wn.alloc (.cells (arrV S) 109)) := belAlloc _ _
        have mS : (wn.alloc (.cells (arrV S) 109)).heap[wn.heap.size]? = some (.cells (arrV S) 109 (0, 0)) := World.alloc_heap_new wn _
        obtain ⟨z0, z1, z2, z3, _⟩ := cells4 mS
        obtain ⟨w6, hup, hg6, hM6, hs6⟩ := good_update (hMKn.bel KA) S
        have hI6 := (hI1.bel KA).of_blocks (hg6.block gb (hI1.bel KA).lt.1 (by have := HGL.out; have := HW0.out.2.1.lt; simp; omega)) (hg6.block (wz.heap.size + 1) (hI1.bel KA).lt.2 (by simp))
        have hB6 : Below wz.heap.size wz w6 := below_grown (Below.trans (below_grown hBz hg1 (by omega) (Nat.le_refl _)) (Below.mono KA (by have := hBz.size; have := hg1.size; omega))) hg6 (Nat.le_refl _) (Nat.le_refl _)
        have HDE6 : Hid (iterLeft (wz.heap.size + 1) gb w6 < iterLeft (wz.heap.size + 1) gb wr) := by
          have h1 := iter_less hI hI1 hq hqn
          have e : iterLeft (wz.heap.size + 1) gb w6 = iterLeft (wz.heap.size + 1) gb wn := by rw [hI6.left, hI1.left]
          show _ < _
          omega
        have HALL6 := Lib.hid (show Inv3 gb wz.heap.size (wz.heap.size + 1) L wz w6 from ⟨q :: done, addK (q4 S) K, hI6, hM6, nodup_addK hKn, fun y hy => by
            rcases List.mem_cons.1 hy with rfl | hy
            · exact hqL
            · exact hdL y hy, fun y => by
            rw [mem_addK, hKm, List.mem_cons, hqS], hB6⟩)
        clear hrun hent hqS hS hI hI1 hq hqn hqL hMK hKn hdL hKm hBz hg1 hs1 hMKn KA hg6 hM6 hs6 hI6 hB6
        go_wp2_with fail
        go_roundw
        case rel => exact HALL6.out
        case measure => exact HDE6.out
end Go.Proofs.YtknpglgpkkhhiaaDoor

/- slices.Backward at maps: the iterator. -/
namespace Go.Proofs.YtknpglgpkkhhiaaDoor
set_option linter.unusedSimpArgs false
set_option linter.unusedVariables false
open Go.RowKit Go.Shelf
attribute [local go_sem] Oper.semAt_some

/-- A list backward, each with its index. -/
def revM (gs : List Nat) : Nat → List (Nat × Nat)
  | 0 => []
  | k + 1 => revM gs k ++ [(gs.length - (k + 1), gs.getD (gs.length - (k + 1)) 0)]
theorem revM_prefix (gs : List Nat) {j : Nat} : ∀ {k : Nat}, j ≤ k → revM gs j <+: revM gs k
  | 0, h => by obtain rfl : j = 0 := by omega
               exact List.prefix_refl _
  | k + 1, h => by
    by_cases e : j = k + 1
    · rw [e]; exact List.prefix_refl _
    · exact (revM_prefix gs (j := j) (k := k) (by omega)).trans (List.prefix_append _ _)
theorem revM_length (gs : List Nat) : ∀ k, (revM gs k).length = k
  | 0 => rfl
  | k + 1 => by simp [revM, revM_length gs k]
theorem revM_take (gs : List Nat) : ∀ (k j : Nat), j ≤ k → (revM gs k).take j = revM gs j
  | 0, j, h => by obtain rfl : j = 0 := by omega
                  rfl
  | k + 1, j, h => by
    by_cases e : j = k + 1
    · rw [e, List.take_of_length_le (by rw [revM_length]; exact Nat.le_refl _)]
    · rw [revM, List.take_append_of_le_length (by rw [revM_length]; omega), revM_take gs k j (by omega)]
theorem revM_at {gs : List Nat} {pre : List (Nat × Nat)} {x : Nat × Nat} (h : pre ++ [x] <+: revM gs gs.length) : ∃ hl : pre.length < gs.length, x = (gs.length - (pre.length + 1), gs.getD (gs.length - (pre.length + 1)) 0) := by
  obtain ⟨t, ht⟩ := h
  have hl : pre.length + 1 + t.length = gs.length := by have := congrArg List.length ht; simp [revM_length] at this; omega
  have h1 : pre ++ [x] = revM gs (pre.length + 1) := by
    rw [← revM_take gs gs.length (pre.length + 1) (by omega), ← ht, List.take_left' (by simp)]
  refine ⟨by omega, ?_⟩
  rw [revM] at h1
  exact (List.cons.inj (List.append_inj' h1 rfl).2).1
abbrev encM (x : Nat × Nat) : Array Value := #[.int .i64 x.1, .map (some x.2)]
def BackI (Bs g cap : Nat) (gs : List Nat) (W : World) : Prop := W.heap[Bs]? = some (.cells #[.slice (some ⟨g, 0, none⟩) gs.length cap] 137 (0, 0)) ∧ ∀ j, j < gs.length → W.cell? ⟨g, j, none⟩ = some (.map (some (gs.getD j 0)))

set_option maxRecDepth 100000 in
set_option maxHeartbeats 1000000 in
theorem backM_any (p : Option Addr) (n cap : Nat) (w : World) :
    Calls Tryd.prog 93 #[.slice p n cap] w fun e w' => e = .returned (.func (.func 109) #[] #[.pointer (some ⟨w.heap.size, 0, none⟩)]) ∧ w.alloc (.cells #[.slice p n cap] 137) = w' := by
  go_enter Tryd.func93, Tryd.ntmps93
  go_wp2_with fail
  go_ret
  exact ⟨rfl, rfl⟩

set_option maxRecDepth 100000 in
set_option maxHeartbeats 2000000 in
theorem backM1_in (n l Bs g cap : Nat) (gs : List Nat) (hn : 1 ≤ n) (W : World) (hm : gs.length ≤ 2000) (hB : BackI Bs g cap gs W) (J Jx : List (Nat × Nat) → World → Prop) (Kp : World → World → Prop) (hK : ∀ A B, BackI Bs g cap gs A → Kp A B → BackI Bs g cap gs B)
    (hY : ∀ pre x W1, pre ++ [x] <+: revM gs gs.length → J pre W1 → YieldAt Fence.wide (n - 1) Tryd.prog l (encM x) W1 fun e W' =>
      (e = .returned (.bool true) ∧ J (pre ++ [x]) W' ∧ Kp W1 W') ∨ (e = .returned (.bool false) ∧ Jx (pre ++ [x]) W'))
    (hJ0 : J [] W) :
    CallsIn Fence.wide n Tryd.prog 109 (#[.func (.yield l) #[] #[]] ++ #[.pointer (some ⟨Bs, 0, none⟩)]) W fun e W' => (∃ v, e = .returned v) ∧
      (J (revM gs gs.length) W' ∨ (∃ pre, pre <+: revM gs gs.length ∧ Jx pre W')) := by
  have HY := Lib.hid hY
  have HB := Lib.hid hB
  have hb0 := cell_of_heap (o := 0) hB.1 rfl
  clear hY hB
  refine callsIn_of_wp Tryd.func109 rfl trivial ?_ rfl
  simp only [Tryd.ntmps109, List.size_toArray, List.length_cons, List.length_nil, Nat.reduceAdd, Nat.reduceSub, Array.replicate_succ, Array.replicate_zero, List.push_toArray, List.append_toArray, List.nil_append, List.cons_append]
  gi_wp2
  clear hb0
  gi_loopw [3] (fun i wr => ∃ m : Nat, m ≤ gs.length ∧ i = .int .i64 ((m : Int) - 1) ∧ Hid (J (revM gs (gs.length - m)) wr) ∧ Hid (BackI Bs g cap gs wr)) (fun i _ => (intOf i + 1).toNat)
  case atStart => exact ⟨gs.length, Nat.le_refl _, rfl, by show J _ _; rw [Nat.sub_self]; exact hJ0, HB⟩
  case round =>
    obtain ⟨m, hk, rfl, hJs, HBI⟩ := hrel
    rcases m with _ | j
    · have hz : ((0 : Nat) : Int) - 1 = -1 := by omega
      rw [hz]
      clear hz
      gi_wp2
      go_end0
      exact ⟨⟨_, rfl⟩, .inl (by have := hJs.out; rwa [Nat.sub_zero] at this)⟩
    · have hz : (((j + 1 : Nat) : Int) - 1) = (j : Int) := by omega
      rw [hz]
      clear hz
      have hb0 := cell_of_heap (o := 0) HBI.out.1 rfl
      have c0 := HBI.out.2 j (by omega)
      have hstep : Hid (revM gs (gs.length - j) = revM gs (gs.length - (j + 1)) ++ [(j, gs.getD j 0)]) := by
        show _ = _
        rw [show gs.length - j = (gs.length - (j + 1)) + 1 by omega, revM, show gs.length - (gs.length - (j + 1) + 1) = j by omega]
      have hpx : Hid (revM gs (gs.length - (j + 1)) ++ [(j, gs.getD j 0)] <+: revM gs gs.length) := by
        show _ <+: _
        rw [← hstep.out]; exact revM_prefix gs (by omega)
      obtain ⟨x, hx⟩ : ∃ x, gs.getD j 0 = x := ⟨_, rfl⟩
      rw [hx] at c0 hstep hpx
      clear hx
      obtain ⟨fn, tmps, assign, body, hyy, hR⟩ := HY.out _ (j, x) wr hpx.out hJs.out
      dsimp only [encM] at hyy
      gi_wp2
      refine hR.mono ?_
      rintro e W3 (⟨rfl, hJ3, hk3⟩ | ⟨rfl, hJx3⟩)
      · have HK3 := Lib.hid (hK _ _ HBI.out hk3)
        have HJ3 := Lib.hid hJ3
        clear hJ3 hk3
        gi_wp2
        go_roundw
        case rel => exact ⟨j, by omega, by simp, by show J _ _; rw [hstep.out]; exact HJ3.out, HK3⟩
        case measure => simp [intOf] <;> omega
      · gi_wp2
        refine bodyPost_ret (results_none rfl _ _ _) rfl ?_
        exact ⟨⟨_, rfl⟩, .inr ⟨_, hpx.out, hJx3⟩⟩
end Go.Proofs.YtknpglgpkkhhiaaDoor

/- The lead and the round, where it can go on for ever. -/
namespace Go.Proofs.YtknpglgpkkhhiaaDoor
set_option linter.unusedSimpArgs false
set_option linter.unusedVariables false
open Go.RowKit Go.Proofs.YtknpglgpkkhhiaaDoor.Free2 Go.Proofs.YtknpglgpkkhhiaaDoor.ML RR
attribute [local go_sem] Oper.semAt_some

theorem T.uAt : Tryd.prog.underlying 129 = some (.map 109 3) := by kernel_rfl
theorem T.zIntS (w : World) : (zeroValue 3).run Tryd.prog w = .ok (.int .i64 0) w := by kernel_rfl
theorem slice_lead (g m cap i : Nat) (h : i ≤ cap) (W : World) : (Instr.slice 25 (.slice (some ⟨g, 0, none⟩) m cap) none (some (.int .i64 i)) (some (.int .i64 i))).run Tryd.prog W = .ok (.slice (some ⟨g, 0, none⟩) i i) W := by
  have h1 : (0 : Int) ≤ i := by omega
  have h2 : (i : Int) ≤ cap := by omega
  have hs : (sizeOf 58).run Tryd.prog W = .ok 1 W := by kernel_rfl
  simp [Instr.slice, run_underlying Tryd.underlying25, Instr.sliceBounds, run_sliceBound, h1, h2, hs]
  intro h9
  simp [Addr.add]
theorem slice_rest (g m cap i : Nat) (h : i < m) (hc : m ≤ cap) (W : World) : (Instr.slice 25 (.slice (some ⟨g, 0, none⟩) m cap) (some (.int .i64 i)) none none).run Tryd.prog W = .ok (.slice (some ⟨g, i, none⟩) (m - i) (cap - i)) W := by
  have h1 : (0 : Int) ≤ i := by omega
  have h2 : (i : Int) ≤ m := by omega
  have hs : (sizeOf 58).run Tryd.prog W = .ok 1 W := by kernel_rfl
  have h3 : ¬ cap = i := by omega
  simp [Instr.slice, run_underlying Tryd.underlying25, Instr.sliceBounds, run_sliceBound, h1, h2, hs, h3]
  rw [addE]
  simp
/-- What was seen: each state with its day. -/
noncomputable def seenL (h : Int) (xs : List Rk) (m : Nat) : List (Q4 × Value) := (List.range m).map fun i => (q4 (waits (planS h xs i)), .int .i64 (i : Int))
theorem seenL_succ (h : Int) (xs : List Rk) (m : Nat) : seenL h xs (m + 1) = seenL h xs m ++ [(q4 (waits (planS h xs m)), .int .i64 (m : Int))] := by simp [seenL, List.range_succ]
theorem assoc_none_iff {κ β : Type} [DecidableEq κ] (x : κ) : ∀ l : List (κ × β), assoc x l = none ↔ ∀ y ∈ l, y.1 ≠ x
  | [] => by simp [assoc]
  | y :: r => by
    have ih := assoc_none_iff x r
    by_cases h : x = y.1
    · simp [assoc, h]
    · have h' : ¬ y.1 = x := fun e => h e.symm
      simp [assoc, h, h', ih]
theorem assocI_none {κ β : Type} [DecidableEq κ] {x : κ} {l : List (κ × β)} (h : assoc x l = none) (i : Nat) : assocI x l i = none := by
  have := assocI_map x l i
  rw [h] at this
  simpa using this
theorem seen_none {h : Int} {xs : List Rk} {m : Nat} (h4 : xs.length ≤ 4) (hs : ∀ n, StOf xs (planS h xs n)) (hno : ∀ i, i < m → planS h xs i ≠ planS h xs m) : assoc (q4 (waits (planS h xs m))) (seenL h xs m) = none := by
  rw [assoc_none_iff]
  intro y hy
  obtain ⟨i, hi, rfl⟩ := List.mem_map.1 hy
  exact fun e => hno i (List.mem_range.1 hi) (q4_inj (hs i).1 (hs m).1 h4 e)
theorem seen_some {h : Int} {xs : List Rk} {m i : Nat} (h4 : xs.length ≤ 4) (hs : ∀ n, StOf xs (planS h xs n)) (hd : ∀ a b, a < b → b < m → planS h xs a ≠ planS h xs b) (hi : i < m) (he : planS h xs i = planS h xs m) : assoc (q4 (waits (planS h xs m))) (seenL h xs m) = some (.int .i64 (i : Int)) := by
  cases ha : assoc (q4 (waits (planS h xs m))) (seenL h xs m) with
  | none =>
    rw [assoc_none_iff] at ha
    exact absurd (by rw [he]) (ha _ (List.mem_map.2 ⟨i, List.mem_range.2 hi, rfl⟩))
  | some v =>
    have hm := assoc_mem ha
    obtain ⟨j, hj, e⟩ := List.mem_map.1 hm
    simp only [Prod.mk.injEq] at e
    obtain ⟨e1, rfl⟩ := e
    have hj := List.mem_range.1 hj
    have e2 : planS h xs j = planS h xs i := (q4_inj (hs j).1 (hs m).1 h4 e1).trans he.symm
    have : j = i := by
      rcases Nat.lt_trichotomy j i with h9 | h9 | h9
      · exact absurd e2 (hd j i h9 hi)
      · exact h9
      · exact absurd e2.symm (hd i j h9 hj)
    rw [this]
theorem distinct_le {h : Int} {xs : List Rk} {L : List Q4} {m : Nat} (h4 : xs.length ≤ 4) (hE : EverIs h xs L) (hs : ∀ n, StOf xs (planS h xs n) ∧ everB h (planS h xs n) = true) (hd : ∀ a b, a < b → b < m → planS h xs a ≠ planS h xs b) : m ≤ L.length := by
  have hn : ((List.range m).map fun i => q4 (waits (planS h xs i))).Nodup := by
    rw [List.nodup_iff_pairwise_ne, List.pairwise_map]
    refine List.Pairwise.imp_of_mem (fun {a b} ha hb hab e => ?_) (List.pairwise_lt_range)
    exact hd a b hab (List.mem_range.1 hb) (q4_inj (hs a).1.1 (hs b).1.1 h4 e)
  have := nodup_sub_length (L := L) hn fun q hq => by
    obtain ⟨i, _, rfl⟩ := List.mem_map.1 hq
    exact (hE.2 _).2 ⟨_, (hs i).1, (hs i).2, rfl⟩
  simpa using this
theorem ever_small {h : Int} {xs : List Rk} {L : List Q4} (hw : watchB h xs = true) (hE : EverIs h xs L) : L.length ≤ 1296 := by
  have hx1 : ∀ x ∈ xs, 1 ≤ x.2.1 := fun x hx => (watchB_ok hw x hx).2.2.1
  have h1 := nodup_sub_length (L := (allY xs).map fun ys => q4 (waits ys)) hE.1 fun q hq => by
    obtain ⟨ys, hy, _, rfl⟩ := (hE.2 q).1 hq
    exact List.mem_map.2 ⟨ys, (mem_allY hx1).2 hy, rfl⟩
  have h2 := (prodE_bound (xs := xs) fun x hx => ⟨(watchB_ok hw x hx).2.2.1, (watchB_ok hw x hx).2.2.2.1⟩).2
  have h4 := (watchB_iff.1 hw).2.1
  have h6 : (6 : Int) ^ xs.length ≤ 1296 := by
    rcases (show xs.length = 0 ∨ xs.length = 1 ∨ xs.length = 2 ∨ xs.length = 3 ∨ xs.length = 4 by omega) with e | e | e | e | e <;> rw [e] <;> decide
  simp [allY] at h1
  omega
theorem prefix_plan {h : Int} {xs : List Rk} {N : Nat} {pre : List (List Rk × List Int)} {x : List Rk × List Int} (hp : pre ++ [x] <+: planP h xs N) : x = (planS h xs pre.length, stepE h (planS h xs pre.length)) := by
  obtain ⟨t, ht⟩ := hp
  have h1 : (planP h xs N)[pre.length]? = some x := by rw [← ht]; simp
  unfold planP at h1
  rw [List.getElem?_map] at h1
  cases hr : (List.range N)[pre.length]? with
  | none => rw [hr] at h1; cases h1
  | some k =>
    rw [hr] at h1
    have : k = pre.length := by
      obtain ⟨_, e⟩ := List.getElem?_eq_some_iff.1 hr
      simpa using e.symm
    subst this
    simpa using h1.symm
theorem own_le {base : Nat} {e : TypeId} {size n : Nat} {v : Value} {xs : List Value} {W : World} (h : W.ownsRow base e size v n xs) : n ≤ maxLen := by
  rcases h.2 with ⟨_, rfl⟩ | ⟨g, cap, cur, _, _, _, h1, h2, _⟩
  · exact Nat.zero_le _
  · omega
theorem DO.part {base g m cap a n c : Nat} {ds : List (List Int)} {W : World} (h : DO base ds (.slice (some ⟨g, 0, none⟩) m cap) W) (hl : a + n ≤ ds.length) : DZ ((ds.drop a).take n) (.slice (some ⟨g, a, none⟩) n c) W := by
  obtain ⟨vs, hvl, ho, hr⟩ := h
  have hlen : ((ds.drop a).take n).length = n := by simp; omega
  have hle := own_le ho
  refine ⟨_, c, by rw [hlen], (by rw [hlen]; omega), (fun e => by cases e), fun hne => ⟨g, a, rfl, fun k hk => ?_⟩⟩
  have hk' : k < n := by rw [hlen] at hk; exact hk
  have hkv : a + k < vs.length := by omega
  have hu := List.getElem?_eq_getElem hkv
  have hc := ho.cells (g := g) (by simp [Value.ownBlock]) (a + k) vs[a + k] hu
  rw [addE, Nat.zero_add] at hc
  obtain ⟨b0, hrow⟩ := hr (a + k) (by omega) _ hu
  refine ⟨vs[a + k], hc, ?_, NZ.row hrow⟩
  have he : ((ds.drop a).take n)[k] = ds[a + k] := by simp
  rw [he]
  exact IL.of_own (own_le hrow) hrow
/-- The invariant of the round. -/
structure RndI (w : World) (mb bm lb n0 : Nat) (h : Int) (xs : List Rk) (m : Nat) (W : World) : Prop where
  bel : Below w.heap.size w W
  n1 : W.heap[w.heap.size + 1]? = some (.cells #[.slice none 0 0] 25 (0, 0))
  n2 : W.heap[w.heap.size + 1 + 1]? = some (.cells #[.slice none 0 0] 25 (0, 0))
  n3 : W.heap[w.heap.size + 1 + 1 + 1]? = some (.cells #[.int .i64 0] 31 (0, 0))
  mp : MapIs quadV mb (seenL h xs m) W
  bm : W.heap[bm]? = some (.cells #[.map (some mb)] 129 (0, 0))
  sz : n0 ≤ W.heap.size
  row : ∃ v, W.heap[lb]? = some (.cells #[v] 25 (0, 0)) ∧ DO lb (planL h xs m) v W
  dis : ∀ a b, a < b → b < m → planS h xs a ≠ planS h xs b
theorem RndI.rq {w : World} {mb bm lb n0 : Nat} {h : Int} {xs : List Rk} {m : Nat} {A B : World} (H : RndI w mb bm lb n0 h xs m A) (hR : RQ n0 A B) (hn : w.heap.size + 4 ≤ n0) (h1 : mb < n0) (h2 : bm < n0) (h3 : lb < n0) : RndI w mb bm lb n0 h xs m B :=
  ⟨H.bel.trans (hR.below.mono (by omega)), (hR.below.block _ (by omega)).trans H.n1, (hR.below.block _ (by omega)).trans H.n2, (hR.below.block _ (by omega)).trans H.n3, H.mp.of_block (hR.below.block _ h1), (hR.below.block _ h2).trans H.bm, Nat.le_trans H.sz hR.below.size, let ⟨v, a1, a2⟩ := H.row; ⟨v, (hR.below.block _ h3).trans a1, a2.rq hR⟩, H.dis⟩
theorem RndI.own {w : World} {mb bm lb n0 : Nat} {h : Int} {xs : List Rk} {m : Nat} {A B : World} {row : Option Nat} (H : RndI w mb bm lb n0 h xs m A) (hg : A.grownBy B row) (hr : ∀ r, row = some r → n0 ≤ r ∧ ∃ o : Obj, A.heap[r]? = some o ∧ o.isCells = false) (hn : w.heap.size + 4 ≤ n0) (h1 : mb < n0) (h2 : bm < n0) (h3 : lb < n0) : RndI w mb bm lb n0 h xs m B := by
  have hne : ∀ b, b < n0 → some b ≠ row := fun b hb e => by have := (hr _ e.symm).1; omega
  obtain ⟨v, a1, a2⟩ := H.row
  exact ⟨H.bel.trans (Below.of_grown hg H.bel.size (fun r e => by have := (hr r e).1; omega)), heap_grown H.n1 hg (hne _ (by omega)), heap_grown H.n2 hg (hne _ (by omega)), heap_grown H.n3 hg (hne _ (by omega)), H.mp.kept hg (hne _ h1), heap_grown H.bm hg (hne _ h2), Nat.le_trans H.sz hg.size, ⟨v, heap_grown a1 hg (hne _ h3), a2.own hg hr⟩, H.dis⟩
theorem RndI.step {w W W6 W9 : World} {mb bm lb n0 : Nat} {h : Int} {xs : List Rk} {m : Nat} {vl v' u : Value} {vs : List Value} {o : Obj} (H : RndI w mb bm lb n0 h xs m W) (hg6 : W.grownBy W6 (some mb)) (hm6 : MapIs quadV mb (seenL h xs (m + 1)) W6) (hl : W.heap[lb]? = some (.cells #[vl] 25 (0, 0))) (hvl : vs.length = (planL h xs m).length) (how : W.ownsRow lb 58 1 vl (planL h xs m).length vs) (hdr : ∀ (i : Nat) (h2 : i < (planL h xs m).length) u, vs[i]? = some u → DayR (planL h xs m)[i] u W) (hu : DayR (stepE h (planS h xs m)) u W)
    (hg : World.grownBy (W6.alloc o) W9 vl.ownBlock) (ho' : W9.ownsRow lb 58 1 v' ((planL h xs m).length + 1) (vs ++ [u])) (hw : w.heap.size + 4 ≤ mb) (h1 : bm = mb + 1) (h2 : lb = mb + 1 + 1) (hln : n0 = mb + 4) (hno : ∀ i, i < m → planS h xs i ≠ planS h xs m) :
    KeepsFrom n0 W (W9.setCell ⟨lb, 0, none⟩ v') ∧ KP mb [lb] W (W9.setCell ⟨lb, 0, none⟩ v') ∧ RndI w mb bm lb n0 h xs (m + 1) (W9.setCell ⟨lb, 0, none⟩ v') := by
  have hW6 : ∀ (k : Nat) q, W.heap[k]? = some q → k ≠ mb → W6.heap[k]? = some q := fun k q hk hne => heap_grown hk hg6 (by simpa using hne)
  have hmbc : ∀ (k : Nat) c e f, W.heap[k]? = some (.cells c e f) → k ≠ mb := fun k c e f hk e9 => by
    subst e9
    obtain ⟨q, h8, h9⟩ := H.mp.obj
    rw [hk] at h8
    cases h8
    cases h9
  have how6 : W6.ownsRow lb 58 1 vl (planL h xs m).length vs := own_typed how fun k c f hk => hW6 k _ hk (hmbc _ _ _ _ hk)
  have hl6 := hW6 lb _ hl (by omega)
  have hdi : ∀ {d : List Int} {u : Value}, DayR d u W → DayR d u W6 := fun hd => hd.stay fun k c f hk => hW6 k _ hk (hmbc _ _ _ _ hk)
  have hkp6 : KP mb [lb] W W6 := ⟨hg6.os, hg6.tape, hg6.output, hg6.size, fun k q hk hc => hW6 k q hk (by
    rcases hc with hc | ⟨hc, _⟩
    · omega
    · rintro rfl
      obtain ⟨q', h8, h9⟩ := H.mp.obj
      rw [hk] at h8
      cases h8
      rw [hc] at h9
      cases h9)⟩
  have hkp : KP mb [lb] W6 W9 := (KP.of_bel (belAlloc _ _)).trans (KP.grown (how6.alloc _) (by omega) hg)
  have hkp2 : KP mb [lb] W (W9.setCell ⟨lb, 0, none⟩ v') := (hkp6.trans hkp).trans (KP.set (by omega) (by simp))
  have hbx := box_grown hl6 how6 hg
  have hsz : mb ≤ W.heap.size := by have := H.sz; omega
  have hB := hkp2.below hsz
  refine ⟨((KeepsFrom.of_grownBy hg6 (by simp; omega)).trans (keepsFrom_row how6 hg)).trans ((KeepsOthers.setCell _ _ _).from _), hkp2, H.bel.trans (hB.mono (by omega)), (hB.block _ (by omega)).trans H.n1, (hB.block _ (by omega)).trans H.n2, (hB.block _ (by omega)).trans H.n3, ?_, ?_, Nat.le_trans H.sz hkp2.size, ⟨v', ?_, ?_⟩, fun a b hab hb => ?_⟩
  · have h8 : MapIs quadV mb (seenL h xs (m + 1)) W9 := (hm6.bel (belAlloc _ o)).kept hg (fun e => by
      rcases how6.2 with ⟨h9, _⟩ | ⟨g, cap, cur, h9, _, hg2, _⟩
      · rw [h9] at e; simp [Value.ownBlock] at e
      · rw [h9] at e
        simp [Value.ownBlock] at e
        subst e
        obtain ⟨q, h8, h9⟩ := hm6.obj
        rw [hg2] at h8
        cases h8
        cases h9)
    exact h8.of_block (heap_setCell_other (by omega))
  · exact hkp2.keep bm _ H.bm (.inr ⟨rfl, by simp; omega, fun _ _ e => by cases e⟩)
  · have := heap_setCell_same (o := 0) v' hbx
    simpa using this
  · rw [planL_succ]
    have hst : ∀ (k : Nat) c f, W6.heap[k]? = some (.cells c 3 f) → (W6.alloc o).heap[k]? = some (.cells c 3 f) := fun k c f hk => heap_old hk
    have h9 := DO.snoc (d := stepE h (planS h xs m)) hvl (how6.alloc o) (fun i hi u hu => (hdi (hdr i hi u hu)).stay hst) ((hdi hu).stay hst) hg ho'
    refine h9.stay (fun k c f hk => heap_other hk fun e => ?_) fun k c f hk => heap_other hk fun e => ?_
    · simp at e; subst e; rw [hbx] at hk; cases hk
    · simp at e; subst e; rw [hbx] at hk; cases hk
  · by_cases hbm : b < m
    · exact H.dis a b hab hbm
    · obtain rfl : b = m := by omega
      exact hno a hab
/-- What lies there when the round is told. -/
structure RndX (w : World) (lb : Nat) (h : Int) (xs : List Rk) (i m : Nat) (W : World) : Prop where
  bel : Below w.heap.size w W
  rd : RoundIs h xs i m
  row : ∃ g cap, DO lb (planL h xs m) (.slice (some ⟨g, 0, none⟩) m cap) W ∧ m ≤ cap ∧ W.heap[w.heap.size + 1]? = some (.cells #[.slice (some ⟨g, 0, none⟩) i i] 25 (0, 0)) ∧ W.heap[w.heap.size + 1 + 1]? = some (.cells #[.slice (some ⟨g, i, none⟩) (m - i) (cap - i)] 25 (0, 0))
  n3 : W.heap[w.heap.size + 1 + 1 + 1]? = some (.cells #[.int .i64 0] 31 (0, 0))
theorem RndX.rq {w : World} {lb n0 : Nat} {h : Int} {xs : List Rk} {i m : Nat} {A B : World} (H : RndX w lb h xs i m A) (hR : RQ n0 A B) (hn : w.heap.size + 4 ≤ n0) : RndX w lb h xs i m B :=
  ⟨H.bel.trans (hR.below.mono (by omega)), H.rd, let ⟨g, cap, a1, a2, a3, a4⟩ := H.row; ⟨g, cap, a1.rq hR, a2, (hR.below.block _ (by omega)).trans a3, (hR.below.block _ (by omega)).trans a4⟩, (hR.below.block _ (by omega)).trans H.n3⟩
theorem RndX.own {w : World} {lb n0 : Nat} {h : Int} {xs : List Rk} {i m : Nat} {A B : World} {row : Option Nat} (H : RndX w lb h xs i m A) (hg : A.grownBy B row) (hr : ∀ r, row = some r → n0 ≤ r ∧ ∃ o : Obj, A.heap[r]? = some o ∧ o.isCells = false) (hn : w.heap.size + 4 ≤ n0) : RndX w lb h xs i m B := by
  have hne : ∀ b, b < n0 → some b ≠ row := fun b hb e => by have := (hr _ e.symm).1; omega
  obtain ⟨g, cap, a1, a2, a3, a4⟩ := H.row
  exact ⟨H.bel.trans (Below.of_grown hg H.bel.size (fun r e => by have := (hr r e).1; omega)), H.rd, ⟨g, cap, a1.own hg hr, a2, heap_grown a3 hg (hne _ (by omega)), heap_grown a4 hg (hne _ (by omega))⟩, heap_grown H.n3 hg (hne _ (by omega))⟩
set_option maxRecDepth 100000 in
set_option maxHeartbeats 16000000 in
theorem round_b (h : Int) (xs : List Rk) (u : Value) (w : World) (hT : TabR w) (hu : RL xs u w) (hw : watchB h xs = true) (he : everB h xs = true) :
    Calls Tryd.prog 41 #[.agg #[.int .i64 h, u]] w fun e w' => (∃ i j vl vr, RoundIs h xs i j ∧ e = .returned (.tuple #[vl, vr, .int .i64 0]) ∧ DZ (planL h xs i) vl w' ∧ DZ ((planL h xs j).drop i) vr w') ∧ Below w.heap.size w w' := by
  have HU := Lib.hid hu
  obtain ⟨p, cp, rfl, _, _⟩ := hu
  have KB : Free.Bel w ((((w.alloc (.cells #[.int .i64 h, .slice p xs.length cp] 24)).alloc (.cells #[.slice none 0 0] 25)).alloc (.cells #[.slice none 0 0] 25)).alloc (.cells #[.int .i64 0] 31)) := bt (bt (bt (belAlloc _ _) (belAlloc _ _)) (belAlloc _ _)) (belAlloc _ _)
  have m0 : ((((w.alloc (.cells #[.int .i64 h, .slice p xs.length cp] 24)).alloc (.cells #[.slice none 0 0] 25)).alloc (.cells #[.slice none 0 0] 25)).alloc (.cells #[.int .i64 0] 31)).heap[w.heap.size]? = some (.cells #[.int .i64 h, .slice p xs.length cp] 24 (0, 0)) := heap_old (heap_old (heap_old (World.alloc_heap_new w _)))
  have m1 : ((((w.alloc (.cells #[.int .i64 h, .slice p xs.length cp] 24)).alloc (.cells #[.slice none 0 0] 25)).alloc (.cells #[.slice none 0 0] 25)).alloc (.cells #[.int .i64 0] 31)).heap[w.heap.size + 1]? = some (.cells #[.slice none 0 0] 25 (0, 0)) := heap_old (heap_old (by
    have := World.alloc_heap_new (w.alloc (.cells #[.int .i64 h, .slice p xs.length cp] 24)) (.cells #[.slice none 0 0] 25)
    simpa using this))
  have m2 : ((((w.alloc (.cells #[.int .i64 h, .slice p xs.length cp] 24)).alloc (.cells #[.slice none 0 0] 25)).alloc (.cells #[.slice none 0 0] 25)).alloc (.cells #[.int .i64 0] 31)).heap[w.heap.size + 1 + 1]? = some (.cells #[.slice none 0 0] 25 (0, 0)) := heap_old (by
    have := World.alloc_heap_new ((w.alloc (.cells #[.int .i64 h, .slice p xs.length cp] 24)).alloc (.cells #[.slice none 0 0] 25)) (.cells #[.slice none 0 0] 25)
    simpa using this)
  have m3 : ((((w.alloc (.cells #[.int .i64 h, .slice p xs.length cp] 24)).alloc (.cells #[.slice none 0 0] 25)).alloc (.cells #[.slice none 0 0] 25)).alloc (.cells #[.int .i64 0] 31)).heap[w.heap.size + 1 + 1 + 1]? = some (.cells #[.int .i64 0] 31 (0, 0)) := by
    have := World.alloc_heap_new (((w.alloc (.cells #[.int .i64 h, .slice p xs.length cp] 24)).alloc (.cells #[.slice none 0 0] 25)).alloc (.cells #[.slice none 0 0] 25)) (.cells #[.int .i64 0] 31)
    simpa using this
  have FA : ∀ W, Free.Bel ((((w.alloc (.cells #[.int .i64 h, .slice p xs.length cp] 24)).alloc (.cells #[.slice none 0 0] 25)).alloc (.cells #[.slice none 0 0] 25)).alloc (.cells #[.int .i64 0] 31)) W → W.cell? ⟨w.heap.size, 0, none⟩ = some (.int .i64 h) ∧ W.cell? ⟨w.heap.size, 1, none⟩ = some (.slice p xs.length cp) := fun W hW => ⟨keepsB hW (cell_of_heap m0 rfl), keepsB hW (cell_of_heap m0 rfl)⟩
  have KE : Free.Bel ((((w.alloc (.cells #[.int .i64 h, .slice p xs.length cp] 24)).alloc (.cells #[.slice none 0 0] 25)).alloc (.cells #[.slice none 0 0] 25)).alloc (.cells #[.int .i64 0] 31)) ((((w.alloc (.cells #[.int .i64 h, .slice p xs.length cp] 24)).alloc (.cells #[.slice none 0 0] 25)).alloc (.cells #[.slice none 0 0] 25)).alloc (.cells #[.int .i64 0] 31)) := Free.Bel.refl _
  have HGO := Lib.hid (going_v h xs _ ((((w.alloc (.cells #[.int .i64 h, .slice p xs.length cp] 24)).alloc (.cells #[.slice none 0 0] 25)).alloc (.cells #[.slice none 0 0] 25)).alloc (.cells #[.int .i64 0] 31)) (hT.bel KB) (HU.out.keeps KB) 0 (by show _ = _; unfold goE; simp [hw, he]))
  have hmm := @run_makeMap Tryd.prog
  have HKB := Lib.hid (And.intro KB (And.intro m1 (And.intro m2 m3)))
  have HWE := Lib.hid (And.intro hw he)
  clear hT m0 m1 m2 m3 hw he
  refine (callsIn_wide (n := 5)).1 ?_
  refine callsIn_of_wp_marks Tryd.func41 rfl trivial ?_ rfl
  simp only [Tryd.ntmps41, List.size_toArray, List.length_cons, List.length_nil, Nat.reduceAdd, Nat.reduceSub, Array.replicate_succ, Array.replicate_zero, List.push_toArray, List.append_toArray, an1, an2]
  refine wpIn_wide.2 ?_
  go_wp2_with fail
  refine HGO.out.mono ?_
  rintro e w1 ⟨hG, hB1⟩
  obtain ⟨yb, gb, v0, dv, L, rfl, hye, hy1, hy2⟩ : ∃ yb gb u dv L, e = .returned (.tuple #[.pointer (some ⟨yb, 0, none⟩), .int .i64 0]) ∧ YE yb gb h xs u dv L w1 ∧ ((((w.alloc (.cells #[.int .i64 h, .slice p xs.length cp] 24)).alloc (.cells #[.slice none 0 0] 25)).alloc (.cells #[.slice none 0 0] 25)).alloc (.cells #[.int .i64 0] 31)).heap.size ≤ yb ∧ ((((w.alloc (.cells #[.int .i64 h, .slice p xs.length cp] 24)).alloc (.cells #[.slice none 0 0] 25)).alloc (.cells #[.slice none 0 0] 25)).alloc (.cells #[.int .i64 0] 31)).heap.size ≤ gb := by
    rcases hG with ⟨h9, _⟩ | ⟨_, h9⟩
    · exact absurd rfl h9
    · exact h9
  have K1 : Free.Bel ((((w.alloc (.cells #[.int .i64 h, .slice p xs.length cp] 24)).alloc (.cells #[.slice none 0 0] 25)).alloc (.cells #[.slice none 0 0] 25)).alloc (.cells #[.int .i64 0] 31)) w1 := hB1
  have HYE := Lib.hid hye
  have n3 := (K1.block _ (lt_of_heap HKB.out.2.2.2)).trans HKB.out.2.2.2
  have y0 := cell_of_heap (o := 0) n3 rfl
  have y1 := frozen_of_heap (o := 0) n3
  have HB1 := Lib.hid (And.intro K1 n3)
  clear hG hB1 hye hy1 hy2 n3 KE FA K1 KB
  go_wp2_with fail
  have KC : Free.Bel w1 ((((w1.setCell ⟨w.heap.size + 1 + 1 + 1, 0, none⟩ (.int .i64 0)).alloc (.map #[] 0)).alloc (.cells #[.map (some w1.heap.size)] 129)).alloc (.cells #[.slice none 0 0] 25)) := bt (bel_same HB1.out.2) (bt (belAlloc _ _) (bt (belAlloc _ _) (belAlloc _ _)))
  have cm : MapIs quadV w1.heap.size (seenL h xs 0) ((((w1.setCell ⟨w.heap.size + 1 + 1 + 1, 0, none⟩ (.int .i64 0)).alloc (.map #[] 0)).alloc (.cells #[.map (some w1.heap.size)] 129)).alloc (.cells #[.slice none 0 0] 25)) := by
    have h9 := MapIs.made quadV (w1.setCell ⟨w.heap.size + 1 + 1 + 1, 0, none⟩ (.int .i64 0))
    simp only [World.size_setCell] at h9
    exact (h9.bel (belAlloc _ _)).bel (belAlloc _ _)
  have cb : ((((w1.setCell ⟨w.heap.size + 1 + 1 + 1, 0, none⟩ (.int .i64 0)).alloc (.map #[] 0)).alloc (.cells #[.map (some w1.heap.size)] 129)).alloc (.cells #[.slice none 0 0] 25)).heap[w1.heap.size + 1]? = some (.cells #[.map (some w1.heap.size)] 129 (0, 0)) := heap_old (by
    have := World.alloc_heap_new ((w1.setCell ⟨w.heap.size + 1 + 1 + 1, 0, none⟩ (.int .i64 0)).alloc (.map #[] 0)) (.cells #[.map (some w1.heap.size)] 129)
    simpa using this)
  have cl : ((((w1.setCell ⟨w.heap.size + 1 + 1 + 1, 0, none⟩ (.int .i64 0)).alloc (.map #[] 0)).alloc (.cells #[.map (some w1.heap.size)] 129)).alloc (.cells #[.slice none 0 0] 25)).heap[w1.heap.size + 1 + 1]? = some (.cells #[.slice none 0 0] 25 (0, 0)) := by
    have := World.alloc_heap_new (((w1.setCell ⟨w.heap.size + 1 + 1 + 1, 0, none⟩ (.int .i64 0)).alloc (.map #[] 0)).alloc (.cells #[.map (some w1.heap.size)] 129)) (.cells #[.slice none 0 0] 25)
    simpa using this
  have hsC : ((((w1.setCell ⟨w.heap.size + 1 + 1 + 1, 0, none⟩ (.int .i64 0)).alloc (.map #[] 0)).alloc (.cells #[.map (some w1.heap.size)] 129)).alloc (.cells #[.slice none 0 0] 25)).heap.size = w1.heap.size + 3 := by simp
  clear y0 y1
  generalize ((((w1.setCell ⟨w.heap.size + 1 + 1 + 1, 0, none⟩ (.int .i64 0)).alloc (.map #[] 0)).alloc (.cells #[.map (some w1.heap.size)] 129)).alloc (.cells #[.slice none 0 0] 25)) = C at *
  refine (plan_any yb C).mono ?_
  rintro e w5 ⟨rfl, hw5⟩
  have K5 : Free.Bel C w5 := by rw [← hw5]; exact belAlloc _ _
  have mY : w5.heap[w1.heap.size + 3]? = some (.cells #[.pointer (some ⟨yb, 0, none⟩)] 108 (0, 0)) := by
    rw [← hw5, ← hsC]
    exact World.alloc_heap_new C _
  have hs5 : w5.heap.size = w1.heap.size + 4 := by rw [← hw5]; simp [hsC]
  have K15 : Free.Bel w1 w5 := bt KC K5
  have hws : w.heap.size + 4 ≤ w1.heap.size := by have := HB1.out.1.size; simp at this; omega
  rw [hsC]
  have hseq : SeqN Fence.wide (5 - 1) Tryd.prog 102 #[.pointer (some ⟨w1.heap.size + 3, 0, none⟩)] EP (RQ w5.heap.size) (KP w1.heap.size [w1.heap.size + 1 + 1]) (planP h xs (L.length + 1)) w5 := fun l J Jx W hW hJ hJx hY hno h0 =>
    plan1_in (5 - 1) l w5.heap.size (w1.heap.size + 3) yb gb (L.length + 1) [w1.heap.size + 1 + 1] h xs v0 dv L (by omega) w1 W HYE.out HWE.out.1 HWE.out.2 ((hW.below.block _ (by omega)).trans mY) (by omega) (by simp) (by simp; omega) (by omega) hW.below.size (Below.trans (show Below w1.heap.size w1 w5 from K15) (hW.below.mono (by omega))) J Jx hJ hJx hY hno h0
  have HSEQ := Lib.hid hseq
  have HI := Lib.hid (show RndI w w1.heap.size (w1.heap.size + 1) (w1.heap.size + 1 + 1) w5.heap.size h xs 0 w5 from
    ⟨bt HKB.out.1 (bt HB1.out.1 K15), ((bt HB1.out.1 K15).block _ (lt_of_heap HKB.out.2.1)).trans HKB.out.2.1, ((bt HB1.out.1 K15).block _ (lt_of_heap HKB.out.2.2.1)).trans HKB.out.2.2.1, ((bt HB1.out.1 K15).block _ (lt_of_heap HKB.out.2.2.2)).trans HKB.out.2.2.2, cm.bel K5, (K5.block _ (lt_of_heap cb)).trans cb, Nat.le_refl _, ⟨_, (K5.block _ (lt_of_heap cl)).trans cl, DO.nil _ _⟩, fun a b _ hb => absurd hb (Nat.not_lt_zero _)⟩)
  have HS := Lib.hid (And.intro hs5 hws)
  have HPS := Lib.hid (planS_ever (st_self HWE.out.1) HWE.out.2)
  have HLL := Lib.hid (ever_small HWE.out.1 HYE.out.ev)
  clear hseq mY K5 K15 KC cm cb cl hs5 hws hw5 hsC
  go_wp2_with fail
  refine (wpIn_wide (n := 5)).1 ?_
  refine wpIn_rangeFunc_RN (F := Fence.wide) (n := 5) rfl (by omega) (gf := 102) (lb := #[.pointer (some ⟨w1.heap.size + 3, 0, none⟩)]) rfl trivial (enters_of Tryd.func102 (by kernel_rfl) rfl)
    HSEQ.out (fun A b hA h => h.trans (.of_bel (belAlloc A b) hA)) (RQ.refl _ _) (fun A B k b h _ hc hA => h.other k b hA fun c f e => by rw [e] at hc; cases hc)
    KP.trans (fun W l b b' hl h hc _ => KP.put h hc (by have := HS.out.1; omega)) (fun x vs W hE => by obtain ⟨v, rfl, _⟩ := hE; rfl)
    (fun pre W => RndI w w1.heap.size (w1.heap.size + 1) (w1.heap.size + 1 + 1) w5.heap.size h xs pre.length W)
    (fun c pre W => c = .ret ∧ ∃ i m, RndX w (w1.heap.size + 1 + 1) h xs i m W)
    ?own ?ownx ?abide ?abidex HI.out
    (fun x a' W => ∃ q m c B, DayR x.2 (.slice q m c) W ∧ w5.heap.size ≤ B ∧ W.heap[B]? = some (.cells (arrV (waits x.1)) 109 (0, 0)) ∧ a' = { tmps := #[.agg #[.int .i64 h, .slice p xs.length cp], .pointer (some ⟨w.heap.size, 0, none⟩), .pointer (some ⟨w.heap.size + 1, 0, none⟩), .pointer (some ⟨w.heap.size + 1 + 1, 0, none⟩), .pointer (some ⟨w.heap.size + 1 + 1 + 1, 0, none⟩), .pointer (some ⟨yb, 0, none⟩), .pointer (some ⟨w1.heap.size + 1, 0, none⟩), .pointer (some ⟨w1.heap.size + 1 + 1, 0, none⟩), .pointer (some ⟨B, 0, none⟩), .slice q m c, undef, undef, .tuple #[.pointer (some ⟨yb, 0, none⟩), .int .i64 0], .agg #[.int .i64 h, .slice p xs.length cp], .tuple #[.pointer (some ⟨yb, 0, none⟩), .int .i64 0], .pointer (some ⟨yb, 0, none⟩), .int .i64 0, .int .i64 0, .bool false, undef, .map (some w1.heap.size), .pointer (some ⟨yb, 0, none⟩), .func (.func 102) #[] #[.pointer (some ⟨w1.heap.size + 3, 0, none⟩)], stV (waits x.1), .slice q m c, undef, undef, undef, undef, undef, undef, undef, undef, undef, undef, undef, undef, undef, undef, undef, undef, undef, undef, undef, undef, undef, undef], defers := [] })
    ?hAx ?assign ?body (fun W hW => by
      have h9 := distinct_le (m := L.length + 1) (watchB_iff.1 HWE.out.1).2.1 HYE.out.ev HPS.out (by have := hW.dis; simpa [planP] using this)
      omega) ?stop
  case own =>
    rintro pre A B row h1 hgr hrow
    have hs := HS.out
    exact h1.own hgr hrow (by omega) (by omega) (by omega) (by omega)
  case ownx =>
    rintro c pre A B row ⟨h0, i, m, h1⟩ hgr hrow
    have hs := HS.out
    exact ⟨h0, i, m, h1.own hgr hrow (by omega)⟩
  case abide =>
    rintro pre A B h1 hR
    have hs := HS.out
    exact h1.rq hR (by omega) (by omega) (by omega) (by omega)
  case abidex =>
    rintro c pre A B ⟨h0, i, m, h1⟩ hR
    have hs := HS.out
    exact ⟨h0, i, m, h1.rq hR (by omega)⟩
  case hAx =>
    rintro x a' _ A B row ⟨q, m, c, b, hv, hb, hh, rfl⟩ hgr hrow
    have hcl : ∀ (k : Nat) c e f, A.heap[k]? = some (.cells c e f) → some k ≠ row := fun k c e f hk q => by
      obtain ⟨_, o, ho, hc⟩ := hrow k q.symm
      rw [hk] at ho
      cases ho
      cases hc
    exact ⟨q, m, c, b, hv.stay (fun k c f hk => heap_grown hk hgr (hcl _ _ _ _ hk)), hb, heap_grown hh hgr (hcl _ _ _ _ hh), rfl⟩
  case assign =>
    rintro l pre x vs W K hI hpre ⟨v, rfl, hv⟩ hK
    obtain ⟨b0, hrow⟩ := hv
    obtain ⟨q, c, rfl⟩ := row_slice hrow
    have c9 : (W.alloc (.cells (arrV (waits x.1)) 109)).heap[W.heap.size]? = _ := World.alloc_heap_new W _
    gi_wp2
    have hs := HS.out
    exact hK _ _ ((KeepsOthers.alloc W _).from _) (.of_bel (belAlloc W _)) (hI.rq (.of_bel (belAlloc W _) hI.sz) (by omega) (by omega) (by omega) (by omega)) ⟨q, _, c, W.heap.size, ⟨b0, bel_row hrow (belAlloc _ _)⟩, hI.sz, c9, rfl⟩
  case body =>
    rintro l pre x a' W hD ⟨q, m, c, B, hv, hB, hh, rfl⟩ hpre
    have hx := prefix_plan hpre
    subst hx
    obtain ⟨pm, hpm⟩ : ∃ y, pre.length = y := ⟨_, rfl⟩
    rw [hpm] at hD hv hh ⊢
    have hlp : (pre ++ [(planS h xs pm, stepE h (planS h xs pm))]).length = pm + 1 := by simp [hpm]
    obtain ⟨vl, hl, vs, hvl, how, hdr⟩ := hD.row
    obtain ⟨pl, cl, rfl⟩ := row_slice how
    have hpn : (planL h xs pm).length = pm := planL_length h xs pm
    obtain ⟨S, hS⟩ : ∃ y, waits (planS h xs pm) = y := ⟨_, rfl⟩
    have hL9 := distinct_le (watchB_iff.1 HWE.out.1).2.1 HYE.out.ev HPS.out hD.dis
    have hpb : pm ≤ 1296 := by have := HLL.out; omega
    simp only at hv hh ⊢
    rw [hS] at hh ⊢
    obtain ⟨S0, S1, S2, S3, _⟩ := cells4 hh
    have z0 := cell_of_heap (o := 0) hD.bm rfl
    have z1 := cell_of_heap (o := 0) hl rfl
    have f1 := frozen_of_heap (o := 0) hl
    have hlk : (Instr.lookup 129 (.map (some w1.heap.size)) (.agg #[.int .i64 (S 0), .int .i64 (S 1), .int .i64 (S 2), .int .i64 (S 3)]) true).run Tryd.prog W = .ok (.tuple #[(assoc (q4 S) (seenL h xs pm)).getD (.int .i64 0), .bool (assoc (q4 S) (seenL h xs pm)).isSome]) W := hD.mp.lookup_ok T.quads T.uAt (T.zIntS W) (q4 S)
    rw [hpn] at hl z1 how
    have hpw : IntKind.i64.wrap (pm : Int) = pm := IntWalk.i64_in _ (by omega)
    by_cases hex : ∃ i, i < pm ∧ planS h xs i = planS h xs pm
    · obtain ⟨i, hi, he⟩ := hex
      have has := seen_some (watchB_iff.1 HWE.out.1).2.1 (fun n => (HPS.out n).1) hD.dis hi he
      rw [hS] at has
      rw [has] at hlk
      simp only [Option.getD_some, Option.isSome_some] at hlk
      obtain ⟨g, cap, cur, he2, hge, hgb, hgc, _, _, _⟩ := how.2.resolve_left (fun h9 => by omega)
      simp only [Value.slice.injEq] at he2
      obtain ⟨rfl, _, rfl⟩ := he2
      have HD := Lib.hid (And.intro hD (And.intro hl (And.intro (show DO (w1.heap.size + 1 + 1) (planL h xs pm) (.slice (some ⟨g, 0, none⟩) pm cl) W from ⟨vs, hvl, by rw [hpn]; exact how, hdr⟩) (And.intro hgc (And.intro hi he)))))
      have HCP := Lib.hid (And.intro hgc hi)
      clear hD hl how hdr hvl hgb hge hgc he has hv hh hpre hlp hi hL9
      gi_wp2
      have hF : ∀ W', RX W.heap.size [w.heap.size + 1, w.heap.size + 1 + 1, w.heap.size + 1 + 1 + 1] W.drew W' → (W'.cell? ⟨w1.heap.size + 1 + 1, 0, none⟩ = some (.slice (some ⟨g, 0, none⟩) pm cl) ∧ (Instr.slice 25 (.slice (some ⟨g, 0, none⟩) pm cl) none (some (.int .i64 i)) (some (.int .i64 i))).run Tryd.prog W' = .ok (.slice (some ⟨g, 0, none⟩) i i) W' ∧ (Instr.slice 25 (.slice (some ⟨g, 0, none⟩) pm cl) (some (.int .i64 i)) none none).run Tryd.prog W' = .ok (.slice (some ⟨g, i, none⟩) (pm - i) (cl - i)) W') := fun W' hW => by
        have hs := HS.out
        obtain ⟨hc1, hc2⟩ := HCP.out
        exact ⟨hW.cell (show W.drew.cell? _ = _ from z1) (by have := lt_of_cell z1; simpa using this) (by simp; omega), slice_lead g pm cl i (by omega) W', slice_rest g pm cl i hc2 (by omega) W'⟩
      have hN1 : W.drew.heap[w.heap.size + 1]? = some (.cells #[.slice none 0 0] 25 (0, 0)) := HD.out.1.n1
      have hN2 : W.drew.heap[w.heap.size + 1 + 1]? = some (.cells #[.slice none 0 0] 25 (0, 0)) := HD.out.1.n2
      have hN3 : W.drew.heap[w.heap.size + 1 + 1 + 1]? = some (.cells #[.int .i64 0] 31 (0, 0)) := HD.out.1.n3
      refine Free2R.wp_free (R := RX W.heap.size [w.heap.size + 1, w.heap.size + 1 + 1, w.heap.size + 1 + 1 + 1]) (J := JHL [(7, w.heap.size + 1, .cells #[.slice none 0 0] 25 (0, 0), .cells #[.slice (some ⟨g, 0, none⟩) i i] 25 (0, 0)), (8, w.heap.size + 1 + 1, .cells #[.slice none 0 0] 25 (0, 0), .cells #[.slice (some ⟨g, i, none⟩) (pm - i) (cl - i)] 25 (0, 0)), (9, w.heap.size + 1 + 1 + 1, .cells #[.int .i64 0] 31 (0, 0), .cells #[.int .i64 0] 31 (0, 0))]) (by kernel_rfl) (by kernel_rfl) (by kernel_rfl) (RX.refl _ _) RX.trans (JHL.start (by simp [hN1, hN2, hN3])) ?_
      refine Free2R.Chain.ex ?_ 0 rfl [] [7] (by kernel_rfl) (by kernel_rfl) rfl (RX.refl _ _) (fun X W v h => JHL.skip h 0 v (by simp)) ?_ ?_
      rotate_left
      · (intro ev W hb hR hO hD; have hS := hF W hR; obtain ⟨hb1, hb2, hb3⟩ := hb; simp only [Free.AllDeps, Free.AllOuts, Free.At, al1, al2, al3, al4, al5, and_true] at hO hD; go_simp; rfl)
      simp only [an1, an2]
      refine Free2R.Chain.ex ?_ 1 rfl [] [10] (by kernel_rfl) (by kernel_rfl) rfl (RX.refl _ _) (fun X W v h => JHL.skip h 1 v (by simp)) ?_ ?_
      rotate_left
      · (intro ev W hb hR hO hD; have hS := hF W hR; obtain ⟨hb1, hb2, hb3⟩ := hb; simp only [Free.AllDeps, Free.AllOuts, Free.At, al1, al2, al3, al4, al5, and_true] at hO hD; go_simp; rfl)
      simp only [an1, an2]
      refine Free2R.Chain.ex ?_ 2 rfl [] [10] (by kernel_rfl) (by kernel_rfl) rfl (RX.refl _ _) (fun X W v h => JHL.skip h 2 v (by simp)) ?_ ?_
      rotate_left
      · (intro ev W hb hR hO hD; have hS := hF W hR; obtain ⟨hb1, hb2, hb3⟩ := hb; simp only [Free.AllDeps, Free.AllOuts, Free.At, al1, al2, al3, al4, al5, and_true] at hO hD; go_simp; rfl)
      simp only [an1, an2]
      refine Free2R.Chain.ex ?_ 3 rfl [(0, 32), (1, 33), (2, 34)] [] (by kernel_rfl) (by kernel_rfl) rfl (RX.refl _ _) (fun X W v h => JHL.skip h 3 v (by simp)) ?_ ?_
      rotate_left
      · (intro ev W hb hR hO hD; have hS := hF W hR; obtain ⟨hb1, hb2, hb3⟩ := hb; simp only [Free.AllDeps, Free.AllOuts, Free.At, al1, al2, al3, al4, al5, and_true] at hO hD; go_simp; rfl)
      simp only [an1, an2]
      refine Free2R.Chain.ex ?_ 4 rfl [] [7] (by kernel_rfl) (by kernel_rfl) rfl (RX.refl _ _) (fun X W v h => JHL.skip h 4 v (by simp)) ?_ ?_
      rotate_left
      · (intro ev W hb hR hO hD; have hS := hF W hR; obtain ⟨hb1, hb2, hb3⟩ := hb; simp only [Free.AllDeps, Free.AllOuts, Free.At, al1, al2, al3, al4, al5, and_true] at hO hD; go_simp; rfl)
      simp only [an1, an2]
      refine Free2R.Chain.ex ?_ 5 rfl [] [10] (by kernel_rfl) (by kernel_rfl) rfl (RX.refl _ _) (fun X W v h => JHL.skip h 5 v (by simp)) ?_ ?_
      rotate_left
      · (intro ev W hb hR hO hD; have hS := hF W hR; obtain ⟨hb1, hb2, hb3⟩ := hb; simp only [Free.AllDeps, Free.AllOuts, Free.At, al1, al2, al3, al4, al5, and_true] at hO hD; go_simp; rfl)
      simp only [an1, an2]
      refine Free2R.Chain.ex ?_ 6 rfl [(4, 36), (5, 37)] [] (by kernel_rfl) (by kernel_rfl) rfl (RX.refl _ _) (fun X W v h => JHL.skip h 6 v (by simp)) ?_ ?_
      rotate_left
      · (intro ev W hb hR hO hD; have hS := hF W hR; obtain ⟨hb1, hb2, hb3⟩ := hb; simp only [Free.AllDeps, Free.AllOuts, Free.At, al1, al2, al3, al4, al5, and_true] at hO hD; go_simp; rfl)
      simp only [an1, an2]
      refine Free2R.Chain.pr (fun _ _ => True) 7 rfl [(3, 35), (0, 32), (1, 33), (2, 34), (3, 35)] [2] (by kernel_rfl) (by kernel_rfl) rfl (fun _ _ _ _ h => h) ?_ ?_
      · (intro ev W X hb hR hO hD hj hx hax; have hS := hF W hR; obtain ⟨hb1, hb2, hb3⟩ := hb; simp only [Free.AllDeps, Free.AllOuts, Free.At, al1, al2, al3, al4, al5, and_true] at hO hD; simp only [Free2.AllX, and_true] at hax; have hj0 := (hj (7, w.heap.size + 1, .cells #[.slice none 0 0] 25 (0, 0), .cells #[.slice (some ⟨g, 0, none⟩) i i] 25 (0, 0)) (by simp)).1 hx; have c0 := cell_of_heap (o := 0) hj0 rfl; have c1 := frozen_of_heap (o := 0) hj0; go_simp; exact ⟨RX.set (by simp), JHL.put hj (7, w.heap.size + 1, .cells #[.slice none 0 0] 25 (0, 0), .cells #[.slice (some ⟨g, 0, none⟩) i i] 25 (0, 0)) _ (by first | (simp; done) | (simp; omega)) (by have := heap_setCell_same (o := 0) (.slice (some ⟨g, 0, none⟩) i i) hj0; simpa using this) (fun k hk => heap_setCell_other hk)⟩)
      simp only [an1, an2]
      refine Free2R.Chain.pr (fun _ _ => True) 8 rfl [(6, 38), (0, 32), (1, 33), (2, 34), (3, 35), (4, 36), (5, 37), (6, 38)] [3] (by kernel_rfl) (by kernel_rfl) rfl (fun _ _ _ _ h => h) ?_ ?_
      · (intro ev W X hb hR hO hD hj hx hax; have hS := hF W hR; obtain ⟨hb1, hb2, hb3⟩ := hb; simp only [Free.AllDeps, Free.AllOuts, Free.At, al1, al2, al3, al4, al5, and_true] at hO hD; simp only [Free2.AllX, and_true] at hax; have hj0 := (hj (8, w.heap.size + 1 + 1, .cells #[.slice none 0 0] 25 (0, 0), .cells #[.slice (some ⟨g, i, none⟩) (pm - i) (cl - i)] 25 (0, 0)) (by simp)).1 hx; have c0 := cell_of_heap (o := 0) hj0 rfl; have c1 := frozen_of_heap (o := 0) hj0; go_simp; exact ⟨RX.set (by simp), JHL.put hj (8, w.heap.size + 1 + 1, .cells #[.slice none 0 0] 25 (0, 0), .cells #[.slice (some ⟨g, i, none⟩) (pm - i) (cl - i)] 25 (0, 0)) _ (by first | (simp; done) | (simp; omega)) (by have := heap_setCell_same (o := 0) (.slice (some ⟨g, i, none⟩) (pm - i) (cl - i)) hj0; simpa using this) (fun k hk => heap_setCell_other hk)⟩)
      simp only [an1, an2]
      refine Free2R.Chain.pr (fun _ _ => True) 9 rfl [(0, 32), (1, 33), (2, 34), (3, 35), (4, 36), (5, 37), (6, 38)] [4] (by kernel_rfl) (by kernel_rfl) rfl (fun _ _ _ _ h => h) ?_ ?_
      · (intro ev W X hb hR hO hD hj hx hax; have hS := hF W hR; obtain ⟨hb1, hb2, hb3⟩ := hb; simp only [Free.AllDeps, Free.AllOuts, Free.At, al1, al2, al3, al4, al5, and_true] at hO hD; simp only [Free2.AllX, and_true] at hax; have hj0 := (hj (9, w.heap.size + 1 + 1 + 1, .cells #[.int .i64 0] 31 (0, 0), .cells #[.int .i64 0] 31 (0, 0)) (by simp)).1 hx; have c0 := cell_of_heap (o := 0) hj0 rfl; have c1 := frozen_of_heap (o := 0) hj0; go_simp; exact ⟨RX.set (by simp), JHL.put hj (9, w.heap.size + 1 + 1 + 1, .cells #[.int .i64 0] 31 (0, 0), .cells #[.int .i64 0] 31 (0, 0)) _ (by first | (simp; done) | (simp; omega)) (by have := heap_setCell_same (o := 0) (.int .i64 0) hj0; simpa using this) (fun k hk => heap_setCell_other hk)⟩)
      simp only [an1, an2]
      clear hN1 hN2 hN3
      intro ys w6 hR hV hX
      obtain ⟨X, hj, hxx⟩ := hX
      simp only [Free.AllV, Free.At, List.length_cons, List.length_nil, Nat.reduceAdd, List.getElem?_cons_succ, List.getElem?_cons_zero, true_and, and_true] at hV
      simp only [Free.putsFrom, Act.put, Nat.zero_add, Nat.reduceAdd, hV, List.setIfInBounds_toArray, List.set_cons_succ, List.set_cons_zero]
      have b1 := (hj (7, w.heap.size + 1, .cells #[.slice none 0 0] 25 (0, 0), .cells #[.slice (some ⟨g, 0, none⟩) i i] 25 (0, 0)) (by simp)).2 (by show X 7 ≠ none; rw [hxx 7 (by decide)]; simp)
      have b2 := (hj (8, w.heap.size + 1 + 1, .cells #[.slice none 0 0] 25 (0, 0), .cells #[.slice (some ⟨g, i, none⟩) (pm - i) (cl - i)] 25 (0, 0)) (by simp)).2 (by show X 8 ≠ none; rw [hxx 8 (by decide)]; simp)
      have b3 := (hj (9, w.heap.size + 1 + 1 + 1, .cells #[.int .i64 0] 31 (0, 0), .cells #[.int .i64 0] 31 (0, 0)) (by simp)).2 (by show X 9 ≠ none; rw [hxx 9 (by decide)]; simp)
      have HBB := Lib.hid (And.intro b1 (And.intro b2 (And.intro b3 hR)))
      clear hR hV hj hxx hF b1 b2 b3
      gi_wp2
      obtain ⟨b1, b2, b3, hR⟩ := HBB.out
      obtain ⟨hD, hl, hdo, hgc, hi, he⟩ := HD.out
      have hs := HS.out
      have hW : ∀ (k : Nat) q, W.heap[k]? = some q → k ∉ [w.heap.size + 1, w.heap.size + 1 + 1, w.heap.size + 1 + 1 + 1] → w6.heap[k]? = some q := fun k q hk hne => (hR.block k (lt_of_heap hk) hne).trans hk
      have hcl : ∀ (e : TypeId) (k : Nat) c f, e ≠ 25 → e ≠ 31 → W.heap[k]? = some (.cells c e f) → w6.heap[k]? = some (.cells c e f) := fun e k c f h1 h2 hk => hW k _ hk (by
        intro hm
        simp at hm
        rcases hm with rfl | rfl | rfl
        · rw [hD.n1] at hk; cases hk; exact h1 rfl
        · rw [hD.n2] at hk; cases hk; exact h1 rfl
        · rw [hD.n3] at hk; cases hk; exact h2 rfl)
      refine ⟨⟨hR.size, fun k q hk h1 _ => hW k q h1 (by simp; omega)⟩, rfl, i, pm, ⟨hD.bel.trans ⟨hR.os, hR.tape, hR.output, hR.size, fun k hk => hR.block k (by have := hD.bel.size; omega) (by simp; omega)⟩, ⟨hi, he.symm, hD.dis⟩, ⟨g, cl, hdo.stay (fun k c f hk => hcl 58 k c f (by decide) (by decide) hk) (fun k c f hk => hcl 3 k c f (by decide) (by decide) hk), by omega, b1, b2⟩, b3⟩⟩
    · have hno : ∀ i, i < pm → planS h xs i ≠ planS h xs pm := fun i hi he => hex ⟨i, hi, he⟩
      have has := seen_none (watchB_iff.1 HWE.out.1).2.1 (fun n => (HPS.out n).1) hno
      obtain ⟨w6, hup, hg6, hm6, hs6⟩ := hD.mp.update T.quads T.uAt (q4 S) (.int .i64 pm)
      have hset : assocSet (q4 S) (.int .i64 (pm : Int)) (seenL h xs pm) = seenL h xs (pm + 1) := by
        rw [seenL_succ, hS]
        rw [hS] at has
        exact assocSet_append _ _ _ 0 (assocI_none has 0)
      rw [hset] at hm6
      rw [hS] at has
      rw [has] at hlk
      simp only [Option.getD_none, Option.isSome_none] at hlk
      have hup2 : (Instr.mapUpdate 129 (.map (some w1.heap.size)) (.agg #[.int .i64 (S 0), .int .i64 (S 1), .int .i64 (S 2), .int .i64 (S 3)]) (.int .i64 pm)).run Tryd.prog W = .ok () w6 := hup
      have hl6 : w6.heap[w1.heap.size + 1 + 1]? = some (.cells #[.slice pl pm cl] 25 (0, 0)) := heap_grown hl hg6 (by simp; omega)
      have y0 := cell_of_heap (o := 0) hl6 rfl
      have y1 := frozen_of_heap (o := 0) hl6
      have how6 : w6.ownsRow (w1.heap.size + 1 + 1) 58 1 (.slice pl pm cl) pm vs := own_typed how fun k c f hk => heap_grown hk hg6 (fun e => by
        simp at e
        subst e
        obtain ⟨q', h8, h9⟩ := hD.mp.obj
        rw [hk] at h8
        cases h8
        cases h9)
      have hsz6 : w1.heap.size + 1 + 1 ≤ w6.heap.size := by have := lt_of_heap hl6; omega
      obtain ⟨i0, hi0, hz0, hz1, hz2⟩ := info_parts Go.Proofs.YtknpglgpkkhhiaaDoor.T.infoDT
      have HZ := Lib.hid (And.intro hi0 (And.intro hz0 (And.intro hz1 hz2)))
      have HD := Lib.hid (And.intro hD (And.intro hg6 (And.intro hm6 (And.intro hl (And.intro hvl (And.intro how (And.intro hdr (And.intro hv hno))))))))
      have HL6 := Lib.hid hl6
      have HLP := Lib.hid hlp
      clear hi0 hz0 hz1 hz2 hD hl how hdr hvl hv hno hex has hset hup hg6 hm6 hs6 hh hpre hlp hl6 hL9
      gi_wp2_with (gi_at_builtin; go_loud (refine wpListIn_append_own _ rfl _ _ 25 rfl (w1.heap.size + 1 + 1) 58 i0 (.slice none 0 0) 1 24 Tryd.underlying25 HZ.out.1 HZ.out.2.1 HZ.out.2.2.1 HZ.out.2.2.2 rfl (by decide) _ _ _ rfl (how6.alloc _) ⟨w6.heap.size, 0, none⟩ 1 1 [.slice q m c] rfl rfl (cell_one_new _ _ _) (fun u hu => by simp at hu; subst hu; rfl) (by unfold maxLen; omega) (by omega) (by simp; omega) ?_); intro v' w9 hown' hgrow hnil9; obtain ⟨q9, c9, rfl⟩ := row_slice hown'; have hg9 := box_grown HL6.out how6 hgrow; have y2 := cell_of_heap (o := 0) hg9 rfl; have y3 := frozen_of_heap (o := 0) hg9; have HG := Lib.hid (And.intro hown' (And.intro hgrow hg9)); clear hown' hgrow hnil9 hg9 y0 y1)
      obtain ⟨hown', hgrow, hg9⟩ := HG.out
      obtain ⟨hD, hg6, hm6, hl, hvl, how, hdr, hv, hno⟩ := HD.out
      have hs := HS.out
      have h9 := RndI.step hD hg6 hm6 hl hvl (by rw [hpn]; exact how) hdr hv hgrow (by rw [hpn]; exact hown') (by omega) rfl rfl (by omega) hno
      exact ⟨h9.1, h9.2.1, (show RndI w w1.heap.size (w1.heap.size + 1) (w1.heap.size + 1 + 1) w5.heap.size h xs (pre ++ [(planS h xs pm, stepE h (planS h xs pm))]).length _ from by rw [HLP.out]; exact h9.2.2)⟩
  case stop =>
    rintro D c pre W hD _ ⟨rfl, i, m, hX⟩ hKD
    obtain ⟨g, cap, hdo, hmc, b1, b2⟩ := hX.row
    have z1 := cell_of_heap (o := 0) b1 rfl
    have z2 := cell_of_heap (o := 0) b2 rfl
    have z3 := cell_of_heap (o := 0) hX.n3 rfl
    have HXX := Lib.hid (And.intro hX (And.intro hdo hmc))
    clear hX hdo hmc b1 b2
    gi_wp2
    refine ⟨by simp, .inl ⟨_, _, rfl, run_takeDeferred hKD, ?_⟩⟩
    obtain ⟨hX, hdo, hmc⟩ := HXX.out
    have hs := HS.out
    have hne : ∀ b, b < w1.heap.size → (W.putObj D (.deferred none)).heap[b]? = W.heap[b]? := fun b hb => World.putObj_heap_other (by omega)
    have q1 := (World.cell?_of_block (w' := W.putObj D (.deferred none)) (a := ⟨w.heap.size + 1, 0, none⟩) (hne _ (by simp; omega))).trans z1
    have q2 := (World.cell?_of_block (w' := W.putObj D (.deferred none)) (a := ⟨w.heap.size + 1 + 1, 0, none⟩) (hne _ (by simp; omega))).trans z2
    have q3 := (World.cell?_of_block (w' := W.putObj D (.deferred none)) (a := ⟨w.heap.size + 1 + 1 + 1, 0, none⟩) (hne _ (by simp; omega))).trans z3
    refine ⟨.tuple #[.slice (some ⟨g, 0, none⟩) i i, .slice (some ⟨g, i, none⟩) (m - i) (cap - i), .int .i64 0], by simp [results, Tryd.f41, go_sem, q1, q2, q3], ⟨i, m, _, _, hX.rd, rfl, ?_, ?_⟩, hX.bel.trans (Below.putNew _ (by omega))⟩
    · have hz := (hdo.put (o' := .deferred none) hKD rfl).part (a := 0) (n := i) (c := i) (by rw [planL_length]; have := hX.rd.1; omega)
      have e : ((planL h xs m).drop 0).take i = planL h xs i := by
        rw [List.drop_zero]
        have := planL_add h xs i (m - i)
        rw [show i + (m - i) = m by have := hX.rd.1; omega] at this
        rw [this, List.take_left' (planL_length h xs i)]
      rw [e] at hz
      exact hz
    · have hz := (hdo.put (o' := .deferred none) hKD rfl).part (a := i) (n := m - i) (c := cap - i) (by rw [planL_length]; have := hX.rd.1; omega)
      have e : ((planL h xs m).drop i).take (m - i) = (planL h xs m).drop i := List.take_of_length_le (by simp [planL_length])
      rw [e] at hz
      exact hz
end Go.Proofs.YtknpglgpkkhhiaaDoor

/- The longest days on which no rick becomes hot: Last. -/
namespace Go.Proofs.YtknpglgpkkhhiaaDoor
set_option linter.unusedSimpArgs false
set_option linter.unusedVariables false
open Go.RowKit Go.Proofs.YtknpglgpkkhhiaaDoor.Free2 Go.Proofs.YtknpglgpkkhhiaaDoor.ML RR
attribute [local go_sem] Oper.semAt_some

theorem keys_small {h : Int} {xs : List Rk} (hw : watchB h xs = true) : (keysY (allY xs)).length ≤ 1296 := by
  have hx1 : ∀ x ∈ xs, 1 ≤ x.2.1 := fun x hx => (watchB_ok hw x hx).2.2.1
  have h1 := nodup_sub_length (A := keysY (allY xs)) (L := (allY xs).map fun ys => q4 (waits ys)) (keysY_ok _).1 fun q hq => by
    obtain ⟨ys, hy, rfl⟩ := ((keysY_ok _).2 q).1 hq
    exact List.mem_map.2 ⟨ys, hy, rfl⟩
  have h2 := (prodE_bound (xs := xs) fun x hx => ⟨(watchB_ok hw x hx).2.2.1, (watchB_ok hw x hx).2.2.2.1⟩).2
  have h4 := (watchB_iff.1 hw).2.1
  have h6 : (6 : Int) ^ xs.length ≤ 1296 := by
    rcases (show xs.length = 0 ∨ xs.length = 1 ∨ xs.length = 2 ∨ xs.length = 3 ∨ xs.length = 4 by omega) with e | e | e | e | e <;> rw [e] <;> decide
  have h7 : (allY xs).length = (prodE xs).toNat := by simp [allY]
  rw [List.length_map] at h1
  omega
/-- A day of the longest ones. -/
theorem last_step {h : Int} {xs zs : List Rk} {L : List Q4} {j : Nat} (hw : watchB h xs = true) (hG : GoodIs h xs j L) (hz : StOf xs zs) (hg : goodN h (j + 1) zs = true) :
    ∃ d, stepS xs (waits zs) L (D7 h xs) = (tset xs d, waits (dayR d zs), true) ∧ turnB h xs d = true ∧ StOf xs (dayR d zs) ∧ goodN h j (dayR d zs) = true ∧ lastL h (j + 1) zs = d :: lastL h j (dayR d zs) := by
  obtain ⟨d, hd, hm, hc, hg'⟩ := good_step hg
  have h1 := stepS_first (h := h) hz.1 L
  have h2 : firstD h (fun zs => decide (q4 (waits zs) ∈ L)) zs = firstD h (goodN h j) zs := firstD_congr hz fun ys hy => hG.has (watchB_iff.1 hw).2.1 hy
  refine ⟨d, by rw [D7, h1, h2, hd], (mem_daysL hw).1 (by rw [← daysL_ids hz.1.ids]; exact hm), hz.day d hc, hg', ?_⟩
  rw [lastL, hd]
  rfl
/-- The days so far, and where they lead. -/
structure LastI (w6 : World) (B7 B9 n0 : Nat) (h : Int) (xs : List Rk) (n m : Nat) (W : World) : Prop where
  bel : Free.Bel w6 W
  sz : n0 ≤ W.heap.size
  le : m ≤ n
  st : ∃ zs ds v, StOf xs zs ∧ goodN h (n - m) zs = true ∧ lastL h n xs = ds ++ lastL h (n - m) zs ∧ ds.length = m ∧ W.heap[B7]? = some (.cells (arrV (waits zs)) 109 (0, 0)) ∧ W.heap[B9]? = some (.cells #[v] 25 (0, 0)) ∧ DO B9 ds v W
theorem LastI.keep {w6 : World} {B7 B9 n0 : Nat} {h : Int} {xs : List Rk} {n m : Nat} {A B : World} (H : LastI w6 B7 B9 n0 h xs n m A) (hB : Free.Bel A B) : LastI w6 B7 B9 n0 h xs n m B :=
  ⟨bt H.bel hB, Nat.le_trans H.sz hB.size, H.le, let ⟨zs, ds, v, a1, a2, a3, a4, a5, a6, a7⟩ := H.st; ⟨zs, ds, v, a1, a2, a3, a4, (hB.block _ (lt_of_heap a5)).trans a5, (hB.block _ (lt_of_heap a6)).trans a6, a7.bel hB⟩⟩
theorem LastI.own {w6 : World} {B7 B9 n0 : Nat} {h : Int} {xs : List Rk} {n m : Nat} {A B : World} {row : Option Nat} (H : LastI w6 B7 B9 n0 h xs n m A) (hg : A.grownBy B row) (hr : ∀ r, row = some r → n0 ≤ r ∧ ∃ o : Obj, A.heap[r]? = some o ∧ o.isCells = false) (h6 : w6.heap.size ≤ n0) (h7 : B7 < n0) (h9 : B9 < n0) : LastI w6 B7 B9 n0 h xs n m B := by
  have hne : ∀ b, b < n0 → some b ≠ row := fun b hb e => by have := (hr _ e.symm).1; omega
  obtain ⟨zs, ds, v, a1, a2, a3, a4, a5, a6, a7⟩ := H.st
  exact ⟨(show Below w6.heap.size w6 A from H.bel).trans (Below.of_grown hg H.bel.size (fun r e => by have := (hr r e).1; omega)), Nat.le_trans H.sz hg.size, H.le, zs, ds, v, a1, a2, a3, a4, heap_grown a5 hg (hne _ h7), heap_grown a6 hg (hne _ h9), a7.own hg hr⟩
/-- The region that takes a day in. -/
structure JL (B7 B9 : Nat) (S RS : Nat → Int) (v0 : Value) (vs : List Value) (ds : List (List Int)) (d : List Int) (X : XT) (W : World) : Prop where
  o4 : X 4 ≠ none → X 3 ≠ none
  o5 : X 5 ≠ none → X 0 ≠ none ∧ X 4 ≠ none
  o7 : X 7 ≠ none → X 5 ≠ none
  o8 : X 8 ≠ none → X 5 ≠ none
  c9 : X 7 = none → W.heap[B9]? = some (.cells #[v0] 25 (0, 0))
  d9 : X 7 ≠ none → ∀ v, X 5 = some v → W.heap[B9]? = some (.cells #[v] 25 (0, 0))
  c7 : X 8 = none → W.heap[B7]? = some (.cells (arrV S) 109 (0, 0))
  d7 : X 8 ≠ none → W.heap[B7]? = some (.cells (arrV RS) 109 (0, 0))
  row : X 5 = none → vs.length = ds.length ∧ W.ownsRow B9 58 1 v0 ds.length vs ∧ ∀ (i : Nat) (h : i < ds.length) u, vs[i]? = some u → DayR ds[i] u W
  id : X 5 = none → ∀ u, X 3 = some u → DayR d u W
  src : X 5 = none → ∀ v, X 4 = some v → ∃ b u, v = .slice (some ⟨b, 0, none⟩) 1 1 ∧ W.cell? ⟨b, 0, none⟩ = some u ∧ X 3 = some u
  now : ∀ v, X 5 = some v → DO B9 (ds ++ [d]) v W
theorem upd_ne {X : XT} {i n : Nat} {v : Value} (h : X i ≠ none) : upd X n v i ≠ none := by unfold upd; split <;> simp_all
section
variable {B7 B9 : Nat} {S RS : Nat → Int} {v0 : Value} {vs : List Value} {ds : List (List Int)} {d : List Int} {X : XT} {W W' : World}
theorem JL.skip (H : JL B7 B9 S RS v0 vs ds d X W) (n : Nat) (v : Value) (hn : n ≠ 3 ∧ n ≠ 4 ∧ n ≠ 5 ∧ n ≠ 7 ∧ n ≠ 8) : JL B7 B9 S RS v0 vs ds d (upd X n v) W := by
  obtain ⟨n3, n4, n5, n7, n8⟩ := hn
  have e3 := upd_other X v (Ne.symm n3)
  have e4 := upd_other X v (Ne.symm n4)
  have e5 := upd_other X v (Ne.symm n5)
  have e7 := upd_other X v (Ne.symm n7)
  have e8 := upd_other X v (Ne.symm n8)
  exact ⟨by rw [e4, e3]; exact H.o4, fun h => ⟨upd_ne (H.o5 (by rwa [e5] at h)).1, upd_ne (H.o5 (by rwa [e5] at h)).2⟩, by rw [e7, e5]; exact H.o7, by rw [e8, e5]; exact H.o8, by rw [e7]; exact H.c9, by rw [e7, e5]; exact H.d9, by rw [e8]; exact H.c7, by rw [e8]; exact H.d7, by rw [e5]; exact H.row, by rw [e5, e3]; exact H.id, by rw [e5, e4, e3]; exact H.src, by rw [e5]; exact H.now⟩
theorem JL.bel (H : JL B7 B9 S RS v0 vs ds d X W) (hB : Free.Bel W W') : JL B7 B9 S RS v0 vs ds d X W' :=
  have kb : ∀ {k : Nat} {o : Obj}, W.heap[k]? = some o → W'.heap[k]? = some o := fun hk => (hB.block _ (lt_of_heap hk)).trans hk
  ⟨H.o4, H.o5, H.o7, H.o8, fun h => kb (H.c9 h), fun h v hv => kb (H.d9 h v hv), fun h => kb (H.c7 h), fun h => kb (H.d7 h), fun h => ⟨(H.row h).1, bel_row (H.row h).2.1 hB, fun i hi u hu => ((H.row h).2.2 i hi u hu).stay fun _ _ _ hk => kb hk⟩, fun h u hu => (H.id h u hu).stay fun _ _ _ hk => kb hk, fun h v hv => let ⟨b, u, h1, h2, h3⟩ := H.src h v hv; ⟨b, u, h1, keepsB hB h2, h3⟩, fun v hv => (H.now v hv).bel hB⟩
theorem JL.no7 (H : JL B7 B9 S RS v0 vs ds d X W) (h : X 5 = none) : X 7 = none ∧ X 8 = none := ⟨by cases h9 : X 7 with | none => rfl | some v => exact absurd h (H.o7 (by rw [h9]; simp)), by cases h9 : X 8 with | none => rfl | some v => exact absurd h (H.o8 (by rw [h9]; simp))⟩
theorem JL.no5 (H : JL B7 B9 S RS v0 vs ds d X W) (h : X 0 = none ∨ X 4 = none) : X 5 = none := by
  cases h9 : X 5 with
  | none => rfl
  | some v =>
    have := H.o5 (by rw [h9]; simp)
    rcases h with h | h
    · exact absurd h this.1
    · exact absurd h this.2
theorem JL.no4 (H : JL B7 B9 S RS v0 vs ds d X W) (h : X 3 = none) : X 4 = none ∧ X 5 = none := by
  have h4 : X 4 = none := by
    cases h9 : X 4 with
    | none => rfl
    | some v => exact absurd h (H.o4 (by rw [h9]; simp))
  exact ⟨h4, H.no5 (.inr h4)⟩
theorem JL.ids (H : JL B7 B9 S RS v0 vs ds d X W) (h3 : X 3 = none) {u : Value} (hB : Free.Bel W W') (hd : DayR d u W') : JL B7 B9 S RS v0 vs ds d (upd X 3 u) W' := by
  have G := H.bel hB
  obtain ⟨h4, h5⟩ := H.no4 h3
  have e4 := upd_other X u (show (4 : Nat) ≠ 3 by decide)
  have e5 := upd_other X u (show (5 : Nat) ≠ 3 by decide)
  have e7 := upd_other X u (show (7 : Nat) ≠ 3 by decide)
  have e8 := upd_other X u (show (8 : Nat) ≠ 3 by decide)
  exact ⟨fun h => absurd h4 (by rwa [e4] at h), fun h => absurd h5 (by rwa [e5] at h), by rw [e7, e5]; exact G.o7, by rw [e8, e5]; exact G.o8, by rw [e7]; exact G.c9, by rw [e7, e5]; exact G.d9, by rw [e8]; exact G.c7, by rw [e8]; exact G.d7, by rw [e5]; exact G.row, fun _ u' hu => by rw [upd_same] at hu; cases hu; exact hd, fun _ v hv => (by rw [e4, h4] at hv; cases hv), by rw [e5]; exact G.now⟩
theorem JL.made (H : JL B7 B9 S RS v0 vs ds d X W) (h5 : X 5 = none) {b : Nat} {u : Value} (hB : Free.Bel W W') (h3 : X 3 = some u) (hc : W'.cell? ⟨b, 0, none⟩ = some u) : JL B7 B9 S RS v0 vs ds d (upd X 4 (.slice (some ⟨b, 0, none⟩) 1 1)) W' := by
  have G := H.bel hB
  have e3 := upd_other X (.slice (some ⟨b, 0, none⟩) 1 1) (show (3 : Nat) ≠ 4 by decide)
  have e5 := upd_other X (.slice (some ⟨b, 0, none⟩) 1 1) (show (5 : Nat) ≠ 4 by decide)
  have e7 := upd_other X (.slice (some ⟨b, 0, none⟩) 1 1) (show (7 : Nat) ≠ 4 by decide)
  have e8 := upd_other X (.slice (some ⟨b, 0, none⟩) 1 1) (show (8 : Nat) ≠ 4 by decide)
  exact ⟨fun _ => by rw [e3, h3]; simp, fun h => absurd h5 (by rwa [e5] at h), by rw [e7, e5]; exact G.o7, by rw [e8, e5]; exact G.o8, by rw [e7]; exact G.c9, by rw [e7, e5]; exact G.d9, by rw [e8]; exact G.c7, by rw [e8]; exact G.d7, by rw [e5]; exact G.row, by rw [e5, e3]; exact G.id, fun _ v hv => by rw [upd_same] at hv; cases hv; exact ⟨b, u, rfl, hc, by rw [e3]; exact h3⟩, by rw [e5]; exact G.now⟩
theorem JL.app (H : JL B7 B9 S RS v0 vs ds d X W) (h5 : X 5 = none) (h0 : X 0 ≠ none) (h4 : X 4 ≠ none) {v' u : Value} (h3 : X 3 = some u) (hB7 : B7 < B9) (hg : W.grownBy W' v0.ownBlock) (ho : W'.ownsRow B9 58 1 v' (ds.length + 1) (vs ++ [u])) : JL B7 B9 S RS v0 vs ds d (upd X 5 v') W' := by
  have e0 := upd_other X v' (show (0 : Nat) ≠ 5 by decide)
  have e4 := upd_other X v' (show (4 : Nat) ≠ 5 by decide)
  have e3 := upd_other X v' (show (3 : Nat) ≠ 5 by decide)
  have e7 := upd_other X v' (show (7 : Nat) ≠ 5 by decide)
  have e8 := upd_other X v' (show (8 : Nat) ≠ 5 by decide)
  obtain ⟨h7, h8⟩ := H.no7 h5
  obtain ⟨hl, how, hdr⟩ := H.row h5
  have hne : ∀ {k : Nat} {c : Array Value} {t : TypeId} {f : Nat × Nat}, t ≠ 58 → W.heap[k]? = some (.cells c t f) → W'.heap[k]? = some (.cells c t f) := fun {k c t f} ht hk => heap_grown hk hg fun e => by
    rcases how.2 with ⟨h9, _⟩ | ⟨g, cap, cur, h9, _, hg2, _⟩
    · rw [h9] at e; simp [Value.ownBlock] at e
    · rw [h9] at e
      simp [Value.ownBlock] at e
      subst e
      rw [hk] at hg2
      cases hg2
      exact ht rfl
  have h9 := hne (by decide) (H.c9 h7)
  refine ⟨fun _ => by rw [e3, h3]; simp, fun _ => ⟨by rw [e0]; exact h0, by rw [e4]; exact h4⟩, fun _ => by rw [upd_same]; simp, fun _ => by rw [upd_same]; simp, fun _ => h9, fun h => absurd h7 (by rwa [e7] at h), fun _ => hne (by decide) (H.c7 h8), fun h => absurd h8 (by rwa [e8] at h), fun h => (by rw [upd_same] at h; cases h), fun h => (by rw [upd_same] at h; cases h), fun h => (by rw [upd_same] at h; cases h), fun v hv => ?_⟩
  rw [upd_same] at hv
  cases hv
  exact DO.snoc hl how hdr (H.id h5 u h3) hg ho
theorem JL.put9 (H : JL B7 B9 S RS v0 vs ds d X W) (h7 : X 7 = none) {v v1 : Value} (h5 : X 5 = some v) (hB7 : B7 < B9) : JL B7 B9 S RS v0 vs ds d (upd X 7 v1) (W.setCell ⟨B9, 0, none⟩ v) := by
  have e0 := upd_other X v1 (show (0 : Nat) ≠ 7 by decide)
  have e3 := upd_other X v1 (show (3 : Nat) ≠ 7 by decide)
  have e4 := upd_other X v1 (show (4 : Nat) ≠ 7 by decide)
  have e5 := upd_other X v1 (show (5 : Nat) ≠ 7 by decide)
  have e8 := upd_other X v1 (show (8 : Nat) ≠ 7 by decide)
  have hb := H.c9 h7
  have h9 := heap_setCell_same (o := 0) v hb
  have ho : ∀ (k : Nat) c t f, t ≠ 25 → W.heap[k]? = some (.cells c t f) → (W.setCell ⟨B9, 0, none⟩ v).heap[k]? = some (.cells c t f) := fun k c t f ht hk => heap_other hk fun e => by
    simp at e; subst e; rw [hb] at hk; cases hk; exact ht rfl
  refine ⟨by rw [e4, e3]; exact H.o4, fun h => ⟨by rw [e0]; exact (H.o5 (by rwa [e5] at h)).1, by rw [e4]; exact (H.o5 (by rwa [e5] at h)).2⟩, fun _ => by rw [e5, h5]; simp, by rw [e8, e5]; exact H.o8, fun h => (by rw [upd_same] at h; cases h), fun _ v' hv => by rw [e5, h5] at hv; cases hv; simpa using h9, fun h => ho _ _ _ _ (by decide) (H.c7 (by rwa [e8] at h)), fun h => ho _ _ _ _ (by decide) (H.d7 (by rwa [e8] at h)), fun h => (by rw [e5, h5] at h; cases h), fun h => (by rw [e5, h5] at h; cases h), fun h => (by rw [e5, h5] at h; cases h), fun v' hv => ?_⟩
  have hn := H.now v' (by rwa [e5] at hv)
  exact hn.stay (fun k c f hk => ho k c _ f (by decide) hk) fun k c f hk => ho k c _ f (by decide) hk
theorem four_put {b : Nat} {S RS : Nat → Int} (h : W.heap[b]? = some (.cells (arrV S) 109 (0, 0))) : ((((W.setCell ⟨b, 0, none⟩ (.int .i64 (RS 0))).setCell ⟨b, 1, none⟩ (.int .i64 (RS 1))).setCell ⟨b, 2, none⟩ (.int .i64 (RS 2))).setCell ⟨b, 3, none⟩ (.int .i64 (RS 3))).heap[b]? = some (.cells (arrV RS) 109 (0, 0)) := four_heap (x0 := .int .i64 (RS 0)) (x1 := .int .i64 (RS 1)) (x2 := .int .i64 (RS 2)) (x3 := .int .i64 (RS 3)) h
theorem JL.put7 (H : JL B7 B9 S RS v0 vs ds d X W) (h8 : X 8 = none) (h5 : X 5 ≠ none) {v1 : Value} (hB7 : B7 < B9) : JL B7 B9 S RS v0 vs ds d (upd X 8 v1) ((((W.setCell ⟨B7, 0, none⟩ (.int .i64 (RS 0))).setCell ⟨B7, 1, none⟩ (.int .i64 (RS 1))).setCell ⟨B7, 2, none⟩ (.int .i64 (RS 2))).setCell ⟨B7, 3, none⟩ (.int .i64 (RS 3))) := by
  have e0 := upd_other X v1 (show (0 : Nat) ≠ 8 by decide)
  have e3 := upd_other X v1 (show (3 : Nat) ≠ 8 by decide)
  have e4 := upd_other X v1 (show (4 : Nat) ≠ 8 by decide)
  have e5 := upd_other X v1 (show (5 : Nat) ≠ 8 by decide)
  have e7 := upd_other X v1 (show (7 : Nat) ≠ 8 by decide)
  have hb := H.c7 h8
  have h9 := four_put (RS := RS) hb
  have ho : ∀ (k : Nat) c t f, t ≠ 109 → W.heap[k]? = some (.cells c t f) → ((((W.setCell ⟨B7, 0, none⟩ (.int .i64 (RS 0))).setCell ⟨B7, 1, none⟩ (.int .i64 (RS 1))).setCell ⟨B7, 2, none⟩ (.int .i64 (RS 2))).setCell ⟨B7, 3, none⟩ (.int .i64 (RS 3))).heap[k]? = some (.cells c t f) := fun k c t f ht hk => by
    have hne : k ≠ B7 := fun e => by subst e; rw [hb] at hk; cases hk; exact ht rfl
    exact heap_other (heap_other (heap_other (heap_other hk (by simpa using hne)) (by simpa using hne)) (by simpa using hne)) (by simpa using hne)
  refine ⟨by rw [e4, e3]; exact H.o4, fun h => ⟨by rw [e0]; exact (H.o5 (by rwa [e5] at h)).1, by rw [e4]; exact (H.o5 (by rwa [e5] at h)).2⟩, by rw [e7, e5]; exact H.o7, fun _ => by rw [e5]; exact h5, fun h => ho _ _ _ _ (by decide) (H.c9 (by rwa [e7] at h)), fun h v hv => ho _ _ _ _ (by decide) (H.d9 (by rwa [e7] at h) v (by rwa [e5] at hv)), fun h => (by rw [upd_same] at h; cases h), fun _ => h9, fun h => absurd (by rwa [e5] at h) h5, fun h => absurd (by rwa [e5] at h) h5, fun h => absurd (by rwa [e5] at h) h5, fun v hv => ?_⟩
  exact (H.now v (by rwa [e5] at hv)).stay (fun k c f hk => ho k c _ f (by decide) hk) fun k c f hk => ho k c _ f (by decide) hk
end
theorem RX.less {s0 s1 : Nat} {bs : List Nat} {a b : World} (h : RX s0 bs a b) (hs : s1 ≤ s0) : RX s1 bs a b := ⟨h.os, h.tape, h.output, h.size, fun k h1 h2 => h.block k (by omega) h2⟩
theorem JL.start {B7 B9 : Nat} {S RS : Nat → Int} {v0 : Value} {vs : List Value} {ds : List (List Int)} {d : List Int} {W : World} (h9 : W.heap[B9]? = some (.cells #[v0] 25 (0, 0))) (h7 : W.heap[B7]? = some (.cells (arrV S) 109 (0, 0))) (hr : vs.length = ds.length ∧ W.ownsRow B9 58 1 v0 ds.length vs ∧ ∀ (i : Nat) (h : i < ds.length) u, vs[i]? = some u → DayR ds[i] u W) : JL B7 B9 S RS v0 vs ds d (fun _ => none) W :=
  ⟨fun h => absurd rfl h, fun h => absurd rfl h, fun h => absurd rfl h, fun h => absurd rfl h, fun _ => h9, fun h => absurd rfl h, fun _ => h7, fun h => absurd rfl h, fun _ => hr, (fun _ u hu => (by cases hu)), (fun _ v hv => (by cases hv)), fun v hv => (by cases hv)⟩
theorem RX.row {s0 n : Nat} {B7 B9 : Nat} {v0 : Value} {vs : List Value} {W W' : World} (ho : W.ownsRow B9 58 1 v0 n vs) (hg : W.grownBy W' v0.ownBlock) (hs : s0 ≤ W.heap.size) : RX s0 (B9 :: B7 :: v0.ownBlock.toList) W W' :=
  ⟨hg.os, hg.tape, hg.output, hg.size, fun k hk hn => hg.block k (by omega) fun e => hn (by rw [← e]; simp)⟩
theorem cell_one_add {b : Nat} {u : Value} {W : World} (h : W.cell? ⟨b, 0, none⟩ = some u) : ∀ (j : Nat) u', [u][j]? = some u' → W.cell? ((⟨b, 0, none⟩ : Addr).add j) = some u' := fun j u' hj => by
  match j, hj with
  | 0, hj => simp at hj; subst hj; simpa [Addr.add] using h
theorem rx_kp {B7 B9 n0 n : Nat} {v0 : Value} {vs : List Value} {c7 c9 : Array Value} {f7 f9 : Nat × Nat} {W W' : World} (how : W.ownsRow B9 58 1 v0 n vs) (h7 : W.heap[B7]? = some (.cells c7 109 f7)) (h9 : W.heap[B9]? = some (.cells c9 25 f9)) (h79 : B7 < B9) (hR : RX W.heap.size (B9 :: B7 :: v0.ownBlock.toList) W W') : KeepsFrom n0 W W' ∧ KP B7 [B7, B9] W W' := by
  have key : ∀ (k : Nat) (o : Obj), W.heap[k]? = some o → k ≠ B7 → k ≠ B9 → (k < B7 ∨ ∀ c f, o ≠ .cells c 58 f) → W'.heap[k]? = some o := fun k o hk h1 h2 h3 => (hR.block k (lt_of_heap hk) (by
    simp only [List.mem_cons, not_or]
    refine ⟨h2, h1, ?_⟩
    rcases how.2 with ⟨h9, _⟩ | ⟨g, cap, cur, h9, hb, hg2, _⟩
    · rw [h9]; simp [Value.ownBlock]
    · rw [h9]
      simp [Value.ownBlock]
      rintro rfl
      rcases h3 with h3 | h3
      · omega
      · rw [hk] at hg2
        cases hg2
        exact h3 _ _ rfl)).trans hk
  refine ⟨⟨hR.size, fun k o _ hk hc => key k o hk ?_ ?_ (.inr ?_)⟩, hR.os, hR.tape, hR.output, hR.size, fun k o hk hc => ?_⟩
  · rintro rfl; rw [h7] at hk; cases hk; cases hc
  · rintro rfl; rw [h9] at hk; cases hk; cases hc
  · rintro c f rfl; cases hc
  · rcases hc with hc | ⟨_, hc, ht⟩
    · exact key k o hk (by omega) (by omega) (.inl hc)
    · simp at hc
      exact key k o hk hc.1 hc.2 (.inr ht)
end Go.Proofs.YtknpglgpkkhhiaaDoor

/- The longest days: the walk. -/
namespace Go.Proofs.YtknpglgpkkhhiaaDoor
set_option linter.unusedSimpArgs false
set_option linter.unusedVariables false
open Go.RowKit Go.Proofs.YtknpglgpkkhhiaaDoor.Free2 Go.Proofs.YtknpglgpkkhhiaaDoor.ML RR
attribute [local go_sem] Oper.semAt_some

theorem slice_low (g m cap i : Nat) (h : i ≤ cap) (W : World) : (Instr.slice 137 (.slice (some ⟨g, 0, none⟩) m cap) none (some (.int .i64 i)) none).run Tryd.prog W = .ok (.slice (some ⟨g, 0, none⟩) i cap) W := by
  have h1 : (0 : Int) ≤ i := by omega
  have h2 : (i : Int) ≤ cap := by omega
  have hs : (sizeOf 139).run Tryd.prog W = .ok 1 W := by kernel_rfl
  simp [Instr.slice, run_underlying Tryd.underlying137, Instr.sliceBounds, run_sliceBound, h1, h2, hs]
  intro h9
  simp [Addr.add]
noncomputable def lastE (h : Int) (xs : List Rk) : Int := open Classical in if watchB h xs = true then (if everB h xs = true then 6 else 0) else 70
/-- What Last tells. -/
def LastPost (h : Int) (xs : List Rk) (c : Int) (w : World) (e : Ending) (w' : World) : Prop :=
  (c ≠ 0 ∧ e = .returned (.tuple #[.slice none 0 0, .int .i64 c])) ∨ (c = 0 ∧ ∃ n v, n ≤ 1296 ∧ goodN h n xs = true ∧ goodN h (n + 1) xs = false ∧ e = .returned (.tuple #[v, .int .i64 0]) ∧ DO w.heap.size (lastL h n xs) v w')
set_option maxRecDepth 100000 in
set_option maxHeartbeats 16000000 in
theorem last_a (h : Int) (xs : List Rk) (u : Value) (w : World) (hT : TabR w) (hu : RL xs u w) (hw : watchB h xs = false) :
    Calls Tryd.prog 47 #[.agg #[.int .i64 h, u]] w fun e w' => e = .returned (.tuple #[.slice none 0 0, .int .i64 70]) ∧ Below w.heap.size w w' := by
  have HU := Lib.hid hu
  obtain ⟨p, cp, rfl, _, _⟩ := hu
  have KB : Free.Bel w (w.alloc (.cells #[.int .i64 h, .slice p xs.length cp] 24)) := belAlloc _ _
  have m0 : (w.alloc (.cells #[.int .i64 h, .slice p xs.length cp] 24)).heap[w.heap.size]? = some (.cells #[.int .i64 h, .slice p xs.length cp] 24 (0, 0)) := World.alloc_heap_new w _
  have FA : ∀ W, Free.Bel (w.alloc (.cells #[.int .i64 h, .slice p xs.length cp] 24)) W → W.cell? ⟨w.heap.size, 0, none⟩ = some (.int .i64 h) ∧ W.cell? ⟨w.heap.size, 1, none⟩ = some (.slice p xs.length cp) := fun W hW => ⟨keepsB hW (cell_of_heap m0 rfl), keepsB hW (cell_of_heap m0 rfl)⟩
  have KE : Free.Bel (w.alloc (.cells #[.int .i64 h, .slice p xs.length cp] 24)) (w.alloc (.cells #[.int .i64 h, .slice p xs.length cp] 24)) := Free.Bel.refl _
  have HKB := Lib.hid KB
  have HCK := Lib.hid (checkP_v h xs _ (w.alloc (.cells #[.int .i64 h, .slice p xs.length cp] 24)) (hT.bel KB) (HU.out.keeps KB) 70 (by show _ = _; simp [hw]))
  clear hT hw m0
  go_enter Tryd.func47, Tryd.ntmps47
  go_wp2_with fail
  refine HCK.out.mono ?_
  rintro e w1 ⟨rfl, hB1⟩
  have HB := Lib.hid (bt KB hB1)
  clear hB1
  go_wp2_with fail
  go_ret2
  exact ⟨rfl, HB.out⟩
set_option maxRecDepth 100000 in
set_option maxHeartbeats 16000000 in
theorem last_b (h : Int) (xs : List Rk) (u : Value) (w : World) (hT : TabR w) (hu : RL xs u w) (hw : watchB h xs = true) (he : everB h xs = true) :
    Calls Tryd.prog 47 #[.agg #[.int .i64 h, u]] w fun e w' => e = .returned (.tuple #[.slice none 0 0, .int .i64 6]) ∧ Below w.heap.size w w' := by
  have HU := Lib.hid hu
  obtain ⟨p, cp, rfl, _, _⟩ := hu
  have KB : Free.Bel w (w.alloc (.cells #[.int .i64 h, .slice p xs.length cp] 24)) := belAlloc _ _
  have m0 : (w.alloc (.cells #[.int .i64 h, .slice p xs.length cp] 24)).heap[w.heap.size]? = some (.cells #[.int .i64 h, .slice p xs.length cp] 24 (0, 0)) := World.alloc_heap_new w _
  have FA : ∀ W, Free.Bel (w.alloc (.cells #[.int .i64 h, .slice p xs.length cp] 24)) W → W.cell? ⟨w.heap.size, 0, none⟩ = some (.int .i64 h) ∧ W.cell? ⟨w.heap.size, 1, none⟩ = some (.slice p xs.length cp) := fun W hW => ⟨keepsB hW (cell_of_heap m0 rfl), keepsB hW (cell_of_heap m0 rfl)⟩
  have KE : Free.Bel (w.alloc (.cells #[.int .i64 h, .slice p xs.length cp] 24)) (w.alloc (.cells #[.int .i64 h, .slice p xs.length cp] 24)) := Free.Bel.refl _
  have HKB := Lib.hid KB
  have HCK := Lib.hid (checkP_v h xs _ (w.alloc (.cells #[.int .i64 h, .slice p xs.length cp] 24)) (hT.bel KB) (HU.out.keeps KB) 0 (by show _ = _; simp [hw]))
  have H4 := Lib.hid (watchB_iff.1 hw).2.1
  have HX := Lib.hid (watchB_ok hw)
  have HST := Lib.hid (st_self hw)
  have HWE := Lib.hid (And.intro hw he)
  clear hT hw he m0
  go_enter Tryd.func47, Tryd.ntmps47
  go_wp2_with fail
  refine HCK.out.mono ?_
  rintro e w1 ⟨rfl, hB1⟩
  have HB1 := Lib.hid (bt HKB.out hB1)
  have K1 : Free.Bel (w.alloc (.cells #[.int .i64 h, .slice p xs.length cp] 24)) w1 := hB1
  clear hB1
  go_wp2_with fail
  refine (begun_any h xs _ w1 (HU.out.keeps (bt HKB.out K1)) HWE.out.1).mono ?_
  rintro e w2 ⟨yb, gb, dv, v, rfl, hyw, hm, hy1, hy2, hy3, hB2⟩
  have hB12 : Free.Bel w w2 := bt (bt HKB.out K1) hB2
  have hgl := hm.lt
  have hmo := (show MapIs quadV gb _ (w2.alloc (.cells #[.pointer (some ⟨yb, 0, none⟩)] 108)) from hm.bel (belAlloc _ _)).obj
  have hyl := lt_of_cell hyw.c1
  have hlb : ((w2.alloc (.cells #[.pointer (some ⟨yb, 0, none⟩)] 108)).alloc (.cells #[.slice none 0 0] 137)).heap[w2.heap.size + 1]? = some (.cells #[.slice none 0 0] 137 (0, 0)) := by
    have := World.alloc_heap_new (w2.alloc (.cells #[.pointer (some ⟨yb, 0, none⟩)] 108)) (.cells #[.slice none 0 0] 137)
    simpa using this
  have h5b : (w2.alloc (.cells #[.pointer (some ⟨yb, 0, none⟩)] 108)).heap[w2.heap.size]? = some (.cells #[.pointer (some ⟨yb, 0, none⟩)] 108 (0, 0)) := World.alloc_heap_new w2 _
  have HSET := Lib.hid (settle_told yb gb (w2.heap.size + 1) h xs v dv _ (w2.alloc (.cells #[.pointer (some ⟨yb, 0, none⟩)] 108)) ((w2.alloc (.cells #[.pointer (some ⟨yb, 0, none⟩)] 108)).alloc (.cells #[.slice none 0 0] 137)) (hyw.kc (.of_bel (belAlloc _ _))) (hm.bel (belAlloc _ _)) (belAlloc _ _) hlb (by simp) H4.out (fun x hx => (HX.out x hx).2.2.2.1) (keysY_good fun x hx => (HX.out x hx).2.2.1) (keys_small HWE.out.1))
  have HALL := Lib.hid (And.intro hB12 (And.intro h5b (And.intro hgl (And.intro hyw.c1 (And.intro hyw (And.intro hy2 (And.intro hmo hyl)))))))
  clear hyw hm hy1 hy2 hy3 hB2 hB12 hgl hyl hmo h5b hlb FA KE KB K1
  go_wp2_with fail
  refine HSET.out.mono ?_
  rintro e w5 ⟨⟨x, rfl⟩, K, gs, tv, L, hK, hE, hM, hG, hTl, hstay⟩
  obtain ⟨hB12, h5b, hgl, hc1, hyw, hgy, hmo, hyl⟩ := HALL.out
  have hgw : w.heap.size ≤ gb := Nat.le_trans (by have := (show Free.Bel w w1 from HB1.out).size; exact this) hgy
  have h5 : w5.heap[w2.heap.size]? = some (.cells #[.pointer (some ⟨yb, 0, none⟩)] 108 (0, 0)) := heap_grown h5b hG (by simp; omega)
  have hyw5 : YW yb gb h xs v dv w5 := (hyw.kc (.of_bel (belAlloc _ _))).kc ((fun ⟨o, h1, h2⟩ => KC.of_grown hG h1 h2) hmo)
  have HYE := Lib.hid (show YE yb gb h xs v dv L w5 from ⟨hyw5, hM, hE⟩)
  have hB5 : Below w.heap.size w w5 := Below.trans (show Below w.heap.size w (w2.alloc (.cells #[.pointer (some ⟨yb, 0, none⟩)] 108)) from bt hB12 (belAlloc _ _)) (Below.of_grown hG (by have := hB12.size; simp; omega) (fun r e => by cases e; exact hgw))
  have hsz5 : w2.heap.size + 2 ≤ w5.heap.size := by have := lt_of_heap hTl.box; omega
  have HTL := Lib.hid (And.intro hTl (And.intro hK (And.intro hstay (And.intro hB5 (And.intro h5 (And.intro hsz5 (hB12.size)))))))
  have c5 := cell_of_heap (o := 0) h5 rfl
  clear hE hM hG hTl hstay hK hB5 h5 hsz5 hB12 h5b hgl hc1 hyw hgy hmo hyl hyw5 hgw
  go_wp2_with fail
  refine (now_any yb xs v w5 HYE.out.yw.c1 HYE.out.yw.rl H4.out).mono ?_
  rintro e w6 ⟨rfl, hB6⟩
  have hB6 : Free.Bel w5 w6 := hB6
  have HK6 := Lib.hid hB6
  clear c5 hB6
  go_wp2_with fail
  have KA : Free.Bel w6 (w6.alloc (.cells (arrV (waits xs)) 109)) := belAlloc _ _
  have hFB : ∀ W, Free.Bel (w6.alloc (.cells (arrV (waits xs)) 109)).drew W → Free.Bel w6 W := fun W hW => bt KA (bt (Bel.drewT (Free.Bel.refl _)) hW)
  have m7 : (w6.alloc (.cells (arrV (waits xs)) 109)).heap[w6.heap.size]? = some (.cells (arrV (waits xs)) 109 (0, 0)) := World.alloc_heap_new w6 _
  have HM7 := Lib.hid m7
  have hF : ∀ W, Free.Bel (w6.alloc (.cells (arrV (waits xs)) 109)).drew W → (W.cell? ⟨w2.heap.size, 0, none⟩ = some (.pointer (some ⟨yb, 0, none⟩)) ∧ W.cell? ⟨yb, 2, none⟩ = some (.map (some gb)) ∧ (Instr.lookup 139 (.map (some gb)) (.agg #[.int .i64 (waits xs 0), .int .i64 (waits xs 1), .int .i64 (waits xs 2), .int .i64 (waits xs 3)]) false).run Tryd.prog W = .ok (.bool true) W ∧ (W.cell? ⟨w6.heap.size, 0, none⟩ = some (.int .i64 (waits xs 0)) ∧ W.cell? ⟨w6.heap.size, 1, none⟩ = some (.int .i64 (waits xs 1)) ∧ W.cell? ⟨w6.heap.size, 2, none⟩ = some (.int .i64 (waits xs 2)) ∧ W.cell? ⟨w6.heap.size, 3, none⟩ = some (.int .i64 (waits xs 3)))) := fun W hW => by
    have h1 := HYE.out.bel (bt HK6.out (hFB W hW))
    have h2 := h1.has H4.out HST.out
    rw [HWE.out.2] at h2
    have hd : Free.Bel (w6.alloc (.cells (arrV (waits xs)) 109)) W := bt (Bel.drewT (Free.Bel.refl _)) hW
    obtain ⟨z0, z1, z2, z3, _⟩ := cells4 ((hd.block _ (lt_of_heap HM7.out)).trans HM7.out)
    exact ⟨keepsB (bt HK6.out (hFB W hW)) (cell_of_heap HTL.out.2.2.2.2.1 rfl), h1.yw.c2, h2, z0, z1, z2, z3⟩
  refine Free.wp_free (R := Free.Bel) (by kernel_rfl) (by kernel_rfl) Free.Bel.refl Free.Bel.trans ?_
  refine Free.Chain.ex ?_ [] [5] (by kernel_rfl) (by kernel_rfl) rfl Free.Bel.refl ?_ ?_
  rotate_left
  · (intro ev W hb hR hO hD; have hS := hF W hR; obtain ⟨hb1, hb2, hb3⟩ := hb; simp only [Free.AllDeps, Free.AllOuts, Free.At, al1, al2, al3, al4, al5, and_true] at hO hD; go_simp; rfl)
  simp only [an1, an2]
  refine Free.Chain.ex ?_ [(0, 27)] [] (by kernel_rfl) (by kernel_rfl) rfl Free.Bel.refl ?_ ?_
  rotate_left
  · (intro ev W hb hR hO hD; have hS := hF W hR; obtain ⟨hb1, hb2, hb3⟩ := hb; simp only [Free.AllDeps, Free.AllOuts, Free.At, al1, al2, al3, al4, al5, and_true] at hO hD; go_simp; rfl)
  simp only [an1, an2]
  refine Free.Chain.ex ?_ [(1, 28)] [] (by kernel_rfl) (by kernel_rfl) rfl Free.Bel.refl ?_ ?_
  rotate_left
  · (intro ev W hb hR hO hD; have hS := hF W hR; obtain ⟨hb1, hb2, hb3⟩ := hb; simp only [Free.AllDeps, Free.AllOuts, Free.At, al1, al2, al3, al4, al5, and_true] at hO hD; go_simp; rfl)
  simp only [an1, an2]
  refine Free.Chain.ex ?_ [(2, 29)] [] (by kernel_rfl) (by kernel_rfl) rfl Free.Bel.refl ?_ ?_
  rotate_left
  · (intro ev W hb hR hO hD; have hS := hF W hR; obtain ⟨hb1, hb2, hb3⟩ := hb; simp only [Free.AllDeps, Free.AllOuts, Free.At, al1, al2, al3, al4, al5, and_true] at hO hD; go_simp; rfl)
  simp only [an1, an2]
  refine Free.Chain.ex ?_ [] [7] (by kernel_rfl) (by kernel_rfl) rfl Free.Bel.refl ?_ ?_
  rotate_left
  · (intro ev W hb hR hO hD; have hS := hF W hR; obtain ⟨hb1, hb2, hb3⟩ := hb; simp only [Free.AllDeps, Free.AllOuts, Free.At, al1, al2, al3, al4, al5, and_true] at hO hD; go_simp; rfl)
  simp only [an1, an2]
  refine Free.Chain.ex ?_ [(3, 30), (4, 31)] [] (by kernel_rfl) (by kernel_rfl) rfl Free.Bel.refl ?_ ?_
  rotate_left
  · (intro ev W hb hR hO hD; have hS := hF W hR; obtain ⟨hb1, hb2, hb3⟩ := hb; simp only [Free.AllDeps, Free.AllOuts, Free.At, al1, al2, al3, al4, al5, and_true] at hO hD; go_simp; rfl)
  simp only [an1, an2]
  intro ys w8 hR hV
  simp only [Free.AllV, Free.At, List.length_cons, List.length_nil, Nat.reduceAdd, List.getElem?_cons_succ, List.getElem?_cons_zero, true_and, and_true] at hV
  simp only [Free.putsFrom, Act.put, Nat.zero_add, Nat.reduceAdd, hV, List.setIfInBounds_toArray, List.set_cons_succ, List.set_cons_zero]
  have HB8 := Lib.hid (show Free.Bel (w6.alloc (.cells (arrV (waits xs)) 109)) w8 from bt (Bel.drewT (Free.Bel.refl _)) hR)
  clear hR hV hF hFB KA m7
  have HBW := Lib.hid (HTL.out.2.2.2.1.trans (Below.mono (bt HK6.out (bt (belAlloc _ _) HB8.out)) HTL.out.2.2.2.1.size))
  go_wp2_with fail
  go_ret2
  exact ⟨rfl, HBW.out⟩
end Go.Proofs.YtknpglgpkkhhiaaDoor

/- What the reference's answers share. -/
namespace Go.Proofs.YtknpglgpkkhhiaaDoor
set_option linter.unusedSimpArgs false
set_option linter.unusedVariables false
open Go.RowKit Go.Proofs.YtknpglgpkkhhiaaDoor.Free2 Go.Proofs.YtknpglgpkkhhiaaDoor.ML RR

theorem LongT.read {h : Int} {xs ys : List Rk} {O : List Int} (H : LongT h xs O) (hy : StOf xs ys) : ∃ (cn : Nat) (val : Int), codeR ys = (cn : Int) ∧ cn < O.length ∧ O[cn]? = some val ∧ LongIs h ys val := by
  obtain ⟨v, h1, h2⟩ := H.2 ys hy
  obtain ⟨h3, h4⟩ := code_lt hy
  exact ⟨(codeR ys).toNat, v, by omega, (List.getElem?_eq_some_iff.1 h1).1, h1, h2⟩
theorem LongT.ever_q {h : Int} {xs : List Rk} {O : List Int} (H : LongT h xs O) (zs : List Rk) (hz : StOf xs zs) : decide (1000000 ≤ O.getD (codeR zs).toNat 0) = everB h zs := by
  obtain ⟨v, h1, h2⟩ := H.2 zs hz
  rw [List.getD_eq_getElem?_getD, h1]
  exact h2.ever.1
theorem LongT.good_q {h : Int} {xs : List Rk} {O : List Int} (H : LongT h xs O) {i : Nat} (hi : i < 1000000) (zs : List Rk) (hz : StOf xs zs) : decide ((i : Int) ≤ O.getD (codeR zs).toNat 0) = goodN h i zs := by
  obtain ⟨v, h1, h2⟩ := H.2 zs hz
  rw [List.getD_eq_getElem?_getD, h1]
  exact h2.ge hi
theorem DayR.at_ {O : List Int} {v : Value} {W : World} (h : DayR O v W) {k : Nat} {val : Int} (hk : O[k]? = some val) : ∃ g c, v = .slice (some ⟨g, 0, none⟩) O.length c ∧ W.cell? ⟨g, k, none⟩ = some (.int .i64 val) := by
  obtain ⟨b0, ho⟩ := h
  have hl := (List.getElem?_eq_some_iff.1 hk).1
  rcases ho.2 with ⟨h9, h8⟩ | ⟨g, cap, cur, rfl, _⟩
  · omega
  · refine ⟨g, cap, rfl, ?_⟩
    have h9 := ho.cells (g := g) rfl k (.int .i64 val) (by rw [List.getElem?_map, hk]; rfl)
    rwa [addE, Nat.zero_add] at h9
theorem DayR.bel {d : List Int} {v : Value} {W W' : World} (h : DayR d v W) (hB : Free.Bel W W') : DayR d v W' := h.stay fun k c f hk => (hB.block k (lt_of_heap hk)).trans hk
/-- Rows of numbers, and of ricks, stay. -/
def TK (W W' : World) : Prop := ∀ (k : Nat) c e f, W.heap[k]? = some (.cells c e f) → e = 3 ∨ e = 47 → W'.heap[k]? = some (.cells c e f)
theorem TK.trans {a b c : World} (h : TK a b) (k : TK b c) : TK a c := fun i q e f hi he => k i q e f (h i q e f hi he) he
theorem TK.of_bel {a b : World} (h : Free.Bel a b) : TK a b := fun i q e f hi _ => (h.block i (lt_of_heap hi)).trans hi
theorem TK.set {W : World} {b o : Nat} {v : Value} {c : Array Value} {f : Nat × Nat} (hb : W.heap[b]? = some (.cells c 24 f)) : TK W (W.setCell ⟨b, o, none⟩ v) := fun i q e f' hi he => heap_other hi fun e9 => by
  simp only at e9
  subst e9
  rw [hb] at hi
  simp only [Option.some.injEq, Obj.cells.injEq] at hi
  obtain ⟨_, rfl, _⟩ := hi
  rcases he with he | he <;> exact absurd he (by decide)
theorem TK.grown {W W' : World} {base n : Nat} {v : Value} {vs : List Value} (ho : W.ownsRow base 58 1 v n vs) (hg : W.grownBy W' v.ownBlock) : TK W W' := fun i q e f hi he => heap_grown hi hg fun e9 => by
  rcases ho.2 with ⟨rfl, _⟩ | ⟨g, cap, cur, rfl, _, hg2, _⟩
  · simp [Value.ownBlock] at e9
  · simp [Value.ownBlock] at e9
    subst e9
    rw [hg2] at hi
    simp only [Option.some.injEq, Obj.cells.injEq] at hi
    obtain ⟨_, rfl, _⟩ := hi
    rcases he with he | he <;> exact absurd he (by decide)
theorem TK.day {d : List Int} {v : Value} {W W' : World} (k : TK W W') (h : DayR d v W) : DayR d v W' := h.stay fun i c f hi => k i c _ f hi (.inl rfl)
theorem TK.ricks {b0 n : Nat} {v : Value} {l : List Value} {W W' : World} (k : TK W W') (h : W.ownsRow b0 47 3 v n l) : W'.ownsRow b0 47 3 v n l := own_typed h fun i c f hi => k i c _ f hi (.inr rfl)
/-- The watch's box, which is stored anew, with what lies there. -/
structure DWI (w : World) (h : Int) (xs : List Rk) (uv : Value) (O : List Int) (vO : Value) (zs : List Rk) (v : Value) (W : World) : Prop where
  bel : Below w.heap.size w W
  bx : W.heap[w.heap.size]? = some (.cells #[.int .i64 h, v] 24 (0, 0))
  rk : (zs = xs ∧ v = uv) ∨ ∃ b0, W.ownsRow b0 47 3 v zs.length (cellsR zs)
  ro : DayR O vO W
section
variable {w W W' : World} {h : Int} {xs zs zs' : List Rk} {uv vO v v' : Value} {O : List Int}
theorem DWI.go (H : DWI w h xs uv O vO zs v W) (hT : TK W W') (hB : Below (w.heap.size + 1) W W') : DWI w h xs uv O vO zs v W' :=
  ⟨H.bel.trans (hB.mono (by omega)), (hB.block _ (by omega)).trans H.bx, H.rk.imp id fun ⟨b0, h9⟩ => ⟨b0, hT.ricks h9⟩, hT.day H.ro⟩
theorem DWI.on (H : DWI w h xs uv O vO zs v W) (hB : Free.Bel W W') : DWI w h xs uv O vO zs v W' := H.go (TK.of_bel hB) (hB.mono (lt_of_heap H.bx))
theorem DWI.set (H : DWI w h xs uv O vO zs v W) {b0 : Nat} (ho : W.ownsRow b0 47 3 v' zs'.length (cellsR zs')) : DWI w h xs uv O vO zs' v' ((W.setCell ⟨w.heap.size, 0, none⟩ (.int .i64 h)).setCell ⟨w.heap.size, 1, none⟩ v') := by
  have hb1 := heap_setCell_same (o := 0) (.int .i64 h) H.bx
  have hT : TK W ((W.setCell ⟨w.heap.size, 0, none⟩ (.int .i64 h)).setCell ⟨w.heap.size, 1, none⟩ v') := (TK.set H.bx).trans (TK.set hb1)
  exact ⟨(H.bel.setCell (by simp) _).setCell (by simp) _, by have := heap_setCell_same (o := 1) v' hb1; simpa using this, .inr ⟨b0, hT.ricks ho⟩, hT.day H.ro⟩
theorem DWI.rl (H : DWI w h xs uv O vO zs v W) (hu : ∀ W, Below w.heap.size w W → RL xs uv W) : RL zs v W := by
  rcases H.rk with ⟨rfl, rfl⟩ | ⟨b0, h9⟩
  · exact hu W H.bel
  · exact RL.of_row rfl (own_le7 h9) h9
theorem DWI.nz (H : DWI w h xs uv O vO zs v W) (hz : NZ uv) : NZ v := by
  rcases H.rk with ⟨rfl, rfl⟩ | ⟨b0, h9⟩
  · exact hz
  · exact NZ.row h9
end
end Go.Proofs.YtknpglgpkkhhiaaDoor

/- slices.Contains at numbers; slices.Clone at ricks. -/
namespace Go.Proofs.YtknpglgpkkhhiaaDoor
set_option linter.unusedSimpArgs false
set_option linter.unusedVariables false
open Go.RowKit Go.Proofs.YtknpglgpkkhhiaaDoor.Free2

set_option maxRecDepth 100000 in
set_option maxHeartbeats 2000000 in
theorem clone_any (xs : List (Int × Int × Int)) (u : Value) (w : World) (hu : RL xs u w) (hz : NZ u) (hn : xs.length ≤ 1000) :
    Calls Tryd.prog 71 #[u] w fun e w' => ∃ v, e = .returned v ∧ w'.ownsRow w.heap.size 47 3 v xs.length (cellsR xs) ∧ Below w.heap.size w w' := by
  obtain ⟨p, cp, rfl, hm, hp⟩ := hu
  have HNEW := Lib.hid (ricks_news (cp := cp) hp)
  have HNIL : Hid (p = none → xs.length = 0 ∧ cp = 0) := fun e => hz _ _ (by rw [e])
  clear hp hz
  obtain ⟨i0, hi0, hz0, hz1, hz2⟩ := info_parts T.infoRick
  have HZ := Lib.hid (And.intro hi0 (And.intro hz0 (And.intro hz1 hz2)))
  clear hi0 hz0 hz1 hz2
  have q22 : ∀ (w : World) (a : Option Addr) (n c n' c' : Nat), (binOp .eql 22 (.slice a n c) (.slice none n' c')).run Tryd.prog w = .ok (.bool a.isNone) w := fun w a n c n' c' => Lib.run_eql_slice_nil w _ _ a n c n' c' Tryd.underlying22
  have KA : Free.Bel w (w.alloc (.cells #[] 47)) := belAlloc _ _
  cases hpc : p with
  | none =>
    obtain ⟨h1, rfl⟩ := HNIL.out hpc
    obtain rfl : xs = [] := List.eq_nil_of_length_eq_zero h1
    subst hpc
    clear h1
    go_enter Tryd.func71, Tryd.ntmps71
    go_wp2_with fail
    go_ret
    exact ⟨_, rfl, by simpa [cellsR] using World.ownsRow_nil _ _ _ _, Below.refl _ _⟩
  | some ad =>
    subst hpc
    go_enter Tryd.func71, Tryd.ntmps71
    go_wp2_with (first | (at_builtin; go_loud (refine wpList_append_full rfl _ _ 22 rfl w.heap.size 47 i0 (.agg #[.int .i64 0, .int .i64 0, .int .i64 0]) 3 24 Tryd.underlying22 HZ.out.1 HZ.out.2.1 HZ.out.2.2.1 HZ.out.2.2.2 rfl (by decide) w.heap.size 0 #[] rfl (World.alloc_heap_new _ _) rfl (Nat.le_refl _) (some ad) xs.length cp (cellsR xs) rfl (cellsR_length xs) (HNEW.out _ KA) HNIL.out (by unfold maxLen; omega) (by omega) ?_); intro v9 w9 ho9 hb9) | fail)
    go_ret
    exact ⟨_, rfl, by simpa using ho9, bt KA hb9⟩
end Go.Proofs.YtknpglgpkkhhiaaDoor

/- The fewest hands, the moistest cake. -/
namespace Go.Proofs.YtknpglgpkkhhiaaDoor
set_option linter.unusedSimpArgs false
set_option linter.unusedVariables false
open Go.RowKit Go.Proofs.YtknpglgpkkhhiaaDoor.Free2 Go.Proofs.YtknpglgpkkhhiaaDoor.ML RR

theorem watch_hands {h k : Int} {xs : List Rk} (hw : watchB h xs = true) (h0 : 0 ≤ k) (h3 : k ≤ 3) : watchB k xs = true := by
  rw [watchB_iff] at hw ⊢
  exact ⟨⟨h0, h3⟩, hw.2⟩
def FewPost (h : Int) (xs : List Rk) (e : Ending) : Prop := (watchB h xs = false ∧ e = .returned (.tuple #[.int .i64 0, .int .i64 70])) ∨ (watchB h xs = true ∧ ∃ n c, FewIs xs n c ∧ e = .returned (.tuple #[.int .i64 n, .int .i64 c]))
set_option maxRecDepth 100000 in
set_option maxHeartbeats 8000000 in
theorem fewestP_any (h : Int) (xs : List Rk) (u : Value) (w : World) (hT : TabR w) (hu : RL xs u w) :
    Calls Tryd.prog 49 #[.agg #[.int .i64 h, u]] w fun e w' => FewPost h xs e ∧ Below w.heap.size w w' := by
  have HU := Lib.hid hu
  obtain ⟨p, cp, rfl, _, _⟩ := hu
  have KB : Free.Bel w (w.alloc (.cells #[.int .i64 h, .slice p xs.length cp] 24)) := belAlloc _ _
  have m0 : (w.alloc (.cells #[.int .i64 h, .slice p xs.length cp] 24)).heap[w.heap.size]? = some (.cells #[.int .i64 h, .slice p xs.length cp] 24 (0, 0)) := World.alloc_heap_new w _
  have FA : ∀ W, Free.Bel (w.alloc (.cells #[.int .i64 h, .slice p xs.length cp] 24)) W → W.cell? ⟨w.heap.size, 0, none⟩ = some (.int .i64 h) ∧ W.cell? ⟨w.heap.size, 1, none⟩ = some (.slice p xs.length cp) := fun W hW => ⟨keepsB hW (cell_of_heap m0 rfl), keepsB hW (cell_of_heap m0 rfl)⟩
  have KE : Free.Bel (w.alloc (.cells #[.int .i64 h, .slice p xs.length cp] 24)) (w.alloc (.cells #[.int .i64 h, .slice p xs.length cp] 24)) := Free.Bel.refl _
  have HCK := Lib.hid (fun c hc => checkP_v h xs _ (w.alloc (.cells #[.int .i64 h, .slice p xs.length cp] 24)) (hT.bel KB) (HU.out.keeps KB) c hc)
  have HKB := Lib.hid (And.intro KB m0)
  cases hw : watchB h xs with
  | false =>
    have HC := Lib.hid (HCK.out 70 (by show _ = _; simp [hw]))
    have HW := Lib.hid hw
    clear hT m0 hw HCK
    go_enter Tryd.func49, Tryd.ntmps49
    go_wp2_with fail
    refine HC.out.mono ?_
    rintro e w1 ⟨rfl, hB1⟩
    have HB := Lib.hid (bt HKB.out.1 hB1)
    clear hB1
    go_wp2_with fail
    go_ret2
    exact ⟨.inl ⟨HW.out, rfl⟩, HB.out⟩
  | true =>
    have HC := Lib.hid (HCK.out 0 (by show _ = _; simp [hw]))
    have HW := Lib.hid hw
    clear hT m0 hw HCK
    go_enter Tryd.func49, Tryd.ntmps49
    go_wp2_with fail
    refine HC.out.mono ?_
    rintro e w1 ⟨rfl, hB1⟩
    have HB1 := Lib.hid (show Free.Bel (w.alloc (.cells #[.int .i64 h, .slice p xs.length cp] 24)) w1 from hB1)
    clear hB1 FA KE KB
    go_wp2_with fail
    go_loopw [11] (fun i wr => ∃ (k : Nat) (hh : Int), k ≤ 4 ∧ i = .int .i64 k ∧ Below w.heap.size w wr ∧ wr.heap[w.heap.size]? = some (.cells #[.int .i64 hh, .slice p xs.length cp] 24 (0, 0)) ∧ Hid (∀ j : Nat, j < k → everB (j : Int) xs = false)) (fun i _ => 4 - (intOf i).toNat)
    case atStart => exact ⟨0, h, by omega, rfl, bt HKB.out.1 HB1.out, (HB1.out.block _ (lt_of_heap HKB.out.2)).trans HKB.out.2, fun j hj => absurd hj (Nat.not_lt_zero _)⟩
    case round =>
      obtain ⟨k, hh, hk, rfl, hB, hm, HNO⟩ := hrel
      by_cases hlt : k < 4
      · have hki : (k : Int) < 4 := by omega
        have hkw : IntKind.i64.wrap ((k : Int) + 1) = (k : Int) + 1 := IntWalk.i64_in _ (by omega)
        have HBW := Lib.hid (And.intro hB hm)
        have f0 := frozen_of_heap (o := 0) hm
        have y0 := cell_of_heap (o := 0) hm rfl
        have y1 := cell_of_heap (o := 1) hm rfl
        have KS : Below w.heap.size w (wr.setCell ⟨w.heap.size, 0, none⟩ (.int .i64 k)) := hB.setCell (by simp) _
        have mS : (wr.setCell ⟨w.heap.size, 0, none⟩ (.int .i64 (k : Int))).heap[w.heap.size]? = some (.cells #[.int .i64 k, .slice p xs.length cp] 24 (0, 0)) := by
          have := heap_setCell_same (o := 0) (.int .i64 (k : Int)) hm
          simpa using this
        obtain ⟨r, hr⟩ : ∃ r, everB (k : Int) xs = r := ⟨_, rfl⟩
        have HCAN := Lib.hid (can_any (k : Int) xs _ (wr.setCell ⟨w.heap.size, 0, none⟩ (.int .i64 (k : Int))) (HU.out.keeps KS) (watch_hands HW.out (by omega) (by omega)) r (Lib.hid hr))
        have HS := Lib.hid (And.intro KS mS)
        have HR := Lib.hid hr
        have c0 := cell_of_heap (o := 0) mS rfl
        have c1 := cell_of_heap (o := 1) mS rfl
        clear hB hm KS mS hr
        go_wp2_with fail
        refine HCAN.out.mono ?_
        rintro e w5 ⟨rfl, hB5⟩
        have hB5 : Free.Bel (wr.setCell ⟨w.heap.size, 0, none⟩ (.int .i64 (k : Int))) w5 := hB5
        have HB5 := Lib.hid (And.intro (HS.out.1.trans (Below.mono hB5 HS.out.1.size)) ((hB5.block _ (lt_of_heap HS.out.2)).trans HS.out.2))
        clear hB5 y0 y1 f0 c0 c1
        cases r with
        | true =>
          go_wp2_with fail
          go_ret2
          exact ⟨.inr ⟨HW.out, k, 0, .inr ⟨rfl, by omega, by omega, HR.out, fun j h0 hj => by
            have := HNO.out j.toNat (by omega)
            rwa [Int.toNat_of_nonneg h0] at this⟩, rfl⟩, HB5.out.1⟩
        | false =>
          go_wp2_with fail
          go_roundw
          case rel => exact ⟨k + 1, k, by omega, by go_num, HB5.out.1, HB5.out.2, fun j hj => by
            by_cases h9 : j < k
            · exact HNO.out j h9
            · obtain rfl : j = k := by omega
              exact HR.out⟩
          case measure => simp [intOf]; omega
      · obtain rfl : k = 4 := by omega
        have HB := Lib.hid hB
        clear hB hm
        go_wp2_with fail
        go_ret2
        exact ⟨.inr ⟨HW.out, 0, 8, .inl ⟨rfl, rfl, fun j h0 h3 => by
          have := HNO.out j.toNat (by omega)
          rwa [Int.toNat_of_nonneg h0] at this⟩, rfl⟩, HB.out⟩
end Go.Proofs.YtknpglgpkkhhiaaDoor

/- The moistest cake. -/
namespace Go.Proofs.YtknpglgpkkhhiaaDoor
set_option linter.unusedSimpArgs false
set_option linter.unusedVariables false
open Go.RowKit Go.Proofs.YtknpglgpkkhhiaaDoor.Free2 Go.Proofs.YtknpglgpkkhhiaaDoor.ML RR

theorem cellsR_setE (ys : List Rk) (k : Nat) (hk : k < ys.length) (v : Int) : (cellsR ys).set (k * 3 + 1) (.int .i64 v) = cellsR (ys.set k (ys[k].1, v, ys[k].2.2)) := by
  induction ys generalizing k with
  | nil => simp at hk
  | cons y r ih =>
    have e : ∀ (y : Rk) (l : List Rk), cellsR (y :: l) = .int .i64 y.1 :: .int .i64 y.2.1 :: .int .i64 y.2.2 :: cellsR l := fun y l => by simp [cellsR]
    cases k with
    | zero => simp [e]
    | succ k =>
      have := ih k (by simpa using hk)
      rw [e, show (k + 1) * 3 + 1 = (k * 3 + 1) + 1 + 1 + 1 by omega]
      simp only [List.set_cons_succ, List.getElem_cons_succ, e, this]
theorem rick_storeE {base g n cap : Nat} {ys : List Rk} {w : World} (h : w.ownsRow base 47 3 (.slice (some ⟨g, 0, none⟩) n cap) n (cellsR ys)) (k : Nat) (hk : k < ys.length) (v : Int) :
    (w.setCell ⟨g, k * 3 + 1, none⟩ (.int .i64 v)).ownsRow base 47 3 (.slice (some ⟨g, 0, none⟩) n cap) n (cellsR (ys.set k (ys[k].1, v, ys[k].2.2))) := by
  have := (h.stored (k * 3 + 1) (.int .i64 v)).1
  rw [cellsR_setE ys k hk] at this
  exact this
theorem moistR_length (xs : List Rk) (i : Nat) (n : Int) : (moistR xs i n).length = xs.length := by simp [moistR]
theorem moistR_get (xs : List Rk) (i : Nat) (hi : i < xs.length) (n : Int) (h : i < (moistR xs i n).length) : (moistR xs i n)[i] = (xs[i].1, n, xs[i].2.2) := by simp [moistR, hi]
theorem moistR_set (xs : List Rk) (i : Nat) (hi : i < xs.length) (n m : Int) : (moistR xs i n).set i (xs[i].1, m, xs[i].2.2) = moistR xs i m := by simp [moistR, hi]
theorem moistR_self (xs : List Rk) (i : Nat) (hi : i < xs.length) : moistR xs i xs[i].2.1 = xs := by
  unfold moistR
  simp only [List.getD_eq_getElem?_getD, List.getElem?_eq_getElem hi, Option.getD_some]
  exact List.set_getElem_self hi
theorem watch_moist {h : Int} {xs : List Rk} (hw : watchB h xs = true) (i : Nat) (hi : i < xs.length) {n : Int} (h1 : xs[i].2.2 + 1 ≤ n) (h6 : n ≤ 6) : watchB h (moistR xs i n) = true := by
  obtain ⟨a1, a2, a3⟩ := watchB_iff.1 hw
  refine watchB_iff.2 ⟨a1, by rw [moistR_length]; exact a2, ?_⟩
  have key : ∀ (xs : List Rk) (i : Nat) (l : Int), risesB l xs = true → (hi : i < xs.length) → xs[i].2.2 + 1 ≤ n → risesB l (moistR xs i n) = true := by
    intro xs
    induction xs with
    | nil => intro i l _ hi; simp at hi
    | cons x r ih =>
      intro i l hr hi hn
      simp only [risesB, inB, List.all_cons, List.all_nil, Bool.and_true, Bool.and_eq_true, decide_eq_true_eq] at hr
      cases i with
      | zero =>
        simp only [List.getElem_cons_zero] at hn
        simp only [moistR, List.getD_cons_zero, List.set_cons_zero, risesB, inB, List.all_cons, List.all_nil, Bool.and_true, Bool.and_eq_true, decide_eq_true_eq]
        exact ⟨hr.1, ⟨by omega, h6⟩, ⟨hr.2.2.1.1, by omega⟩, hr.2.2.2⟩
      | succ i =>
        have := ih i x.1 hr.2.2.2 (by simpa using hi) (by simpa using hn)
        simp only [moistR, List.getD_cons_succ, List.set_cons_succ, risesB, inB, List.all_cons, List.all_nil, Bool.and_true, Bool.and_eq_true, decide_eq_true_eq] at this ⊢
        exact ⟨hr.1, hr.2.1, hr.2.2.1, this⟩
  exact key xs i 0 a3 hi h1
def MoPost (h : Int) (xs : List Rk) (r : Int) (e : Ending) : Prop := (watchB h xs = false ∧ e = .returned (.tuple #[.int .i64 0, .int .i64 70])) ∨ (watchB h xs = true ∧ r < 0 ∧ e = .returned (.tuple #[.int .i64 0, .int .i64 6])) ∨ (watchB h xs = true ∧ 0 ≤ r ∧ ∃ n c, MoistIs h xs r.toNat n c ∧ e = .returned (.tuple #[.int .i64 n, .int .i64 c]))
set_option maxRecDepth 100000 in
set_option maxHeartbeats 8000000 in
theorem moistP_any (h id : Int) (xs : List Rk) (u : Value) (w : World) (hT : TabR w) (hu : RL xs u w) (hz : NZ u) (r : Int) (hr : Hid (RickIs xs id r)) :
    Calls Tryd.prog 51 #[.agg #[.int .i64 h, u], .int .i64 id] w fun e w' => MoPost h xs r e ∧ Below w.heap.size w w' := by
  have HU := Lib.hid hu
  obtain ⟨p, cp, rfl, _, _⟩ := hu
  have KB : Free.Bel w (w.alloc (.cells #[.int .i64 h, .slice p xs.length cp] 24)) := belAlloc _ _
  have m0 : ((w.alloc (.cells #[.int .i64 h, .slice p xs.length cp] 24))).heap[w.heap.size]? = some (.cells #[.int .i64 h, .slice p xs.length cp] 24 (0, 0)) := World.alloc_heap_new w _
  have FA : ∀ W, Free.Bel (w.alloc (.cells #[.int .i64 h, .slice p xs.length cp] 24)) W → W.cell? ⟨w.heap.size, 0, none⟩ = some (.int .i64 h) ∧ W.cell? ⟨w.heap.size, 1, none⟩ = some (.slice p xs.length cp) := fun W hW => ⟨keepsB hW (cell_of_heap m0 rfl), keepsB hW (cell_of_heap m0 rfl)⟩
  have KE : Free.Bel (w.alloc (.cells #[.int .i64 h, .slice p xs.length cp] 24)) (w.alloc (.cells #[.int .i64 h, .slice p xs.length cp] 24)) := Free.Bel.refl _
  have HCK := Lib.hid (fun c hc => checkP_v h xs _ (w.alloc (.cells #[.int .i64 h, .slice p xs.length cp] 24)) (hT.bel KB) (HU.out.keeps KB) c hc)
  have HKB := Lib.hid (And.intro KB m0)
  have HNZ := Lib.hid hz
  cases hw : watchB h xs with
  | false =>
    have HC := Lib.hid (HCK.out 70 (by show _ = _; simp [hw]))
    have HW := Lib.hid hw
    clear hT m0 hw HCK hz
    go_enter Tryd.func51, Tryd.ntmps51
    go_wp2_with fail
    refine HC.out.mono ?_
    rintro e w1 ⟨rfl, hB1⟩
    have HB := Lib.hid (bt HKB.out.1 hB1)
    clear hB1
    go_wp2_with fail
    go_ret2
    exact ⟨.inl ⟨HW.out, rfl⟩, HB.out⟩
  | true =>
    have HC := Lib.hid (HCK.out 0 (by show _ = _; simp [hw]))
    have HW := Lib.hid hw
    have hl4 := (watchB_iff.1 hw).2.1
    clear hT m0 hw HCK hz
    go_enter Tryd.func51, Tryd.ntmps51
    go_wp2_with fail
    refine HC.out.mono ?_
    rintro e w1 ⟨rfl, hB1⟩
    have K1 : Free.Bel (w.alloc (.cells #[.int .i64 h, .slice p xs.length cp] 24)) w1 := hB1
    clear hB1
    go_wp2_with fail
    refine (indexP_v h id xs _ w1 (HU.out.keeps (bt HKB.out.1 K1)) r hr).mono ?_
    rintro e w2 ⟨rfl, hB2⟩
    have K2 : Free.Bel (w.alloc (.cells #[.int .i64 h, .slice p xs.length cp] 24)) w2 := bt K1 hB2
    clear hB2
    by_cases hneg : r < 0
    · have HB := Lib.hid (bt HKB.out.1 K2)
      have HNG := Lib.hid hneg
      go_wp2_with fail
      go_ret2
      exact ⟨.inr (.inl ⟨HW.out, HNG.out, rfl⟩), HB.out⟩
    · obtain ⟨i, rfl⟩ : ∃ i : Nat, r = (i : Int) := ⟨r.toNat, by omega⟩
      have hil : i < xs.length := by
        rcases hr.out with ⟨h9, _⟩ | ⟨k, hk, h9, _⟩
        · omega
        · omega
      have hg0 : decide ((i : Int) < 0) = false := decide_eq_false (by omega)
      have hii : (i : Int) < (xs.length : Int) := by omega
      go_wp2_with fail
      refine (clone_any xs _ w2 (HU.out.keeps (bt HKB.out.1 K2)) HNZ.out (by omega)).mono ?_
      rintro e w3 ⟨vc, rfl, hrow, hB3⟩
      obtain ⟨g, cap, cur, rfl, hge, hgb, hgc, _, _, _⟩ := hrow.2.resolve_left (fun h9 => by omega)
      have K3 : Free.Bel (w.alloc (.cells #[.int .i64 h, .slice p xs.length cp] 24)) w3 := bt K2 hB3
      have n0 := (K3.block _ (lt_of_heap HKB.out.2)).trans HKB.out.2
      have hsw : w.heap.size < w2.heap.size := by have := K2.size; simp at this; omega
      obtain ⟨c1, c2, c3, _⟩ := rick_row hrow rfl i hil
      have f0 := frozen_of_heap (o := 1) n0
      have z0 := cell_of_heap (o := 1) n0 rfl
      have HB3 := Lib.hid (And.intro (bt HKB.out.1 K3) (And.intro n0 (And.intro hrow (And.intro hge hsw))))
      have hok := watchB_ok HW.out xs[i] (List.getElem_mem hil)
      unfold okR at hok
      obtain ⟨x, hx⟩ : ∃ y, xs[i] = y := ⟨_, rfl⟩
      rw [hx] at c1 c2 c3 hok
      have HX := Lib.hid hx
      have hwr : IntKind.i64.wrap (x.2.2 + 1) = x.2.2 + 1 := IntWalk.i64_in _ (by omega)
      have hgw : g ≠ w.heap.size := by omega
      have d3 : (w3.setCell ⟨w.heap.size, 1, none⟩ (.slice (some ⟨g, 0, none⟩) xs.length cap)).cell? ⟨g, i * 3 + 2, none⟩ = some (.int .i64 x.2.2) := by rw [World.cell?_setCell_other _ _ _ _ (by first | (simp; done) | (simp; omega))]; exact c3
      have HIL := Lib.hid (And.intro hil hgw)
      clear hrow hge hgb hB3 n0 hsw hx FA KE KB K1 K2 K3 c1 c2 c3
      go_wp2_with fail
      clear d3 f0 z0
      have hI0 : Below w.heap.size w (w3.setCell ⟨w.heap.size, 1, none⟩ (.slice (some ⟨g, 0, none⟩) xs.length cap)) ∧ (w3.setCell ⟨w.heap.size, 1, none⟩ (.slice (some ⟨g, 0, none⟩) xs.length cap)).heap[w.heap.size]? = some (.cells #[.int .i64 h, (.slice (some ⟨g, 0, none⟩) xs.length cap)] 24 (0, 0)) ∧ (w3.setCell ⟨w.heap.size, 1, none⟩ (.slice (some ⟨g, 0, none⟩) xs.length cap)).ownsRow w2.heap.size 47 3 (.slice (some ⟨g, 0, none⟩) xs.length cap) xs.length (cellsR (moistR xs i x.2.1)) := by
        obtain ⟨hB, n0, hrow, hge, hsw⟩ := HB3.out
        refine ⟨hB.setCell (by simp) _, ?_, ?_⟩
        · have := heap_setCell_same (o := 1) (.slice (some ⟨g, 0, none⟩) xs.length cap) n0
          simpa using this
        · rw [← HX.out, moistR_self xs i HIL.out.1]
          exact row_block hrow fun k hk _ => heap_setCell_other (by simp [Value.ownBlock] at hk; omega)
      have HI0 := Lib.hid hI0
      clear hI0
      go_loopw [8] (fun n wr => ∃ (m q : Int), x.2.2 + 1 ≤ m ∧ m ≤ 7 ∧ n = .int .i64 m ∧ Below w.heap.size w wr ∧ wr.heap[w.heap.size]? = some (.cells #[.int .i64 h, (.slice (some ⟨g, 0, none⟩) xs.length cap)] 24 (0, 0)) ∧ wr.ownsRow w2.heap.size 47 3 (.slice (some ⟨g, 0, none⟩) xs.length cap) xs.length (cellsR (moistR xs i q)) ∧ Hid (∀ j : Int, x.2.2 + 1 ≤ j → j < m → everB h (moistR xs i j) = false)) (fun n _ => (7 - intOf n).toNat)
      case atStart => exact ⟨x.2.2 + 1, x.2.1, by omega, by omega, rfl, HI0.out.1, HI0.out.2.1, HI0.out.2.2, fun j h1 h2 => by omega⟩
      case round =>
        obtain ⟨m, q, hm1, hm7, rfl, hB, hm, hrow, HNO⟩ := hrel
        by_cases hlt : m ≤ 6
        · have hmw : IntKind.i64.wrap (m + 1) = m + 1 := IntWalk.i64_in _ (by omega)
          have hil9 : i < (moistR xs i q).length := by rw [moistR_length]; exact HIL.out.1
          have hrow2 := rick_storeE hrow i hil9 m
          rw [moistR_get xs i HIL.out.1 q hil9, moistR_set xs i HIL.out.1 q m] at hrow2
          obtain ⟨c1, c2, c3, _⟩ := rick_row hrow (moistR_length xs i q) i hil9
          have f1 := hrow.frozenAt (i * 3 + 1)
          have y0 := cell_of_heap (o := 0) hm rfl
          have y1 := cell_of_heap (o := 1) hm rfl
          have KS : Below w.heap.size w (wr.setCell ⟨g, i * 3 + 1, none⟩ (.int .i64 m)) := hB.setCell (by simp; have := HB3.out.2.2.2.1; have := HB3.out.2.2.2.2; omega) _
          have mS : (wr.setCell ⟨g, i * 3 + 1, none⟩ (.int .i64 m)).heap[w.heap.size]? = some (.cells #[.int .i64 h, (.slice (some ⟨g, 0, none⟩) xs.length cap)] 24 (0, 0)) := heap_other hm (by simp; have := HIL.out.2; omega)
          obtain ⟨b, hb⟩ : ∃ b, everB h (moistR xs i m) = b := ⟨_, rfl⟩
          have HCAN := Lib.hid (can_any h (moistR xs i m) (.slice (some ⟨g, 0, none⟩) xs.length cap) (wr.setCell ⟨g, i * 3 + 1, none⟩ (.int .i64 m)) (RL.of_row (moistR_length xs i m) (by unfold maxLen; omega) hrow2) (watch_moist HW.out i HIL.out.1 (by rw [HX.out]; exact hm1) hlt) b (Lib.hid hb))
          have HS := Lib.hid (And.intro KS (And.intro mS hrow2))
          have HR := Lib.hid hb
          have c0 := cell_of_heap (o := 0) mS rfl
          have c9 := cell_of_heap (o := 1) mS rfl
          rw [moistR_get xs i HIL.out.1 q hil9] at c2
          clear hB hm hrow hrow2 KS mS hb c1 c3 hil9
          go_wp2_with fail
          refine HCAN.out.mono ?_
          rintro e w5 ⟨rfl, hB5⟩
          have hB5 : Free.Bel (wr.setCell ⟨g, i * 3 + 1, none⟩ (.int .i64 m)) w5 := hB5
          have HB5 := Lib.hid (And.intro (HS.out.1.trans (Below.mono hB5 HS.out.1.size)) (And.intro ((hB5.block _ (lt_of_heap HS.out.2.1)).trans HS.out.2.1) (bel_row HS.out.2.2 hB5)))
          clear hB5 y0 y1 f1 c0 c2 c9
          cases b with
          | true =>
            go_wp2_with fail
            go_ret2
            exact ⟨.inr (.inr ⟨HW.out, by omega, m, 0, .inr ⟨rfl, by simp [HIL.out.1, HX.out]; omega, hlt, by simpa using HR.out, fun j h1 h2 => by simpa using HNO.out j (by simpa [HIL.out.1, HX.out] using h1) h2⟩, rfl⟩), HB5.out.1⟩
          | false =>
            go_wp2_with fail
            go_roundw
            case rel => exact ⟨m + 1, m, by omega, by omega, rfl, HB5.out.1, HB5.out.2.1, HB5.out.2.2, fun j h1 h2 => by
              by_cases h9 : j < m
              · exact HNO.out j h1 h9
              · obtain rfl : j = m := by omega
                exact HR.out⟩
            case measure => simp [intOf]; omega
        · obtain rfl : m = 7 := by omega
          have HB := Lib.hid hB
          clear hB hm hrow
          go_wp2_with fail
          go_ret2
          exact ⟨.inr (.inr ⟨HW.out, by omega, 0, 8, .inl ⟨rfl, rfl, fun j h1 h2 => by simpa using HNO.out j (by simpa [HIL.out.1, HX.out] using h1) (by omega)⟩, rfl⟩), HB.out⟩
end Go.Proofs.YtknpglgpkkhhiaaDoor

/- The spare days. -/
namespace Go.Proofs.YtknpglgpkkhhiaaDoor
set_option linter.unusedSimpArgs false
set_option linter.unusedVariables false
open Go.RowKit Go.Proofs.YtknpglgpkkhhiaaDoor.Free2 Go.Proofs.YtknpglgpkkhhiaaDoor.ML RR

def idle (xs : List Rk) (k : Nat) : List Rk := endR xs (List.replicate k [])
theorem idle_succ (xs : List Rk) (k : Nat) : idle xs (k + 1) = dayR [] (idle xs k) := by
  unfold idle
  rw [List.replicate_succ', endR_append]
  rfl
theorem idle_st {h : Int} {xs : List Rk} (hw : watchB h xs = true) : ∀ k, (∀ j, 0 < j → j ≤ k → idleOk h xs j) → StOf xs (idle xs k)
  | 0, _ => st_self hw
  | k + 1, hh => by
    have ih := idle_st hw k fun j h0 hj => hh j h0 (by omega)
    have hc := (hh (k + 1) (by omega) (Nat.le_refl _)).1
    have e : endR xs (List.replicate (k + 1) []) = dayR [] (idle xs k) := idle_succ xs k
    rw [e] at hc
    rw [idle_succ]
    exact ih.day [] hc
theorem idle_small {h : Int} {xs : List Rk} (hw : watchB h xs = true) (hne : xs ≠ []) (k : Nat) (hh : ∀ j, 0 < j → j ≤ k → idleOk h xs j) : k < 6 := by
  have hst := idle_st hw k hh
  match xs, hne with
  | x :: r, _ =>
    have e : idle (x :: r) k = (x :: r).map fun x => (x.1, x.2.1, x.2.2 + (k : Int)) := endR_idle _ k
    rw [e] at hst
    have h1 := hst.2 (x.1, x.2.1, x.2.2 + (k : Int)) (by simp)
    have h2 := watchB_ok hw x (by simp)
    unfold okR at h2
    simp only at h1
    omega
def SpPost (h : Int) (xs : List Rk) (c : Int) (e : Ending) : Prop := (c ≠ 0 ∧ e = .returned (.tuple #[.int .i64 0, .int .i64 c])) ∨ (c = 0 ∧ xs = [] ∧ e = .returned (.tuple #[.int .i64 0, .int .i64 6])) ∨ (c = 0 ∧ xs ≠ [] ∧ ∃ n : Nat, SpareIs h xs n ∧ e = .returned (.tuple #[.int .i64 n, .int .i64 0]))
set_option maxRecDepth 100000 in
set_option maxHeartbeats 8000000 in
theorem spareP_v (h : Int) (xs : List Rk) (u : Value) (w : World) (hT : TabR w) (hu : RL xs u w) (c : Int) (hc : Hid (goE h xs = c)) :
    Calls Tryd.prog 53 #[.agg #[.int .i64 h, u]] w fun e w' => SpPost h xs c e ∧ Below w.heap.size w w' := by
  have HU := Lib.hid hu
  obtain ⟨p, cp, rfl, _, _⟩ := hu
  have KB : Free.Bel w (w.alloc (.cells #[.int .i64 h, .slice p xs.length cp] 24)) := belAlloc _ _
  have m0 : ((w.alloc (.cells #[.int .i64 h, .slice p xs.length cp] 24))).heap[w.heap.size]? = some (.cells #[.int .i64 h, .slice p xs.length cp] 24 (0, 0)) := World.alloc_heap_new w _
  have FA : ∀ W, Free.Bel (w.alloc (.cells #[.int .i64 h, .slice p xs.length cp] 24)) W → W.cell? ⟨w.heap.size, 0, none⟩ = some (.int .i64 h) ∧ W.cell? ⟨w.heap.size, 1, none⟩ = some (.slice p xs.length cp) := fun W hW => ⟨keepsB hW (cell_of_heap m0 rfl), keepsB hW (cell_of_heap m0 rfl)⟩
  have KE : Free.Bel (w.alloc (.cells #[.int .i64 h, .slice p xs.length cp] 24)) (w.alloc (.cells #[.int .i64 h, .slice p xs.length cp] 24)) := Free.Bel.refl _
  have HKB := Lib.hid (And.intro KB m0)
  have HGO := Lib.hid (going_v h xs _ (w.alloc (.cells #[.int .i64 h, .slice p xs.length cp] 24)) (hT.bel KB) (HU.out.keeps KB) c hc)
  by_cases hc0 : c = 0
  · subst hc0
    have hwe : watchB h xs = true ∧ everB h xs = true := by
      have := hc.out
      unfold goE at this
      cases hw : watchB h xs with
      | false => rw [hw] at this; simp at this
      | true =>
        cases he : everB h xs with
        | false => rw [hw, he] at this; simp at this
        | true => exact ⟨rfl, rfl⟩
    have HWE := Lib.hid hwe
    have hl4 := (watchB_iff.1 hwe.1).2.1
    clear hT m0 hc hwe
    go_enter Tryd.func53, Tryd.ntmps53
    go_wp2_with fail
    refine HGO.out.mono ?_
    rintro e w1 ⟨hG, hB1⟩
    obtain ⟨yb, gb, v0, dv, L, rfl, hye, hy1, hy2⟩ : ∃ yb gb u dv L, e = .returned (.tuple #[.pointer (some ⟨yb, 0, none⟩), .int .i64 0]) ∧ YE yb gb h xs u dv L w1 ∧ ((w.alloc (.cells #[.int .i64 h, .slice p xs.length cp] 24))).heap.size ≤ yb ∧ ((w.alloc (.cells #[.int .i64 h, .slice p xs.length cp] 24))).heap.size ≤ gb := by
      rcases hG with ⟨h9, _⟩ | ⟨_, h9⟩
      · exact absurd rfl h9
      · exact h9
    have K1 : Free.Bel (w.alloc (.cells #[.int .i64 h, .slice p xs.length cp] 24)) w1 := hB1
    have HYE := Lib.hid hye
    have HB1 := Lib.hid (bt HKB.out.1 K1)
    clear hG hB1 hye hy1 hy2
    by_cases hne : xs = []
    · have hl0 : ((xs.length : Int) == 0) = true := by rw [hne]; rfl
      have HNE := Lib.hid hne
      clear hne
      go_wp2_with fail
      go_ret2
      exact ⟨.inr (.inl ⟨rfl, HNE.out, rfl⟩), HB1.out⟩
    · have hl0 : ((xs.length : Int) == 0) = false := by
        have : xs.length ≠ 0 := fun e => hne (List.eq_nil_of_length_eq_zero e)
        simp only [beq_eq_false_iff_ne, ne_eq]; omega
      have HNE := Lib.hid hne
      have HST := Lib.hid (st_self HWE.out.1)
      clear hne
      go_wp2_with fail
      refine (now_any yb xs v0 w1 HYE.out.yw.c1 HYE.out.yw.rl hl4).mono ?_
      rintro e w2 ⟨rfl, hB2⟩
      have K2 : Free.Bel w1 w2 := hB2
      have KS : Free.Bel w2 (w2.alloc (.cells (arrV (waits xs)) 109)) := belAlloc _ _
      have mS : (w2.alloc (.cells (arrV (waits xs)) 109)).heap[w2.heap.size]? = some (.cells (arrV (waits xs)) 109 (0, 0)) := World.alloc_heap_new w2 _
      have HI := Lib.hid (And.intro (bt K2 KS) (And.intro mS K2.size))
      clear hB2 K2 KS mS FA KE KB K1 hl0
      go_wp2_with fail
      go_loopw [6, 7] (fun n s wr => ∃ (k g : Nat), n = .int .i64 k ∧ s = .pointer (some ⟨g, 0, none⟩) ∧ Free.Bel w1 wr ∧ wr.heap[g]? = some (.cells (arrV (waits (idle xs k))) 109 (0, 0)) ∧ w1.heap.size ≤ g ∧ Hid (∀ j, 0 < j → j ≤ k → idleOk h xs j)) (fun n _ _ => 7 - (intOf n).toNat)
      case atStart => exact ⟨0, w2.heap.size, rfl, rfl, HI.out.1, HI.out.2.1, HI.out.2.2, fun j h0 hj => by omega⟩
      case round =>
        obtain ⟨k, g, rfl, rfl, hK, hg, hgn, HOK⟩ := hrel
        have hst := idle_st HWE.out.1 k HOK.out
        have hk6 := idle_small HWE.out.1 HNE.out k HOK.out
        have hkw : IntKind.i64.wrap ((k : Int) + 1) = (k : Int) + 1 := IntWalk.i64_in _ (by omega)
        have hS6 : ∀ x ∈ xs, x.2.1 ≤ 6 := fun x hx => (watchB_ok HWE.out.1 x hx).2.2.2.1
        have hSb := waits_st hst hS6
        have hnx : nextS (waits (idle xs k)) (fun _ => false) xs.length = waits (idle xs (k + 1)) := by
          rw [idle_succ, ← waits_next, tset_nil, hst.1.length]
        have hY := HYE.out.bel hK
        have haf := after_any yb xs (waits (idle xs k)) (fun _ => false) v0 wr hY.yw.c1 hY.yw.rl hl4 hSb
        rw [hnx] at haf
        have hhot : (hotL (waits (idle xs (k + 1))) xs xs.length).isEmpty = coolB (idle xs (k + 1)) := hot_cool (by rw [idle_succ]; exact hst.1.day [])
        obtain ⟨al, hal⟩ : ∃ y, hotL (waits (idle xs (k + 1))) xs xs.length = y := ⟨_, rfl⟩
        have hall : al.length ≤ 4 := by rw [← hal]; exact Nat.le_trans (hotL_length _ _ _) hl4
        rw [hal] at haf hhot
        obtain ⟨S, hS⟩ : ∃ y, waits (idle xs k) = y := ⟨_, rfl⟩
        obtain ⟨RS, hRS⟩ : ∃ y, waits (idle xs (k + 1)) = y := ⟨_, rfl⟩
        rw [hS, hRS] at haf
        rw [hS] at hg
        obtain ⟨z0, z1, z2, z3, _⟩ := cells4 hg
        have HAF := Lib.hid haf
        have HSS := Lib.hid (And.intro hS (And.intro hRS (And.intro hhot hst)))
        have HKG := Lib.hid (And.intro hK (And.intro hg hgn))
        clear hst hS6 hSb hnx hY haf hhot hal hS hRS hK hg hgn
        go_wp2_with fail
        refine HAF.out.mono ?_
        rintro e w4 ⟨⟨v, rfl, hrow⟩, hB4⟩
        obtain ⟨pv, cv, rfl⟩ := row_slice hrow
        have K4 : Free.Bel wr w4 := hB4
        have mN : (w4.alloc (.cells (arrV RS) 109)).heap[w4.heap.size]? = some (.cells (arrV RS) 109 (0, 0)) := World.alloc_heap_new w4 _
        have KN : Free.Bel w4 (w4.alloc (.cells (arrV RS) 109)) := belAlloc _ _
        have HK5 := Lib.hid (And.intro (bt HKG.out.1 (bt K4 KN)) (And.intro mN ((bt K4 KN).block _ (lt_of_heap HKG.out.2.1) |>.trans HKG.out.2.1)))
        clear hrow hB4 K4 mN KN z0 z1 z2 z3
        go_wp2_with fail
        generalize hw5 : (w4.alloc (.cells (arrV RS) 109)) = w5 at *
        clear hw5
        have hYb := Lib.hid (fun (W : World) (hW : Free.Bel w5 W) => HYE.out.bel (bt HK5.out.1 hW))
        cases al with
        | cons a0 ar =>
          have g0 : decide ((0 : Int) < (ar.length : Int) + 1) = true := decide_eq_true (by omega)
          have hF : ∀ W, Free.Bel w5.drew W → True := fun _ _ => trivial
          refine Free.wp_free (R := Free.Bel) (by kernel_rfl) (by kernel_rfl) Free.Bel.refl Free.Bel.trans ?_
          refine Free.Chain.ex ?_ [] [9] (by kernel_rfl) (by kernel_rfl) rfl Free.Bel.refl ?_ ?_
          rotate_left
          · (intro ev W hb hR hO hD; have hS := hF W hR; obtain ⟨hb1, hb2, hb3⟩ := hb; simp only [Free.AllDeps, Free.AllOuts, Free.At, al1, al2, al3, al4, al5, and_true] at hO hD; go_simp; rfl)
          simp only [an1, an2]
          refine Free.Chain.ex ?_ [(0, 35)] [] (by kernel_rfl) (by kernel_rfl) rfl Free.Bel.refl ?_ ?_
          rotate_left
          · (intro ev W hb hR hO hD; have hS := hF W hR; obtain ⟨hb1, hb2, hb3⟩ := hb; simp only [Free.AllDeps, Free.AllOuts, Free.At, al1, al2, al3, al4, al5, and_true] at hO hD; go_simp; rfl)
          simp only [an1, an2]
          refine Free.Chain.ex ?_ [(1, 36)] [] (by kernel_rfl) (by kernel_rfl) rfl Free.Bel.refl ?_ ?_
          rotate_left
          · (intro ev W hb hR hO hD; have hS := hF W hR; obtain ⟨hb1, hb2, hb3⟩ := hb; simp only [Free.AllDeps, Free.AllOuts, Free.At, al1, al2, al3, al4, al5, and_true] at hO hD; go_simp; rfl)
          simp only [an1, an2]
          refine Free.Chain.ex ?_ [(2, 37)] [] (by kernel_rfl) (by kernel_rfl) rfl Free.Bel.refl ?_ ?_
          rotate_left
          · (intro ev W hb hR hO hD; have hS := hF W hR; obtain ⟨hb1, hb2, hb3⟩ := hb; simp only [Free.AllDeps, Free.AllOuts, Free.At, al1, al2, al3, al4, al5, and_true] at hO hD; go_simp; rfl)
          simp only [an1, an2]
          refine Free.Chain.no [(3, 38)] [4] 3 false 38 (by kernel_rfl) (by kernel_rfl) rfl (by kernel_rfl) ?_ ?_
          · (intro ev W hR hD; simp only [Free.AllDeps, Free.At, List.getElem?_cons_succ, List.getElem?_cons_zero, and_true] at hD; simp [hD])
          simp only [an1, an2]
          refine Free.Chain.no [(4, 39), (3, 38)] [] 3 false 38 (by kernel_rfl) (by kernel_rfl) rfl (by kernel_rfl) ?_ ?_
          · (intro ev W hR hD; simp only [Free.AllDeps, Free.At, List.getElem?_cons_succ, List.getElem?_cons_zero, and_true] at hD; simp [hD])
          simp only [an1, an2]
          refine Free.Chain.no [(5, 40), (3, 38)] [] 3 false 38 (by kernel_rfl) (by kernel_rfl) rfl (by kernel_rfl) ?_ ?_
          · (intro ev W hR hD; simp only [Free.AllDeps, Free.At, List.getElem?_cons_succ, List.getElem?_cons_zero, and_true] at hD; simp [hD])
          simp only [an1, an2]
          refine Free.Chain.no [(6, 41), (3, 38)] [] 3 false 38 (by kernel_rfl) (by kernel_rfl) rfl (by kernel_rfl) ?_ ?_
          · (intro ev W hR hD; simp only [Free.AllDeps, Free.At, List.getElem?_cons_succ, List.getElem?_cons_zero, and_true] at hD; simp [hD])
          simp only [an1, an2]
          refine Free.Chain.no [(3, 38)] [8] 3 false 38 (by kernel_rfl) (by kernel_rfl) rfl (by kernel_rfl) ?_ ?_
          · (intro ev W hR hD; simp only [Free.AllDeps, Free.At, List.getElem?_cons_succ, List.getElem?_cons_zero, and_true] at hD; simp [hD])
          simp only [an1, an2]
          refine Free.Chain.no [(7, 42), (8, 43), (3, 38)] [] 3 false 38 (by kernel_rfl) (by kernel_rfl) rfl (by kernel_rfl) ?_ ?_
          · (intro ev W hR hD; simp only [Free.AllDeps, Free.At, List.getElem?_cons_succ, List.getElem?_cons_zero, and_true] at hD; simp [hD])
          simp only [an1, an2]
          refine Free.Chain.no [(9, 44), (3, 38)] [] 3 false 38 (by kernel_rfl) (by kernel_rfl) rfl (by kernel_rfl) ?_ ?_
          · (intro ev W hR hD; simp only [Free.AllDeps, Free.At, List.getElem?_cons_succ, List.getElem?_cons_zero, and_true] at hD; simp [hD])
          simp only [an1, an2]
          refine Free.Chain.ex ?_ [(3, 38), (10, 45)] [] (by kernel_rfl) (by kernel_rfl) rfl Free.Bel.refl ?_ ?_
          rotate_left
          · (intro ev W hb hR hO hD; have hS := hF W hR; obtain ⟨hb1, hb2, hb3⟩ := hb; simp only [Free.AllDeps, Free.AllOuts, Free.At, al1, al2, al3, al4, al5, and_true] at hO hD; go_simp; rfl)
          simp only [an1, an2]
          intro ys w6 hR hV
          simp only [Free.AllV, Free.At, List.length_cons, List.length_nil, Nat.reduceAdd, List.getElem?_cons_succ, List.getElem?_cons_zero, true_and, and_true] at hV
          simp only [Free.putsFrom, Act.put, Nat.zero_add, Nat.reduceAdd, hV, List.setIfInBounds_toArray, List.set_cons_succ, List.set_cons_zero]
          have K6 : Free.Bel w5 w6 := bt (Bel.drewT (Free.Bel.refl _)) hR
          have HB6 := Lib.hid (bt HB1.out (bt HK5.out.1 K6))
          clear hR hV hF K6
          go_wp2_with fail
          go_ret2
          refine ⟨.inr (.inr ⟨rfl, HNE.out, k, ⟨HOK.out, fun hok => ?_⟩, rfl⟩), HB6.out⟩
          have h9 : coolB (idle xs (k + 1)) = true := hok.1
          rw [← HSS.out.2.2.1] at h9
          simp at h9
        | nil =>
          have hcool : coolB (idle xs (k + 1)) = true := by rw [← HSS.out.2.2.1]; rfl
          have hst1 : StOf xs (idle xs (k + 1)) := by rw [idle_succ] at hcool ⊢; exact HSS.out.2.2.2.day [] hcool
          obtain ⟨r, hr⟩ : ∃ r, everB h (idle xs (k + 1)) = r := ⟨_, rfl⟩
          have hF : ∀ W, Free.Bel w5.drew W → (W.cell? ⟨yb, 2, none⟩ = some (.map (some gb)) ∧ W.cell? ⟨w4.heap.size, 0, none⟩ = some (.int .i64 (RS 0)) ∧ W.cell? ⟨w4.heap.size, 1, none⟩ = some (.int .i64 (RS 1)) ∧ W.cell? ⟨w4.heap.size, 2, none⟩ = some (.int .i64 (RS 2)) ∧ W.cell? ⟨w4.heap.size, 3, none⟩ = some (.int .i64 (RS 3)) ∧ (Instr.lookup 139 (.map (some gb)) (.agg #[.int .i64 (RS 0), .int .i64 (RS 1), .int .i64 (RS 2), .int .i64 (RS 3)]) false).run Tryd.prog W = .ok (.bool r) W) := fun W hW => by
            have K6 : Free.Bel w5 W := bt (Bel.drewT (Free.Bel.refl _)) hW
            have hY := hYb.out W K6
            have hl := hY.has hl4 hst1
            rw [HSS.out.2.1, hr] at hl
            exact ⟨hY.yw.c2, keepsB K6 (cell_of_heap HK5.out.2.1 rfl), keepsB K6 (cell_of_heap HK5.out.2.1 rfl), keepsB K6 (cell_of_heap HK5.out.2.1 rfl), keepsB K6 (cell_of_heap HK5.out.2.1 rfl), hl⟩
          have HCS := Lib.hid (And.intro hcool (And.intro hst1 hr))
          clear hcool hst1 hr
          refine Free.wp_free (R := Free.Bel) (by kernel_rfl) (by kernel_rfl) Free.Bel.refl Free.Bel.trans ?_
          refine Free.Chain.ex ?_ [] [9] (by kernel_rfl) (by kernel_rfl) rfl Free.Bel.refl ?_ ?_
          rotate_left
          · (intro ev W hb hR hO hD; have hS := hF W hR; obtain ⟨hb1, hb2, hb3⟩ := hb; simp only [Free.AllDeps, Free.AllOuts, Free.At, al1, al2, al3, al4, al5, and_true] at hO hD; go_simp; rfl)
          simp only [an1, an2]
          refine Free.Chain.ex ?_ [(0, 35)] [] (by kernel_rfl) (by kernel_rfl) rfl Free.Bel.refl ?_ ?_
          rotate_left
          · (intro ev W hb hR hO hD; have hS := hF W hR; obtain ⟨hb1, hb2, hb3⟩ := hb; simp only [Free.AllDeps, Free.AllOuts, Free.At, al1, al2, al3, al4, al5, and_true] at hO hD; go_simp; rfl)
          simp only [an1, an2]
          refine Free.Chain.ex ?_ [(1, 36)] [] (by kernel_rfl) (by kernel_rfl) rfl Free.Bel.refl ?_ ?_
          rotate_left
          · (intro ev W hb hR hO hD; have hS := hF W hR; obtain ⟨hb1, hb2, hb3⟩ := hb; simp only [Free.AllDeps, Free.AllOuts, Free.At, al1, al2, al3, al4, al5, and_true] at hO hD; go_simp; rfl)
          simp only [an1, an2]
          refine Free.Chain.ex ?_ [(2, 37)] [] (by kernel_rfl) (by kernel_rfl) rfl Free.Bel.refl ?_ ?_
          rotate_left
          · (intro ev W hb hR hO hD; have hS := hF W hR; obtain ⟨hb1, hb2, hb3⟩ := hb; simp only [Free.AllDeps, Free.AllOuts, Free.At, al1, al2, al3, al4, al5, and_true] at hO hD; go_simp; rfl)
          simp only [an1, an2]
          refine Free.Chain.exG ?_ [(3, 38)] [4] 3 false 38 (by kernel_rfl) (by kernel_rfl) rfl (by kernel_rfl) Free.Bel.refl ?_ ?_
          rotate_left
          · (intro ev W hb hR hO hD; have hS := hF W hR; obtain ⟨hb1, hb2, hb3⟩ := hb; simp only [Free.AllDeps, Free.AllOuts, Free.At, al1, al2, al3, al4, al5, and_true] at hO hD; refine ⟨by simp [hD], ?_⟩; go_simp; rfl)
          simp only [an1, an2]
          refine Free.Chain.exG ?_ [(4, 39), (3, 38)] [] 3 false 38 (by kernel_rfl) (by kernel_rfl) rfl (by kernel_rfl) Free.Bel.refl ?_ ?_
          rotate_left
          · (intro ev W hb hR hO hD; have hS := hF W hR; obtain ⟨hb1, hb2, hb3⟩ := hb; simp only [Free.AllDeps, Free.AllOuts, Free.At, al1, al2, al3, al4, al5, and_true] at hO hD; refine ⟨by simp [hD], ?_⟩; go_simp; rfl)
          simp only [an1, an2]
          refine Free.Chain.exG ?_ [(5, 40), (3, 38)] [] 3 false 38 (by kernel_rfl) (by kernel_rfl) rfl (by kernel_rfl) Free.Bel.refl ?_ ?_
          rotate_left
          · (intro ev W hb hR hO hD; have hS := hF W hR; obtain ⟨hb1, hb2, hb3⟩ := hb; simp only [Free.AllDeps, Free.AllOuts, Free.At, al1, al2, al3, al4, al5, and_true] at hO hD; refine ⟨by simp [hD], ?_⟩; go_simp; rfl)
          simp only [an1, an2]
          refine Free.Chain.exG ?_ [(6, 41), (3, 38)] [] 3 false 38 (by kernel_rfl) (by kernel_rfl) rfl (by kernel_rfl) Free.Bel.refl ?_ ?_
          rotate_left
          · (intro ev W hb hR hO hD; have hS := hF W hR; obtain ⟨hb1, hb2, hb3⟩ := hb; simp only [Free.AllDeps, Free.AllOuts, Free.At, al1, al2, al3, al4, al5, and_true] at hO hD; refine ⟨by simp [hD], ?_⟩; go_simp; rfl)
          simp only [an1, an2]
          refine Free.Chain.exG ?_ [(3, 38)] [8] 3 false 38 (by kernel_rfl) (by kernel_rfl) rfl (by kernel_rfl) Free.Bel.refl ?_ ?_
          rotate_left
          · (intro ev W hb hR hO hD; have hS := hF W hR; obtain ⟨hb1, hb2, hb3⟩ := hb; simp only [Free.AllDeps, Free.AllOuts, Free.At, al1, al2, al3, al4, al5, and_true] at hO hD; refine ⟨by simp [hD], ?_⟩; go_simp; rfl)
          simp only [an1, an2]
          refine Free.Chain.exG ?_ [(7, 42), (8, 43), (3, 38)] [] 3 false 38 (by kernel_rfl) (by kernel_rfl) rfl (by kernel_rfl) Free.Bel.refl ?_ ?_
          rotate_left
          · (intro ev W hb hR hO hD; have hS := hF W hR; obtain ⟨hb1, hb2, hb3⟩ := hb; simp only [Free.AllDeps, Free.AllOuts, Free.At, al1, al2, al3, al4, al5, and_true] at hO hD; refine ⟨by simp [hD], ?_⟩; go_simp; rfl)
          simp only [an1, an2]
          refine Free.Chain.exG ?_ [(9, 44), (3, 38)] [] 3 false 38 (by kernel_rfl) (by kernel_rfl) rfl (by kernel_rfl) Free.Bel.refl ?_ ?_
          rotate_left
          · (intro ev W hb hR hO hD; have hS := hF W hR; obtain ⟨hb1, hb2, hb3⟩ := hb; simp only [Free.AllDeps, Free.AllOuts, Free.At, al1, al2, al3, al4, al5, and_true] at hO hD; refine ⟨by simp [hD], ?_⟩; go_simp; rfl)
          simp only [an1, an2]
          refine Free.Chain.ex ?_ [(3, 38), (10, 45)] [] (by kernel_rfl) (by kernel_rfl) rfl Free.Bel.refl ?_ ?_
          rotate_left
          · (intro ev W hb hR hO hD; have hS := hF W hR; obtain ⟨hb1, hb2, hb3⟩ := hb; simp only [Free.AllDeps, Free.AllOuts, Free.At, al1, al2, al3, al4, al5, and_true] at hO hD; go_simp; rfl)
          simp only [an1, an2]
          intro ys w6 hR hV
          simp only [Free.AllV, Free.At, List.length_cons, List.length_nil, Nat.reduceAdd, List.getElem?_cons_succ, List.getElem?_cons_zero, true_and, and_true] at hV
          simp only [Free.putsFrom, Act.put, Nat.zero_add, Nat.reduceAdd, hV, List.setIfInBounds_toArray, List.set_cons_succ, List.set_cons_zero]
          have K6 : Free.Bel w5 w6 := bt (Bel.drewT (Free.Bel.refl _)) hR
          have q5 := (K6.block _ (lt_of_heap HK5.out.2.1)).trans HK5.out.2.1
          have q6 := (K6.block _ (lt_of_heap HK5.out.2.2)).trans HK5.out.2.2
          have HQ := Lib.hid (And.intro (bt HK5.out.1 K6) (And.intro q5 q6))
          obtain ⟨y0, y1, y2, y3, _⟩ := cells4 q5
          obtain ⟨z0, z1, z2, z3, f0, f1, f2, f3⟩ := cells4 q6
          clear hR hV hF K6 q5 q6
          cases r with
          | false =>
            go_wp2_with fail
            go_ret2
            refine ⟨.inr (.inr ⟨rfl, HNE.out, k, ⟨HOK.out, fun hok => ?_⟩, rfl⟩), bt HB1.out HQ.out.1⟩
            have h9 : everB h (idle xs (k + 1)) = true := hok.2
            rw [HCS.out.2.2] at h9
            cases h9
          | true =>
            have HNX := Lib.hid (show Free.Bel w1 (((((w6.setCell ⟨g, 0, none⟩ (.int .i64 (RS 0))).setCell ⟨g, 1, none⟩ (.int .i64 (RS 1))).setCell ⟨g, 2, none⟩ (.int .i64 (RS 2))).setCell ⟨g, 3, none⟩ (.int .i64 (RS 3))).alloc (.cells (arrV RS) 109)) ∧ (((((w6.setCell ⟨g, 0, none⟩ (.int .i64 (RS 0))).setCell ⟨g, 1, none⟩ (.int .i64 (RS 1))).setCell ⟨g, 2, none⟩ (.int .i64 (RS 2))).setCell ⟨g, 3, none⟩ (.int .i64 (RS 3))).alloc (.cells (arrV RS) 109)).heap[w6.heap.size]? = some (.cells (arrV RS) 109 (0, 0)) from by
              have hg := HKG.out.2.2
              have h1 : Below w1.heap.size w1 ((((w6.setCell ⟨g, 0, none⟩ (.int .i64 (RS 0))).setCell ⟨g, 1, none⟩ (.int .i64 (RS 1))).setCell ⟨g, 2, none⟩ (.int .i64 (RS 2))).setCell ⟨g, 3, none⟩ (.int .i64 (RS 3))) := (((Below.setCell (show Below w1.heap.size w1 w6 from HQ.out.1) (by simpa using hg) _).setCell (by simpa using hg) _).setCell (by simpa using hg) _).setCell (by simpa using hg) _
              refine ⟨Below.trans h1 (Below.mono (belAlloc _ _) h1.size), ?_⟩
              have := World.alloc_heap_new ((((w6.setCell ⟨g, 0, none⟩ (.int .i64 (RS 0))).setCell ⟨g, 1, none⟩ (.int .i64 (RS 1))).setCell ⟨g, 2, none⟩ (.int .i64 (RS 2))).setCell ⟨g, 3, none⟩ (.int .i64 (RS 3))) (.cells (arrV RS) 109)
              simpa using this)
            go_wp2_with fail
            go_roundw
            case rel => exact ⟨k + 1, w6.heap.size, by go_num, rfl, HNX.out.1, by rw [HSS.out.2.1]; exact HNX.out.2, HQ.out.1.size, fun j h0 hj => by
              by_cases h9 : j ≤ k
              · exact HOK.out j h0 h9
              · obtain rfl : j = k + 1 := by omega
                exact ⟨HCS.out.1, HCS.out.2.2⟩⟩
            case measure => simp [intOf]; omega
  · have g0 : (c != 0) = true := by simp [hc0]
    have HC := Lib.hid hc0
    clear hT m0 hc hc0
    go_enter Tryd.func53, Tryd.ntmps53
    go_wp2_with fail
    refine HGO.out.mono ?_
    rintro e w1 ⟨hG, hB1⟩
    obtain rfl : e = .returned (.tuple #[.pointer none, .int .i64 c]) := by
      rcases hG with ⟨_, h9⟩ | ⟨h9, _⟩
      · exact h9
      · exact absurd h9 HC.out
    have HB := Lib.hid (bt HKB.out.1 hB1)
    clear hG hB1
    go_wp2_with fail
    go_ret2
    exact ⟨.inl ⟨HC.out, rfl⟩, HB.out⟩
end Go.Proofs.YtknpglgpkkhhiaaDoor

