/- The examples of chapter 07's laws: alive returns true. -/
import Derived.Test.YtknpglgpkkhhiaaDoorC6
import Derived.Test.YtknpglgpkkhhiaaDoorCards
import Derived.Test.YtknpglgpkkhhiaaDoorTie
import Derived.ProofKit
import Derived.LaidMore
import Derived.Stop.Joined
import Derived.Laws.IdiomArrays
import Derived.Lib.SmallJoins
import Derived.Deep.DeepHandedRow
import Derived.Shelf.SlSortCmp.InsertionK
import Derived.Ground.SlsfProg
import Derived.Laws.StructEq
import Derived.Shelf.RegionOpen
import Derived.Deep.RegionLaw
import Derived.Laws.OwnMore
import Derived.Lib.SliceRun
import Derived.Test.YtknpglgpkkhhiaaDoorProg
import Derived.ChangeShapes
namespace Go.Proofs.YtknpglgpkkhhiaaDoor
set_option linter.unusedSimpArgs false
set_option linter.unusedVariables false
open Go.RowKit Go.Proofs.YtknpglgpkkhhiaaDoor.Free2 Go.Proofs.YtknpglgpkkhhiaaDoor.ML RR

set_option maxRecDepth 100000 in
set_option maxHeartbeats 32000000 in
theorem alive_any (w0 : World) (hT : TabR w0) :
    Calls Tryd.prog 55 #[] w0 fun e w' => e = .returned (.bool true) ∧ Below w0.heap.size w0 w' := by
  have HTAB := Lib.hid hT
  clear hT
  go_enter Tryd.func55, Tryd.ntmps55
  go_wp2_with fail
  refine (watchX_any _).mono ?_
  rintro e w1 ⟨⟨b1, rfl, hb1, hh1⟩, hB⟩
  have HB1 := Lib.hid (show Free.Bel w0 w1 from hB)
  clear hB
  have HH1 := Lib.hid hh1
  clear hb1 hh1
  go_wp2_with fail
  refine (ex_share _ w1 (HTAB.out.bel HB1.out) (rl_of9 HH1.out)).mono ?_
  rintro e w2 ⟨rfl, hB⟩
  have HB2 := Lib.hid (show Free.Bel w1 w2 from hB)
  clear hB
  go_wp2_with fail
  have HBOX := Lib.hid (show (w2.alloc (.cells #[.int .i64 1, .int .i64 1] 51)).heap[w2.heap.size]? = some (.cells #[.int .i64 1, .int .i64 1] 51 (0, 0)) from World.alloc_heap_new w2 _)
  refine (watchX_any _).mono ?_
  rintro e w3 ⟨⟨b3, rfl, hb3, hh3⟩, hB⟩
  have HBA := Lib.hid (show Free.Bel (w2.alloc (.cells #[.int .i64 1, .int .i64 1] 51)) w3 from hB)
  have HB3 := Lib.hid (show Free.Bel w2 w3 from (bt (belAlloc _ _) hB))
  clear hB
  have HH3 := Lib.hid hh3
  clear hb3 hh3
  have HBX3 := Lib.hid (show w3.heap[w2.heap.size]? = some (.cells #[.int .i64 1, .int .i64 1] 51 (0, 0)) from (HBA.out.block _ (lt_of_heap HBOX.out)).trans HBOX.out)
  go_wp2_with fail
  refine (ex_can _ w3 (HTAB.out.bel (bt HB1.out (bt HB2.out HB3.out))) (rl_of9 HH3.out)).mono ?_
  rintro e w4 ⟨rfl, hB⟩
  have HB4 := Lib.hid (show Free.Bel w3 w4 from hB)
  clear hB
  go_wp2_with fail
  refine (watchX_any _).mono ?_
  rintro e w5 ⟨⟨b5, rfl, hb5, hh5⟩, hB⟩
  have HB5 := Lib.hid (show Free.Bel w4 w5 from hB)
  clear hB
  have HH5 := Lib.hid hh5
  clear hb5 hh5
  go_wp2_with fail
  refine (ex_today _ w5 (HTAB.out.bel (bt HB1.out (bt HB2.out (bt HB3.out (bt HB4.out HB5.out))))) (rl_of9 HH5.out)).mono ?_
  rintro e w6 ⟨⟨v6, rfl, hv6⟩, hB⟩
  have HB6 := Lib.hid (show Free.Bel w5 w6 from hB)
  clear hB
  have HV6 := Lib.hid hv6
  clear hv6
  go_wp2_with fail
  refine (watchX_any _).mono ?_
  rintro e w7 ⟨⟨b7, rfl, hb7, hh7⟩, hB⟩
  have HB7 := Lib.hid (show Free.Bel w6 w7 from hB)
  clear hB
  have HH7 := Lib.hid hh7
  clear hb7 hh7
  go_wp2_with fail
  refine (ex_days _ w7 (HTAB.out.bel (bt HB1.out (bt HB2.out (bt HB3.out (bt HB4.out (bt HB5.out (bt HB6.out HB7.out))))))) (rl_of9 HH7.out)).mono ?_
  rintro e w8 ⟨⟨v8, rfl, hv8⟩, hB⟩
  have HB8 := Lib.hid (show Free.Bel w7 w8 from hB)
  clear hB
  have HV8 := Lib.hid hv8
  clear hv8
  go_wp2_with fail
  refine (watchX_any _).mono ?_
  rintro e w9 ⟨⟨b9, rfl, hb9, hh9⟩, hB⟩
  have HB9 := Lib.hid (show Free.Bel w8 w9 from hB)
  clear hB
  have HH9 := Lib.hid hh9
  clear hb9 hh9
  go_wp2_with fail
  refine (ex_round _ w9 (HTAB.out.bel (bt HB1.out (bt HB2.out (bt HB3.out (bt HB4.out (bt HB5.out (bt HB6.out (bt HB7.out (bt HB8.out HB9.out))))))))) (rl_of9 HH9.out)).mono ?_
  rintro e w10 ⟨⟨vl, vr, rfl, hvl, hvr⟩, hB⟩
  have HB10 := Lib.hid (show Free.Bel w9 w10 from hB)
  clear hB
  have HVL := Lib.hid hvl
  have HVR := Lib.hid hvr
  clear hvl hvr
  go_wp2_with fail
  refine (watchX_any _).mono ?_
  rintro e w11 ⟨⟨b11, rfl, hb11, hh11⟩, hB⟩
  have HB11 := Lib.hid (show Free.Bel w10 w11 from hB)
  clear hB
  have HH11 := Lib.hid hh11
  clear hb11 hh11
  go_wp2_with fail
  refine (ex_few _ w11 (HTAB.out.bel (bt HB1.out (bt HB2.out (bt HB3.out (bt HB4.out (bt HB5.out (bt HB6.out (bt HB7.out (bt HB8.out (bt HB9.out (bt HB10.out HB11.out))))))))))) (rl_of9 HH11.out)).mono ?_
  rintro e w12 ⟨rfl, hB⟩
  have HB12 := Lib.hid (show Free.Bel w11 w12 from hB)
  clear hB
  go_wp2_with fail
  refine (watchX_any _).mono ?_
  rintro e w13 ⟨⟨b13, rfl, hb13, hh13⟩, hB⟩
  have HB13 := Lib.hid (show Free.Bel w12 w13 from hB)
  clear hB
  have HH13 := Lib.hid hh13
  clear hb13 hh13
  go_wp2_with fail
  refine (ex_moist _ w13 (HTAB.out.bel (bt HB1.out (bt HB2.out (bt HB3.out (bt HB4.out (bt HB5.out (bt HB6.out (bt HB7.out (bt HB8.out (bt HB9.out (bt HB10.out (bt HB11.out (bt HB12.out HB13.out))))))))))))) (rl_of9 HH13.out) nz_some).mono ?_
  rintro e w14 ⟨rfl, hB⟩
  have HB14 := Lib.hid (show Free.Bel w13 w14 from hB)
  clear hB
  go_wp2_with fail
  refine (watchX_any _).mono ?_
  rintro e w15 ⟨⟨b15, rfl, hb15, hh15⟩, hB⟩
  have HB15 := Lib.hid (show Free.Bel w14 w15 from hB)
  clear hB
  have HH15 := Lib.hid hh15
  clear hb15 hh15
  go_wp2_with fail
  refine (ex_spare _ w15 (HTAB.out.bel (bt HB1.out (bt HB2.out (bt HB3.out (bt HB4.out (bt HB5.out (bt HB6.out (bt HB7.out (bt HB8.out (bt HB9.out (bt HB10.out (bt HB11.out (bt HB12.out (bt HB13.out (bt HB14.out HB15.out))))))))))))))) (rl_of9 HH15.out)).mono ?_
  rintro e w16 ⟨rfl, hB⟩
  have HB16 := Lib.hid (show Free.Bel w15 w16 from hB)
  clear hB
  have hbx := ((show Free.Bel w3 w16 from (bt HB4.out (bt HB5.out (bt HB6.out (bt HB7.out (bt HB8.out (bt HB9.out (bt HB10.out (bt HB11.out (bt HB12.out (bt HB13.out (bt HB14.out (bt HB15.out HB16.out))))))))))))).block _ (lt_of_heap HBX3.out)).trans HBX3.out
  have cx0 := cell_of_heap (o := 0) hbx rfl
  have cx1 := cell_of_heap (o := 1) hbx rfl
  clear hbx
  go_wp2_with fail
  refine (dayX_any _ _).mono ?_
  rintro e wd ⟨rfl, rfl⟩
  go_wp2_with fail
  clear cx0 cx1
  refine (sameI_any [1] v6 _ _ (HV6.out.keeps (bt (bt HB7.out (bt HB8.out (bt HB9.out (bt HB10.out (bt HB11.out (bt HB12.out (bt HB13.out (bt HB14.out (bt HB15.out HB16.out))))))))) (belAlloc _ _))) (show IL [1] (.slice (some ⟨w16.heap.size, 0, none⟩) 1 1) (w16.alloc (.cells #[.int .i64 1] 3)) from by have := il_one 1 3 w16; simpa using this)).mono ?_
  rintro e w17 ⟨rfl, hB⟩
  have HB17 := Lib.hid (show Free.Bel w16 w17 from (bt (belAlloc _ _) hB))
  clear hB
  go_wp2_with fail
  refine (dayX_any _ _).mono ?_
  rintro e wd ⟨rfl, rfl⟩
  go_wp2_with fail
  refine (dayX_any _ _).mono ?_
  rintro e wd ⟨rfl, rfl⟩
  go_wp2_with fail
  refine (dayX_any _ _).mono ?_
  rintro e wd ⟨rfl, rfl⟩
  go_wp2_with fail
  have hdl : DL [[1], [2], [1]] (.slice (some ⟨w17.heap.size + 1 + 1 + 1, 0, none⟩) 3 3) ((((w17.alloc (.cells #[.int .i64 1] 3)).alloc (.cells #[.int .i64 2] 3)).alloc (.cells #[.int .i64 1] 3)).alloc (.cells #[.slice (some ⟨w17.heap.size, 0, none⟩) 1 1, .slice (some ⟨w17.heap.size + 1, 0, none⟩) 1 1, .slice (some ⟨w17.heap.size + 1 + 1, 0, none⟩) 1 1] 58)) := by
    have h9 := dl_new (ds := [[1], [2], [1]]) (us := [.slice (some ⟨w17.heap.size, 0, none⟩) 1 1, .slice (some ⟨w17.heap.size + 1, 0, none⟩) 1 1, .slice (some ⟨w17.heap.size + 1 + 1, 0, none⟩) 1 1]) (t := 58) (w := (((w17.alloc (.cells #[.int .i64 1] 3)).alloc (.cells #[.int .i64 2] 3)).alloc (.cells #[.int .i64 1] 3))) rfl (by simp [maxLen]) (fun k hk u hu => by
      have hk9 : k < 3 := hk
      rcases (show k = 0 ∨ k = 1 ∨ k = 2 by omega) with rfl | rfl | rfl
      · obtain rfl := Option.some.inj hu
        exact (IL.keeps (IL.keeps (show IL [1] (.slice (some ⟨w17.heap.size, 0, none⟩) 1 1) (w17.alloc (.cells #[.int .i64 1] 3)) from by have := il_one 1 3 w17; simpa using this) (belAlloc _ _)) (belAlloc _ _))
      · obtain rfl := Option.some.inj hu
        exact (IL.keeps (show IL [2] (.slice (some ⟨w17.heap.size + 1, 0, none⟩) 1 1) ((w17.alloc (.cells #[.int .i64 1] 3)).alloc (.cells #[.int .i64 2] 3)) from by have := il_one 2 3 (w17.alloc (.cells #[.int .i64 1] 3)); simpa using this) (belAlloc _ _))
      · obtain rfl := Option.some.inj hu
        exact (show IL [1] (.slice (some ⟨w17.heap.size + 1 + 1, 0, none⟩) 1 1) (((w17.alloc (.cells #[.int .i64 1] 3)).alloc (.cells #[.int .i64 2] 3)).alloc (.cells #[.int .i64 1] 3)) from by have := il_one 1 3 ((w17.alloc (.cells #[.int .i64 1] 3)).alloc (.cells #[.int .i64 2] 3)); simpa using this)
      )
    simpa using h9
  have HDL := Lib.hid hdl
  clear hdl
  refine (daysX_any _ _).mono ?_
  rintro e wd ⟨rfl, rfl⟩
  go_wp2_with fail
  refine (sameD_any [[1], [2], [1]] v8 _ _ (HV8.out.keeps (bt (bt HB9.out (bt HB10.out (bt HB11.out (bt HB12.out (bt HB13.out (bt HB14.out (bt HB15.out (bt HB16.out HB17.out)))))))) (bt (belAlloc _ _) (bt (belAlloc _ _) (bt (belAlloc _ _) (bt (belAlloc _ _) (Free.Bel.refl _))))))) HDL.out).mono ?_
  rintro e w18 ⟨rfl, hB⟩
  have HB18 := Lib.hid (show Free.Bel w17 w18 from (bt (belAlloc _ _) (bt (belAlloc _ _) (bt (belAlloc _ _) (bt (belAlloc _ _) hB)))))
  clear hB
  go_wp2_with fail
  clear HDL
  refine (dayX_any _ _).mono ?_
  rintro e wd ⟨rfl, rfl⟩
  go_wp2_with fail
  refine (dayX_any _ _).mono ?_
  rintro e wd ⟨rfl, rfl⟩
  go_wp2_with fail
  have hdl : DL [[1], [2]] (.slice (some ⟨w18.heap.size + 1 + 1, 0, none⟩) 2 2) (((w18.alloc (.cells #[.int .i64 1] 3)).alloc (.cells #[.int .i64 2] 3)).alloc (.cells #[.slice (some ⟨w18.heap.size, 0, none⟩) 1 1, .slice (some ⟨w18.heap.size + 1, 0, none⟩) 1 1] 58)) := by
    have h9 := dl_new (ds := [[1], [2]]) (us := [.slice (some ⟨w18.heap.size, 0, none⟩) 1 1, .slice (some ⟨w18.heap.size + 1, 0, none⟩) 1 1]) (t := 58) (w := ((w18.alloc (.cells #[.int .i64 1] 3)).alloc (.cells #[.int .i64 2] 3))) rfl (by simp [maxLen]) (fun k hk u hu => by
      have hk9 : k < 2 := hk
      rcases (show k = 0 ∨ k = 1 by omega) with rfl | rfl
      · obtain rfl := Option.some.inj hu
        exact (IL.keeps (show IL [1] (.slice (some ⟨w18.heap.size, 0, none⟩) 1 1) (w18.alloc (.cells #[.int .i64 1] 3)) from by have := il_one 1 3 w18; simpa using this) (belAlloc _ _))
      · obtain rfl := Option.some.inj hu
        exact (show IL [2] (.slice (some ⟨w18.heap.size + 1, 0, none⟩) 1 1) ((w18.alloc (.cells #[.int .i64 1] 3)).alloc (.cells #[.int .i64 2] 3)) from by have := il_one 2 3 (w18.alloc (.cells #[.int .i64 1] 3)); simpa using this)
      )
    simpa using h9
  have HDL := Lib.hid hdl
  clear hdl
  refine (daysX_any _ _).mono ?_
  rintro e wd ⟨rfl, rfl⟩
  go_wp2_with fail
  refine (sameD_any [[1], [2]] vl _ _ (HVL.out.keeps (bt (bt HB11.out (bt HB12.out (bt HB13.out (bt HB14.out (bt HB15.out (bt HB16.out (bt HB17.out HB18.out))))))) (bt (belAlloc _ _) (bt (belAlloc _ _) (bt (belAlloc _ _) (Free.Bel.refl _)))))) HDL.out).mono ?_
  rintro e w19 ⟨rfl, hB⟩
  have HB19 := Lib.hid (show Free.Bel w18 w19 from (bt (belAlloc _ _) (bt (belAlloc _ _) (bt (belAlloc _ _) hB))))
  clear hB
  go_wp2_with fail
  clear HDL
  refine (dayX_any _ _).mono ?_
  rintro e wd ⟨rfl, rfl⟩
  go_wp2_with fail
  refine (dayX_any _ _).mono ?_
  rintro e wd ⟨rfl, rfl⟩
  go_wp2_with fail
  refine (dayX_any _ _).mono ?_
  rintro e wd ⟨rfl, rfl⟩
  go_wp2_with fail
  refine (dayX_any _ _).mono ?_
  rintro e wd ⟨rfl, rfl⟩
  go_wp2_with fail
  have hdl : DL [[1], [3], [1], [2]] (.slice (some ⟨w19.heap.size + 1 + 1 + 1 + 1, 0, none⟩) 4 4) (((((w19.alloc (.cells #[.int .i64 1] 3)).alloc (.cells #[.int .i64 3] 3)).alloc (.cells #[.int .i64 1] 3)).alloc (.cells #[.int .i64 2] 3)).alloc (.cells #[.slice (some ⟨w19.heap.size, 0, none⟩) 1 1, .slice (some ⟨w19.heap.size + 1, 0, none⟩) 1 1, .slice (some ⟨w19.heap.size + 1 + 1, 0, none⟩) 1 1, .slice (some ⟨w19.heap.size + 1 + 1 + 1, 0, none⟩) 1 1] 58)) := by
    have h9 := dl_new (ds := [[1], [3], [1], [2]]) (us := [.slice (some ⟨w19.heap.size, 0, none⟩) 1 1, .slice (some ⟨w19.heap.size + 1, 0, none⟩) 1 1, .slice (some ⟨w19.heap.size + 1 + 1, 0, none⟩) 1 1, .slice (some ⟨w19.heap.size + 1 + 1 + 1, 0, none⟩) 1 1]) (t := 58) (w := ((((w19.alloc (.cells #[.int .i64 1] 3)).alloc (.cells #[.int .i64 3] 3)).alloc (.cells #[.int .i64 1] 3)).alloc (.cells #[.int .i64 2] 3))) rfl (by simp [maxLen]) (fun k hk u hu => by
      have hk9 : k < 4 := hk
      rcases (show k = 0 ∨ k = 1 ∨ k = 2 ∨ k = 3 by omega) with rfl | rfl | rfl | rfl
      · obtain rfl := Option.some.inj hu
        exact (IL.keeps (IL.keeps (IL.keeps (show IL [1] (.slice (some ⟨w19.heap.size, 0, none⟩) 1 1) (w19.alloc (.cells #[.int .i64 1] 3)) from by have := il_one 1 3 w19; simpa using this) (belAlloc _ _)) (belAlloc _ _)) (belAlloc _ _))
      · obtain rfl := Option.some.inj hu
        exact (IL.keeps (IL.keeps (show IL [3] (.slice (some ⟨w19.heap.size + 1, 0, none⟩) 1 1) ((w19.alloc (.cells #[.int .i64 1] 3)).alloc (.cells #[.int .i64 3] 3)) from by have := il_one 3 3 (w19.alloc (.cells #[.int .i64 1] 3)); simpa using this) (belAlloc _ _)) (belAlloc _ _))
      · obtain rfl := Option.some.inj hu
        exact (IL.keeps (show IL [1] (.slice (some ⟨w19.heap.size + 1 + 1, 0, none⟩) 1 1) (((w19.alloc (.cells #[.int .i64 1] 3)).alloc (.cells #[.int .i64 3] 3)).alloc (.cells #[.int .i64 1] 3)) from by have := il_one 1 3 ((w19.alloc (.cells #[.int .i64 1] 3)).alloc (.cells #[.int .i64 3] 3)); simpa using this) (belAlloc _ _))
      · obtain rfl := Option.some.inj hu
        exact (show IL [2] (.slice (some ⟨w19.heap.size + 1 + 1 + 1, 0, none⟩) 1 1) ((((w19.alloc (.cells #[.int .i64 1] 3)).alloc (.cells #[.int .i64 3] 3)).alloc (.cells #[.int .i64 1] 3)).alloc (.cells #[.int .i64 2] 3)) from by have := il_one 2 3 (((w19.alloc (.cells #[.int .i64 1] 3)).alloc (.cells #[.int .i64 3] 3)).alloc (.cells #[.int .i64 1] 3)); simpa using this)
      )
    simpa using h9
  have HDL := Lib.hid hdl
  clear hdl
  refine (daysX_any _ _).mono ?_
  rintro e wd ⟨rfl, rfl⟩
  go_wp2_with fail
  refine (sameD_any [[1], [3], [1], [2]] vr _ _ (HVR.out.keeps (bt (bt HB11.out (bt HB12.out (bt HB13.out (bt HB14.out (bt HB15.out (bt HB16.out (bt HB17.out (bt HB18.out HB19.out)))))))) (bt (belAlloc _ _) (bt (belAlloc _ _) (bt (belAlloc _ _) (bt (belAlloc _ _) (bt (belAlloc _ _) (Free.Bel.refl _)))))))) HDL.out).mono ?_
  rintro e w20 ⟨rfl, hB⟩
  have HB20 := Lib.hid (show Free.Bel w19 w20 from (bt (belAlloc _ _) (bt (belAlloc _ _) (bt (belAlloc _ _) (bt (belAlloc _ _) (bt (belAlloc _ _) hB))))))
  clear hB
  go_wp2_with fail
  clear HDL
  refine (watchX_any _).mono ?_
  rintro e w21 ⟨⟨b21, rfl, hb21, hh21⟩, hB⟩
  have HB21 := Lib.hid (show Free.Bel w20 w21 from hB)
  clear hB
  have HH21 := Lib.hid hh21
  clear hb21 hh21
  go_wp2_with fail
  refine (dayX_any _ _).mono ?_
  rintro e wd ⟨rfl, rfl⟩
  go_wp2_with fail
  have hdl : DL [[], [1], []] (.slice (some ⟨w21.heap.size + 1, 0, none⟩) 3 3) ((w21.alloc (.cells #[.int .i64 1] 3)).alloc (.cells #[.slice none 0 0, .slice (some ⟨w21.heap.size, 0, none⟩) 1 1, .slice none 0 0] 58)) := by
    have h9 := dl_new (ds := [[], [1], []]) (us := [.slice none 0 0, .slice (some ⟨w21.heap.size, 0, none⟩) 1 1, .slice none 0 0]) (t := 58) (w := (w21.alloc (.cells #[.int .i64 1] 3))) rfl (by simp [maxLen]) (fun k hk u hu => by
      have hk9 : k < 3 := hk
      rcases (show k = 0 ∨ k = 1 ∨ k = 2 by omega) with rfl | rfl | rfl
      · obtain rfl := Option.some.inj hu
        exact IL.nil _
      · obtain rfl := Option.some.inj hu
        exact (show IL [1] (.slice (some ⟨w21.heap.size, 0, none⟩) 1 1) (w21.alloc (.cells #[.int .i64 1] 3)) from by have := il_one 1 3 w21; simpa using this)
      · obtain rfl := Option.some.inj hu
        exact IL.nil _
      )
    simpa using h9
  have HDL := Lib.hid hdl
  clear hdl
  refine (daysX_any _ _).mono ?_
  rintro e wd ⟨rfl, rfl⟩
  go_wp2_with fail
  refine (ex_hot _ _ (HTAB.out.bel (bt (bt HB1.out (bt HB2.out (bt HB3.out (bt HB4.out (bt HB5.out (bt HB6.out (bt HB7.out (bt HB8.out (bt HB9.out (bt HB10.out (bt HB11.out (bt HB12.out (bt HB13.out (bt HB14.out (bt HB15.out (bt HB16.out (bt HB17.out (bt HB18.out (bt HB19.out (bt HB20.out HB21.out)))))))))))))))))))) (bt (belAlloc _ _) (bt (belAlloc _ _) (Free.Bel.refl _))))) ((rl_of9 HH21.out).keeps (bt (Free.Bel.refl _) (bt (belAlloc _ _) (bt (belAlloc _ _) (Free.Bel.refl _))))) nz_some _ HDL.out).mono ?_
  rintro e w22 ⟨⟨v22, rfl, hv22⟩, hB⟩
  have HB22 := Lib.hid (show Free.Bel w21 w22 from (bt (belAlloc _ _) (bt (belAlloc _ _) hB)))
  clear hB
  clear HDL
  have HV22 := Lib.hid hv22
  clear hv22
  go_wp2_with fail
  refine (watchX_any _).mono ?_
  rintro e w23 ⟨⟨b23, rfl, hb23, hh23⟩, hB⟩
  have HB23 := Lib.hid (show Free.Bel w22 w23 from hB)
  clear hB
  have HH23 := Lib.hid hh23
  clear hb23 hh23
  go_wp2_with fail
  refine (dayX_any _ _).mono ?_
  rintro e wd ⟨rfl, rfl⟩
  go_wp2_with fail
  refine (dayX_any _ _).mono ?_
  rintro e wd ⟨rfl, rfl⟩
  go_wp2_with fail
  have hdl : DL [[1], [2]] (.slice (some ⟨w23.heap.size + 1 + 1, 0, none⟩) 2 2) (((w23.alloc (.cells #[.int .i64 1] 3)).alloc (.cells #[.int .i64 2] 3)).alloc (.cells #[.slice (some ⟨w23.heap.size, 0, none⟩) 1 1, .slice (some ⟨w23.heap.size + 1, 0, none⟩) 1 1] 58)) := by
    have h9 := dl_new (ds := [[1], [2]]) (us := [.slice (some ⟨w23.heap.size, 0, none⟩) 1 1, .slice (some ⟨w23.heap.size + 1, 0, none⟩) 1 1]) (t := 58) (w := ((w23.alloc (.cells #[.int .i64 1] 3)).alloc (.cells #[.int .i64 2] 3))) rfl (by simp [maxLen]) (fun k hk u hu => by
      have hk9 : k < 2 := hk
      rcases (show k = 0 ∨ k = 1 by omega) with rfl | rfl
      · obtain rfl := Option.some.inj hu
        exact (IL.keeps (show IL [1] (.slice (some ⟨w23.heap.size, 0, none⟩) 1 1) (w23.alloc (.cells #[.int .i64 1] 3)) from by have := il_one 1 3 w23; simpa using this) (belAlloc _ _))
      · obtain rfl := Option.some.inj hu
        exact (show IL [2] (.slice (some ⟨w23.heap.size + 1, 0, none⟩) 1 1) ((w23.alloc (.cells #[.int .i64 1] 3)).alloc (.cells #[.int .i64 2] 3)) from by have := il_one 2 3 (w23.alloc (.cells #[.int .i64 1] 3)); simpa using this)
      )
    simpa using h9
  have HDL := Lib.hid hdl
  clear hdl
  refine (daysX_any _ _).mono ?_
  rintro e wd ⟨rfl, rfl⟩
  go_wp2_with fail
  refine (ex_after _ _ (HTAB.out.bel (bt (bt HB1.out (bt HB2.out (bt HB3.out (bt HB4.out (bt HB5.out (bt HB6.out (bt HB7.out (bt HB8.out (bt HB9.out (bt HB10.out (bt HB11.out (bt HB12.out (bt HB13.out (bt HB14.out (bt HB15.out (bt HB16.out (bt HB17.out (bt HB18.out (bt HB19.out (bt HB20.out (bt HB21.out (bt HB22.out HB23.out)))))))))))))))))))))) (bt (belAlloc _ _) (bt (belAlloc _ _) (bt (belAlloc _ _) (Free.Bel.refl _)))))) ((rl_of9 HH23.out).keeps (bt (Free.Bel.refl _) (bt (belAlloc _ _) (bt (belAlloc _ _) (bt (belAlloc _ _) (Free.Bel.refl _)))))) nz_some _ HDL.out).mono ?_
  rintro e w24 ⟨⟨g9, c9, rfl, a2, a5, a8⟩, hB⟩
  have HB24 := Lib.hid (show Free.Bel w23 w24 from (bt (belAlloc _ _) (bt (belAlloc _ _) (bt (belAlloc _ _) hB))))
  clear hB
  clear HDL
  have HAF := Lib.hid (And.intro a2 (And.intro a5 a8))
  clear a2 a5 a8
  have HB24B := Lib.hid (show (w24.alloc (.cells #[.int .i64 1, .slice (some ⟨g9, 0, none⟩) 3 c9] 24)).heap[w24.heap.size]? = some (.cells #[.int .i64 1, .slice (some ⟨g9, 0, none⟩) 3 c9] 24 (0, 0)) from World.alloc_heap_new w24 _)
  go_wp2_with fail
  refine (watchX_any _).mono ?_
  rintro e w25 ⟨⟨b25, rfl, hb25, hh25⟩, hB⟩
  have HBB := Lib.hid (show Free.Bel (w24.alloc (.cells #[.int .i64 1, .slice (some ⟨g9, 0, none⟩) 3 c9] 24)) w25 from hB)
  have HB25 := Lib.hid (show Free.Bel w24 w25 from (bt (belAlloc _ _) hB))
  clear hB
  have HH25 := Lib.hid hh25
  clear hb25 hh25
  have HBX25 := Lib.hid (show w25.heap[w24.heap.size]? = some (.cells #[.int .i64 1, .slice (some ⟨g9, 0, none⟩) 3 c9] 24 (0, 0)) from (HBB.out.block _ (lt_of_heap HB24B.out)).trans HB24B.out)
  go_wp2_with fail
  refine (dayX_any _ _).mono ?_
  rintro e wd ⟨rfl, rfl⟩
  go_wp2_with fail
  refine (dayX_any _ _).mono ?_
  rintro e wd ⟨rfl, rfl⟩
  go_wp2_with fail
  refine (dayX_any _ _).mono ?_
  rintro e wd ⟨rfl, rfl⟩
  go_wp2_with fail
  refine (dayX_any _ _).mono ?_
  rintro e wd ⟨rfl, rfl⟩
  go_wp2_with fail
  have hdl : DL [[1], [2], [1], [3]] (.slice (some ⟨w25.heap.size + 1 + 1 + 1 + 1, 0, none⟩) 4 4) (((((w25.alloc (.cells #[.int .i64 1] 3)).alloc (.cells #[.int .i64 2] 3)).alloc (.cells #[.int .i64 1] 3)).alloc (.cells #[.int .i64 3] 3)).alloc (.cells #[.slice (some ⟨w25.heap.size, 0, none⟩) 1 1, .slice (some ⟨w25.heap.size + 1, 0, none⟩) 1 1, .slice (some ⟨w25.heap.size + 1 + 1, 0, none⟩) 1 1, .slice (some ⟨w25.heap.size + 1 + 1 + 1, 0, none⟩) 1 1] 58)) := by
    have h9 := dl_new (ds := [[1], [2], [1], [3]]) (us := [.slice (some ⟨w25.heap.size, 0, none⟩) 1 1, .slice (some ⟨w25.heap.size + 1, 0, none⟩) 1 1, .slice (some ⟨w25.heap.size + 1 + 1, 0, none⟩) 1 1, .slice (some ⟨w25.heap.size + 1 + 1 + 1, 0, none⟩) 1 1]) (t := 58) (w := ((((w25.alloc (.cells #[.int .i64 1] 3)).alloc (.cells #[.int .i64 2] 3)).alloc (.cells #[.int .i64 1] 3)).alloc (.cells #[.int .i64 3] 3))) rfl (by simp [maxLen]) (fun k hk u hu => by
      have hk9 : k < 4 := hk
      rcases (show k = 0 ∨ k = 1 ∨ k = 2 ∨ k = 3 by omega) with rfl | rfl | rfl | rfl
      · obtain rfl := Option.some.inj hu
        exact (IL.keeps (IL.keeps (IL.keeps (show IL [1] (.slice (some ⟨w25.heap.size, 0, none⟩) 1 1) (w25.alloc (.cells #[.int .i64 1] 3)) from by have := il_one 1 3 w25; simpa using this) (belAlloc _ _)) (belAlloc _ _)) (belAlloc _ _))
      · obtain rfl := Option.some.inj hu
        exact (IL.keeps (IL.keeps (show IL [2] (.slice (some ⟨w25.heap.size + 1, 0, none⟩) 1 1) ((w25.alloc (.cells #[.int .i64 1] 3)).alloc (.cells #[.int .i64 2] 3)) from by have := il_one 2 3 (w25.alloc (.cells #[.int .i64 1] 3)); simpa using this) (belAlloc _ _)) (belAlloc _ _))
      · obtain rfl := Option.some.inj hu
        exact (IL.keeps (show IL [1] (.slice (some ⟨w25.heap.size + 1 + 1, 0, none⟩) 1 1) (((w25.alloc (.cells #[.int .i64 1] 3)).alloc (.cells #[.int .i64 2] 3)).alloc (.cells #[.int .i64 1] 3)) from by have := il_one 1 3 ((w25.alloc (.cells #[.int .i64 1] 3)).alloc (.cells #[.int .i64 2] 3)); simpa using this) (belAlloc _ _))
      · obtain rfl := Option.some.inj hu
        exact (show IL [3] (.slice (some ⟨w25.heap.size + 1 + 1 + 1, 0, none⟩) 1 1) ((((w25.alloc (.cells #[.int .i64 1] 3)).alloc (.cells #[.int .i64 2] 3)).alloc (.cells #[.int .i64 1] 3)).alloc (.cells #[.int .i64 3] 3)) from by have := il_one 3 3 (((w25.alloc (.cells #[.int .i64 1] 3)).alloc (.cells #[.int .i64 2] 3)).alloc (.cells #[.int .i64 1] 3)); simpa using this)
      )
    simpa using h9
  have HDL := Lib.hid hdl
  clear hdl
  refine (daysX_any _ _).mono ?_
  rintro e wd ⟨rfl, rfl⟩
  go_wp2_with fail
  refine (ex_rep _ _ (HTAB.out.bel (bt (bt HB1.out (bt HB2.out (bt HB3.out (bt HB4.out (bt HB5.out (bt HB6.out (bt HB7.out (bt HB8.out (bt HB9.out (bt HB10.out (bt HB11.out (bt HB12.out (bt HB13.out (bt HB14.out (bt HB15.out (bt HB16.out (bt HB17.out (bt HB18.out (bt HB19.out (bt HB20.out (bt HB21.out (bt HB22.out (bt HB23.out (bt HB24.out HB25.out)))))))))))))))))))))))) (bt (belAlloc _ _) (bt (belAlloc _ _) (bt (belAlloc _ _) (bt (belAlloc _ _) (bt (belAlloc _ _) (Free.Bel.refl _)))))))) ((rl_of9 HH25.out).keeps (bt (Free.Bel.refl _) (bt (belAlloc _ _) (bt (belAlloc _ _) (bt (belAlloc _ _) (bt (belAlloc _ _) (bt (belAlloc _ _) (Free.Bel.refl _)))))))) nz_some _ HDL.out).mono ?_
  rintro e w26 ⟨rfl, hB⟩
  have HB26 := Lib.hid (show Free.Bel w25 w26 from (bt (belAlloc _ _) (bt (belAlloc _ _) (bt (belAlloc _ _) (bt (belAlloc _ _) (bt (belAlloc _ _) hB))))))
  clear hB
  clear HDL
  go_wp2_with fail
  refine (watchX_any _).mono ?_
  rintro e w27 ⟨⟨b27, rfl, hb27, hh27⟩, hB⟩
  have HB27 := Lib.hid (show Free.Bel w26 w27 from hB)
  clear hB
  have HH27 := Lib.hid hh27
  have HBZ := Lib.hid hb27
  clear hb27 hh27
  go_wp2_with fail
  have hlt := lt_of_heap HH27.out
  have hm21 : (w27.alloc (.cells #[.int .i64 1, .slice (some ⟨b27, 0, none⟩) 3 3] 24)).heap[w27.heap.size]? = some (.cells #[.int .i64 1, .slice (some ⟨b27, 0, none⟩) 3 3] 24 (0, 0)) := World.alloc_heap_new w27 _
  have HM21 := Lib.hid hm21
  have HFF : Hid (∀ W', RX (w27.heap.size + 1) [b27] (w27.alloc (.cells #[.int .i64 1, .slice (some ⟨b27, 0, none⟩) 3 3] 24)).drew W' → W'.heap[w27.heap.size]? = some (.cells #[.int .i64 1, .slice (some ⟨b27, 0, none⟩) 3 3] 24 (0, 0))) := fun W' hR => (hR.block _ (by omega) (by simp; omega)).trans HM21.out
  have hF : ∀ W', RX (w27.heap.size + 1) [b27] (w27.alloc (.cells #[.int .i64 1, .slice (some ⟨b27, 0, none⟩) 3 3] 24)).drew W' → W'.cell? ⟨w27.heap.size, 1, none⟩ = some (.slice (some ⟨b27, 0, none⟩) 3 3) := fun W' hR => cell_of_heap (o := 1) (HFF.out W' hR) rfl
  have HJ0 := Lib.hid (show JW b27 (fun _ => none) (w27.alloc (.cells #[.int .i64 1, .slice (some ⟨b27, 0, none⟩) 3 3] 24)).drew from (heap_old HH27.out : (w27.alloc (.cells #[.int .i64 1, .slice (some ⟨b27, 0, none⟩) 3 3] 24)).heap[b27]? = _))
  refine Free2.wp_free (R := RX (w27.heap.size + 1) [b27]) (J := JW b27) (by kernel_rfl) (by kernel_rfl) (RX.refl _ _) RX.trans HJ0.out ?_
  refine Free2.Chain.ex ?_ 0 rfl [] [21] (by kernel_rfl) (by kernel_rfl) rfl (RX.refl _ _) (fun X W v h => JW.skip h 0 v (by decide) (by decide)) ?_ ?_
  rotate_left
  · (intro ev W hb hR hO hD; have hS := hF W hR; obtain ⟨hb1, hb2, hb3⟩ := hb; simp only [Free.AllDeps, Free.AllOuts, Free.At, al1, al2, al3, al4, al5, and_true] at hO hD; go_simp; rfl)
  simp only [an1, an2]
  refine Free2.Chain.ex ?_ 1 rfl [(0, 197)] [] (by kernel_rfl) (by kernel_rfl) rfl (RX.refl _ _) (fun X W v h => JW.skip h 1 v (by decide) (by decide)) ?_ ?_
  rotate_left
  · (intro ev W hb hR hO hD; have hS := hF W hR; obtain ⟨hb1, hb2, hb3⟩ := hb; simp only [Free.AllDeps, Free.AllOuts, Free.At, al1, al2, al3, al4, al5, and_true] at hO hD; go_simp; rfl)
  simp only [an1, an2]
  refine Free2.Chain.ex ?_ 2 rfl [] [21] (by kernel_rfl) (by kernel_rfl) rfl (RX.refl _ _) (fun X W v h => JW.skip h 2 v (by decide) (by decide)) ?_ ?_
  rotate_left
  · (intro ev W hb hR hO hD; have hS := hF W hR; obtain ⟨hb1, hb2, hb3⟩ := hb; simp only [Free.AllDeps, Free.AllOuts, Free.At, al1, al2, al3, al4, al5, and_true] at hO hD; go_simp; rfl)
  simp only [an1, an2]
  refine Free2.Chain.ex ?_ 3 rfl [(2, 199)] [] (by kernel_rfl) (by kernel_rfl) rfl (RX.refl _ _) (fun X W v h => JW.skip h 3 v (by decide) (by decide)) ?_ ?_
  rotate_left
  · (intro ev W hb hR hO hD; have hS := hF W hR; obtain ⟨hb1, hb2, hb3⟩ := hb; simp only [Free.AllDeps, Free.AllOuts, Free.At, al1, al2, al3, al4, al5, and_true] at hO hD; go_simp; rfl)
  simp only [an1, an2]
  refine Free2.Chain.ex ?_ 4 rfl [(1, 198), (0, 197), (1, 198)] [] (by kernel_rfl) (by kernel_rfl) rfl (RX.refl _ _) (fun X W v h => JW.skip h 4 v (by decide) (by decide)) ?_ ?_
  rotate_left
  · (intro ev W hb hR hO hD; have hS := hF W hR; obtain ⟨hb1, hb2, hb3⟩ := hb; simp only [Free.AllDeps, Free.AllOuts, Free.At, al1, al2, al3, al4, al5, and_true] at hO hD; go_simp; rfl)
  simp only [an1, an2]
  refine Free2.Chain.ex ?_ 5 rfl [(4, 201), (0, 197), (1, 198)] [] (by kernel_rfl) (by kernel_rfl) rfl (RX.refl _ _) (fun X W v h => JW.skip h 5 v (by decide) (by decide)) ?_ ?_
  rotate_left
  · (intro ev W hb hR hO hD; have hS := hF W hR; obtain ⟨hb1, hb2, hb3⟩ := hb; simp only [Free.AllDeps, Free.AllOuts, Free.At, al1, al2, al3, al4, al5, and_true] at hO hD; go_simp; rfl)
  simp only [an1, an2]
  refine Free2.Chain.pr (fun _ _ => True) 6 rfl [(5, 202), (0, 197), (1, 198)] [] (by kernel_rfl) (by kernel_rfl) rfl (fun _ _ _ _ h => h) ?_ ?_
  · (intro ev W X hb hR hO hD hj hx hax; have hS := hF W hR; obtain ⟨hb1, hb2, hb3⟩ := hb; simp only [Free.AllDeps, Free.AllOuts, Free.At, al1, al2, al3, al4, al5, and_true] at hO hD; simp only [Free2.AllX, and_true] at hax; obtain ⟨x5, x8, c5, c8, f5, f8⟩ := JW.at hj; go_simp; exact ⟨RX.set (by simp), JW.put6 hj _⟩)
  simp only [an1, an2]
  refine Free2.Chain.ex ?_ 7 rfl [(3, 200), (0, 197), (1, 198), (2, 199), (3, 200), (4, 201), (5, 202)] [] (by kernel_rfl) (by kernel_rfl) rfl (RX.refl _ _) (fun X W v h => JW.skip h 7 v (by decide) (by decide)) ?_ ?_
  rotate_left
  · (intro ev W hb hR hO hD; have hS := hF W hR; obtain ⟨hb1, hb2, hb3⟩ := hb; simp only [Free.AllDeps, Free.AllOuts, Free.At, al1, al2, al3, al4, al5, and_true] at hO hD; go_simp; rfl)
  simp only [an1, an2]
  refine Free2.Chain.ex ?_ 8 rfl [(7, 203), (0, 197), (1, 198), (2, 199), (3, 200), (4, 201), (5, 202)] [] (by kernel_rfl) (by kernel_rfl) rfl (RX.refl _ _) (fun X W v h => JW.skip h 8 v (by decide) (by decide)) ?_ ?_
  rotate_left
  · (intro ev W hb hR hO hD; have hS := hF W hR; obtain ⟨hb1, hb2, hb3⟩ := hb; simp only [Free.AllDeps, Free.AllOuts, Free.At, al1, al2, al3, al4, al5, and_true] at hO hD; go_simp; rfl)
  simp only [an1, an2]
  refine Free2.Chain.pr (fun _ _ => True) 9 rfl [(8, 204), (0, 197), (1, 198), (2, 199), (3, 200), (4, 201), (5, 202)] [] (by kernel_rfl) (by kernel_rfl) rfl (fun _ _ _ _ h => h) ?_ ?_
  · (intro ev W X hb hR hO hD hj hx hax; have hS := hF W hR; obtain ⟨hb1, hb2, hb3⟩ := hb; simp only [Free.AllDeps, Free.AllOuts, Free.At, al1, al2, al3, al4, al5, and_true] at hO hD; simp only [Free2.AllX, and_true] at hax; obtain ⟨x5, x8, c5, c8, f5, f8⟩ := JW.at hj; go_simp; exact ⟨RX.set (by simp), JW.put9 hj _⟩)
  simp only [an1, an2]
  intro ys w28 hR hV hX
  obtain ⟨X, hj, hxx⟩ := hX
  simp only [Free.AllV, Free.At, List.length_cons, List.length_nil, Nat.reduceAdd, List.getElem?_cons_succ, List.getElem?_cons_zero, true_and, and_true] at hV
  simp only [Free.putsFrom, Act.put, Nat.zero_add, Nat.reduceAdd, hV, List.setIfInBounds_toArray, List.set_cons_succ, List.set_cons_zero]
  have hl28 : w28.heap[b27]? = some (.cells #[.int .i64 1, .int .i64 2, .int .i64 0, .int .i64 2, .int .i64 4, .int .i64 2, .int .i64 3, .int .i64 4, .int .i64 3] 47 (0, 0)) := by
    have h9 := hj
    unfold JW at h9
    rw [hxx 6 (by decide), hxx 9 (by decide)] at h9
    exact h9
  have HL28 := Lib.hid hl28
  have h9b := HFF.out w28 hR
  have c20 := cell_of_heap (o := 0) h9b rfl
  have c21 := cell_of_heap (o := 1) h9b rfl
  have HB28 := Lib.hid (show Free.Bel w26 w28 from ⟨hR.os.trans HB27.out.os, hR.tape.trans HB27.out.tape, hR.output.trans HB27.out.output, Nat.le_trans HB27.out.size (by have := hR.size; simp at this; omega), fun k hk => (hR.block k (by have := HB27.out.size; omega) (by have := HBZ.out; simp; omega)).trans ((Below.heap_alloc _ _ _ (by have := HB27.out.size; omega)).trans (HB27.out.block k hk))⟩)
  clear hl28 h9b hR hV hj hxx hF hm21 hlt
  go_wp2_with fail
  refine (ex_last _ w28 (HTAB.out.bel (bt HB1.out (bt HB2.out (bt HB3.out (bt HB4.out (bt HB5.out (bt HB6.out (bt HB7.out (bt HB8.out (bt HB9.out (bt HB10.out (bt HB11.out (bt HB12.out (bt HB13.out (bt HB14.out (bt HB15.out (bt HB16.out (bt HB17.out (bt HB18.out (bt HB19.out (bt HB20.out (bt HB21.out (bt HB22.out (bt HB23.out (bt HB24.out (bt HB25.out (bt HB26.out HB28.out))))))))))))))))))))))))))) (rl_of9 HL28.out)).mono ?_
  rintro e w29 ⟨⟨v29, rfl, hv29⟩, hB⟩
  have HB29 := Lib.hid (show Free.Bel w28 w29 from hB)
  clear hB
  have HV29 := Lib.hid hv29
  clear hv29 c20 c21
  go_wp2_with fail
  refine (sameH_any [(3, 2)] v22 _ _ (HV22.out.keeps (bt (bt HB23.out (bt HB24.out (bt HB25.out (bt HB26.out (bt HB28.out HB29.out))))) (belAlloc _ _))) (pl_one 3 2 _ _)).mono ?_
  rintro e w30 ⟨rfl, hB⟩
  have HB30 := Lib.hid (show Free.Bel w29 w30 from (bt (belAlloc _ _) hB))
  clear hB
  have hbx := ((show Free.Bel w25 w30 from (bt HB26.out (bt HB28.out (bt HB29.out HB30.out)))).block _ (lt_of_heap HBX25.out)).trans HBX25.out
  have cx1 := cell_of_heap (o := 1) hbx rfl
  have d2 := keepsB (bt HB25.out (bt HB26.out (bt HB28.out (bt HB29.out HB30.out)))) HAF.out.1
  have d5 := keepsB (bt HB25.out (bt HB26.out (bt HB28.out (bt HB29.out HB30.out)))) HAF.out.2.1
  have d8 := keepsB (bt HB25.out (bt HB26.out (bt HB28.out (bt HB29.out HB30.out)))) HAF.out.2.2
  clear hbx
  go_wp2_with fail
  clear cx1 d2 d5 d8
  refine (dayX_any _ _).mono ?_
  rintro e wd ⟨rfl, rfl⟩
  go_wp2_with fail
  have hdl : DL [[3]] (.slice (some ⟨w30.heap.size + 1, 0, none⟩) 1 1) ((w30.alloc (.cells #[.int .i64 3] 3)).alloc (.cells #[.slice (some ⟨w30.heap.size, 0, none⟩) 1 1] 58)) := by
    have h9 := dl_new (ds := [[3]]) (us := [.slice (some ⟨w30.heap.size, 0, none⟩) 1 1]) (t := 58) (w := (w30.alloc (.cells #[.int .i64 3] 3))) rfl (by simp [maxLen]) (fun k hk u hu => by
      have hk9 : k < 1 := hk
      rcases (show k = 0 by omega) with rfl
      · obtain rfl := Option.some.inj hu
        exact (show IL [3] (.slice (some ⟨w30.heap.size, 0, none⟩) 1 1) (w30.alloc (.cells #[.int .i64 3] 3)) from by have := il_one 3 3 w30; simpa using this)
      )
    simpa using h9
  have HDL := Lib.hid hdl
  clear hdl
  refine (daysX_any _ _).mono ?_
  rintro e wd ⟨rfl, rfl⟩
  go_wp2_with fail
  refine (sameD_any [[3]] v29 _ _ (HV29.out.keeps (bt HB30.out (bt (belAlloc _ _) (bt (belAlloc _ _) (Free.Bel.refl _))))) HDL.out).mono ?_
  rintro e w31 ⟨rfl, hB⟩
  have HB31 := Lib.hid (show Free.Bel w30 w31 from (bt (belAlloc _ _) (bt (belAlloc _ _) hB)))
  clear hB
  go_wp2_with fail
  go_ret
  exact ⟨rfl, (bt HB1.out (bt HB2.out (bt HB3.out (bt HB4.out (bt HB5.out (bt HB6.out (bt HB7.out (bt HB8.out (bt HB9.out (bt HB10.out (bt HB11.out (bt HB12.out (bt HB13.out (bt HB14.out (bt HB15.out (bt HB16.out (bt HB17.out (bt HB18.out (bt HB19.out (bt HB20.out (bt HB21.out (bt HB22.out (bt HB23.out (bt HB24.out (bt HB25.out (bt HB26.out (bt HB28.out (bt HB29.out (bt HB30.out HB31.out)))))))))))))))))))))))))))))⟩
end Go.Proofs.YtknpglgpkkhhiaaDoor

/- ready, of chapter 07's laws. -/
namespace Go.Proofs.YtknpglgpkkhhiaaDoor
set_option linter.unusedSimpArgs false
set_option linter.unusedVariables false
open Go.RowKit Go.Proofs.YtknpglgpkkhhiaaDoor.Free2 Go.Proofs.YtknpglgpkkhhiaaDoor.ML RR

set_option maxRecDepth 100000 in
set_option maxHeartbeats 8000000 in
theorem ready_v (h : Int) (xs : List Rk) (u : Value) (w : World) (hu : RL xs u w) (r : Bool) (hr : Hid (watchB h xs = r)) :
    Calls Tryd.prog 56 #[.agg #[.int .i64 h, u]] w fun e w' => e = .returned (.bool r) ∧ Below w.heap.size w w' := by
  have HU := Lib.hid hu
  obtain ⟨p, cp, rfl, _, _⟩ := hu
  have KB : Free.Bel w (w.alloc (.cells #[.int .i64 h, .slice p xs.length cp] 24)) := belAlloc _ _
  have FA : ∀ W, Free.Bel (w.alloc (.cells #[.int .i64 h, .slice p xs.length cp] 24)) W → W.cell? ⟨w.heap.size, 0, none⟩ = some (.int .i64 h) ∧ W.cell? ⟨w.heap.size, 1, none⟩ = some (.slice p xs.length cp) := fun W hW => ⟨keepsB hW (by simp [go_sem]), keepsB hW (by simp [go_sem])⟩
  have KE : Free.Bel (w.alloc (.cells #[.int .i64 h, .slice p xs.length cp] 24)) (w.alloc (.cells #[.int .i64 h, .slice p xs.length cp] 24)) := Free.Bel.refl _
  have HGR := Lib.hid (great_any h xs.length cp p (w.alloc (.cells #[.int .i64 h, .slice p xs.length cp] 24)))
  by_cases h10 : xs.length ≤ 10
  · have g0 : decide (10 < (xs.length : Int)) = false := decide_eq_false (by omega)
    rw [g0] at HGR
    clear g0
    go_enter Tryd.func56, Tryd.ntmps56
    go_wp2_with fail
    refine HGR.out.mono ?_
    rintro e w1 ⟨rfl, hB1⟩
    have K1 : Free.Bel (w.alloc (.cells #[.int .i64 h, .slice p xs.length cp] 24)) w1 := hB1
    clear hB1
    go_wp2_with fail
    refine (watchR_v h xs _ w1 (HU.out.keeps (bt KB K1)) r hr).mono ?_
    rintro e w2 ⟨rfl, hB2⟩
    go_wp2_with fail
    go_ret
    exact ⟨rfl, bt KB (bt K1 hB2)⟩
  · have g0 : decide (10 < (xs.length : Int)) = true := decide_eq_true (by omega)
    rw [g0] at HGR
    obtain rfl : r = false := by
      cases r with
      | false => rfl
      | true => have := (watchB_iff.1 hr.out).2.1; omega
    clear g0
    go_enter Tryd.func56, Tryd.ntmps56
    go_wp2_with fail
    refine HGR.out.mono ?_
    rintro e w1 ⟨rfl, hB1⟩
    go_wp2_with fail
    go_ret
    exact ⟨rfl, bt KB hB1⟩
end Go.Proofs.YtknpglgpkkhhiaaDoor

/- The table of what a watch is asked: what the row's list gives; a start that meets it. -/
namespace Go.Proofs.YtknpglgpkkhhiaaDoor.Tab
open Go Go.ChangeShapes Go.WideShapes Go.ChangeAt Go.RowKit

abbrev laid {H : Type} : List (String × DataW H) := [("oilcake/round.checks", Rows.laid_oilcake_round_checks)]
theorem own : ownKnob Tryd.prog.godebug = none := by kernel_rfl
theorem laidOut : laidOutB Tryd.prog = true := by kernel_rfl
theorem gTab : Tryd.prog.globalNamed "oilcake/round.checks" = some 0 := by kernel_rfl
theorem tTab : (Tryd.prog.globals[0]?).map (·.type) = some 121 := by kernel_rfl
theorem c118 : Tryd.prog.cellsOf 121 = 3 := by kernel_rfl
theorem c117 : Tryd.prog.cellsOf 120 = 1 := by kernel_rfl
theorem c116 : Tryd.prog.cellsOf 26 = 1 := by kernel_rfl

/-- The door's own heap meets the condition. -/
theorem door_met (os : Os) (args : Array Value) : laidMetH Tryd.prog laid ((World.doorLaid Tryd.prog 17 os).forCall (fun _ _ => 0) ⟨#[], args, []⟩).memory :=
  laidMetH_of_parts3 (fuel := 8) (laidMet_of_run' 8 (by kernel_rfl) (by kernel_rfl)) (by kernel_rfl) (by kernel_rfl)

theorem one {W : World} {n : Nat} {c : Value} {y : DataW (List UInt8) × List MemPlace} {b : UInt8} {r : List UInt8} {f0 : FuncId} (hy : y.1 = .agg [.held (b :: r)])
    (hone : ((List.range Tryd.prog.funcs.size).filter fun f => (Tryd.prog.funcs[f]?).any (·.name.toUTF8.data.toList == b :: r)) = [f0])
    (h : DataW.trod (funcToken Tryd.prog) Tryd.prog W 0 (fun _ => true) true n 120 [c] = some y) : c = .func (.func f0) #[] #[] := by
  obtain ⟨y0, m, rfl, _, h0⟩ := trod_struct1 Tryd.underlying120 h
  simp only [c116, List.drop_zero, List.take_one, List.head?_cons, Option.toList_some] at h0
  simp at hy
  obtain ⟨z, q⟩ := y0
  simp only at hy
  subst hy
  exact func_of_trod Tryd.underlying26 hone (by simpa using h0)

theorem of_laid {W : World} (h : laidMetH Tryd.prog laid W) : TabR W := by
  obtain ⟨g, t, cs, fuel, p, hg, ht, hv, hd⟩ := h.funcs (List.mem_singleton.2 rfl)
  obtain rfl := Option.some.inj (gTab.symm.trans hg)
  obtain rfl := Option.some.inj (tTab.symm.trans ht)
  have hd' : DataW.trod (funcToken Tryd.prog) Tryd.prog W 0 (fun _ => true) true fuel 121 cs.toList = some (.agg [.agg [.held [111, 105, 108, 99, 97, 107, 101, 47, 114, 111, 117, 110, 100, 46, 99, 104, 101, 99, 107, 115, 36, 49]], .agg [.held [111, 105, 108, 99, 97, 107, 101, 47, 114, 111, 117, 110, 100, 46, 99, 104, 101, 99, 107, 115, 36, 50]], .agg [.held [111, 105, 108, 99, 97, 107, 101, 47, 114, 111, 117, 110, 100, 46, 99, 104, 101, 99, 107, 115, 36, 51]]], p) := hd
  have hl : cs.size = 3 := by
    obtain ⟨_, _, _, _, hl, _, _⟩ := DataW.trod_array Tryd.underlying121 hd'
    simpa [c118] using hl
  obtain ⟨c0, c1, c2, rfl⟩ := Joins.array3 hl
  obtain ⟨y0, y1, y2, n, hx, h0, h1, h2⟩ := trod_array3 Tryd.underlying121 c117 hd'
  simp only [Prod.mk.injEq, DataW.agg.injEq, List.cons.injEq, and_true] at hx
  obtain ⟨⟨e0, e1, e2⟩, _⟩ := hx
  have f0 := one (f0 := 135) e0.symm (by kernel_rfl) h0
  have f1 := one (f0 := 136) e1.symm (by kernel_rfl) h1
  have f2 := one (f0 := 137) e2.symm (by kernel_rfl) h2
  subst f0 f1 f2
  exact ⟨World.var?_cell hg hv 0, World.var?_cell hg hv 1, World.var?_cell hg hv 2⟩
end Go.Proofs.YtknpglgpkkhhiaaDoor.Tab

/- A watch made by a call in a region that draws its order, and kept in a box made there too. -/
namespace Go.Proofs.YtknpglgpkkhhiaaDoor
set_option linter.unusedSimpArgs false
set_option linter.unusedVariables false
open Go.RowKit Go.Proofs.YtknpglgpkkhhiaaDoor.Free2 Go.Proofs.YtknpglgpkkhhiaaDoor.ML RR

/-- Blocks below n0 stay, and later ones but cells of one type. -/
structure RQt (t : TypeId) (n0 : Nat) (a b : World) : Prop where
  below : Below n0 a b
  other : ∀ (k : Nat) (o : Obj), a.heap[k]? = some o → (∀ c f, o ≠ .cells c t f) → b.heap[k]? = some o
section
variable {a b c : World} {n0 : Nat} {t : TypeId}
theorem RQt.refl (t : TypeId) (n0 : Nat) (a : World) : RQt t n0 a a := ⟨Below.refl _ _, fun _ _ h _ => h⟩
theorem RQt.trans (h : RQt t n0 a b) (k : RQt t n0 b c) : RQt t n0 a c := ⟨h.below.trans k.below, fun i o h1 h2 => k.other i o (h.other i o h1 h2) h2⟩
theorem RQt.of_bel (h : Free.Bel a b) (hn : n0 ≤ a.heap.size) : RQt t n0 a b := ⟨h.mono hn, fun k o h1 _ => (h.block k (lt_of_heap h1)).trans h1⟩
theorem RQt.set {g o : Nat} {v : Value} {cs : Array Value} {f : Nat × Nat} (hg : n0 ≤ g) (hq : a.heap[g]? = some (.cells cs t f)) : RQt t n0 a (a.setCell ⟨g, o, none⟩ v) :=
  ⟨(Below.refl _ a).setCell (by simpa using hg) v, fun k p h1 h2 => by
    have hne : k ≠ g := by
      rintro rfl
      rw [hq] at h1
      cases h1
      exact h2 _ _ rfl
    exact (Below.heap_setCell _ _ _ _ (by simpa using hne)).trans h1⟩
theorem RQt.row {base : Nat} {e : TypeId} {size n : Nat} {v : Value} {xs : List Value} (h : RQt t n0 a b) (ht : e ≠ t) (ho : a.ownsRow base e size v n xs) : b.ownsRow base e size v n xs :=
  own_typed ho fun k c f hk => h.other k _ hk fun c' f' e' => by cases e'; exact ht rfl
end
/-- Operation al makes a box of two cells, operation st stores in it what operation ex gave. -/
structure JK (t : TypeId) (s0 ex al st : Nat) (X : XT) (W : World) : Prop where
  ord : X st ≠ none → X ex ≠ none ∧ X al ≠ none
  size : s0 ≤ W.heap.size
  new : ∀ v, X al = some v → ∃ b, v = .pointer (some ⟨b, 0, none⟩) ∧ s0 ≤ b ∧ (X st = none → ∃ x y, W.heap[b]? = some (.cells #[x, y] t (0, 0))) ∧ (X st ≠ none → ∃ x y, X ex = some (.agg #[x, y]) ∧ W.heap[b]? = some (.cells #[x, y] t (0, 0)))
section
variable {t : TypeId} {s0 ex al st : Nat} {X : XT} {W W' : World}
theorem JK.start (hs : s0 ≤ W.heap.size) : JK t s0 ex al st (fun _ => none) W := ⟨fun h => absurd rfl h, hs, fun v h => (by cases h)⟩
theorem JK.bel (H : JK t s0 ex al st X W) (hB : Free.Bel W W') : JK t s0 ex al st X W' :=
  ⟨H.ord, Nat.le_trans H.size hB.size, fun v hv => by
    obtain ⟨b, h1, h2, h3, h4⟩ := H.new v hv
    exact ⟨b, h1, h2, fun h => let ⟨x, y, h5⟩ := h3 h; ⟨x, y, (hB.block _ (lt_of_heap h5)).trans h5⟩, fun h => let ⟨x, y, h5, h6⟩ := h4 h; ⟨x, y, h5, (hB.block _ (lt_of_heap h6)).trans h6⟩⟩⟩
theorem JK.skip (H : JK t s0 ex al st X W) (n : Nat) (v : Value) (h1 : n ≠ al) (h2 : n ≠ st) (h3 : n = ex → X ex = none) : JK t s0 ex al st (upd X n v) W := by
  have e1 := upd_other X v (Ne.symm h1)
  have e2 := upd_other X v (Ne.symm h2)
  refine ⟨fun h => ?_, H.size, fun u hu => ?_⟩
  · rw [e2] at h
    refine ⟨?_, by rw [e1]; exact (H.ord h).2⟩
    by_cases e : n = ex
    · subst e; rw [upd_same]; simp
    · rw [upd_other _ _ (Ne.symm e)]; exact (H.ord h).1
  · rw [e1] at hu
    obtain ⟨b, a1, a2, a3, a4⟩ := H.new u hu
    refine ⟨b, a1, a2, fun h => a3 (by rwa [e2] at h), fun h => ?_⟩
    rw [e2] at h
    by_cases e : n = ex
    · exact absurd (h3 e) (H.ord h).1
    · rw [upd_other _ _ (Ne.symm e)]; exact a4 h
theorem JK.made (H : JK t s0 ex al st X W) (hst : X al = none) {b : Nat} {x y : Value} (hB : Free.Bel W W') (hb : s0 ≤ b) (hh : W'.heap[b]? = some (.cells #[x, y] t (0, 0))) (hne : al ≠ st) : JK t s0 ex al st (upd X al (.pointer (some ⟨b, 0, none⟩))) W' := by
  have hs : X st = none := by
    cases h : X st with
    | none => rfl
    | some v => exact absurd hst (H.ord (by rw [h]; simp)).2
  have e2 := upd_other X (.pointer (some ⟨b, 0, none⟩)) (Ne.symm hne)
  refine ⟨fun h => absurd hs (by rwa [e2] at h), Nat.le_trans H.size hB.size, fun u hu => ?_⟩
  rw [upd_same] at hu
  cases hu
  exact ⟨b, rfl, hb, fun _ => ⟨x, y, hh⟩, fun h => absurd hs (by rwa [e2] at h)⟩
theorem JK.put (H : JK t s0 ex al st X W) (hst : X st = none) {b : Nat} {x y v : Value} (hal : X al = some (.pointer (some ⟨b, 0, none⟩))) (hex : X ex = some (.agg #[x, y])) (n1 : al ≠ st) (n2 : ex ≠ st) : JK t s0 ex al st (upd X st v) ((W.setCell ⟨b, 0, none⟩ x).setCell ⟨b, 1, none⟩ y) := by
  have e1 := upd_other X v n1
  have e2 := upd_other X v n2
  refine ⟨fun _ => ⟨by rw [e2, hex]; simp, by rw [e1, hal]; simp⟩, by simpa using H.size, fun u hu => ?_⟩
  rw [e1, hal] at hu
  cases hu
  obtain ⟨b', h1, h2, h3, _⟩ := H.new _ hal
  cases h1
  obtain ⟨x0, y0, h5⟩ := h3 hst
  refine ⟨b, rfl, h2, fun h => (by rw [upd_same] at h; cases h), fun _ => ⟨x, y, by rw [e2]; exact hex, ?_⟩⟩
  have h6 := heap_setCell_same (o := 1) y (heap_setCell_same (o := 0) x h5)
  simpa using h6
end
end Go.Proofs.YtknpglgpkkhhiaaDoor

/- Days on which nothing is turned. -/
namespace Go.Proofs.YtknpglgpkkhhiaaDoor
set_option linter.unusedSimpArgs false
set_option linter.unusedVariables false

end Go.Proofs.YtknpglgpkkhhiaaDoor

/- The fewest hands and the moistest cake: plain law. -/
namespace Go.Proofs.YtknpglgpkkhhiaaDoor
set_option linter.unusedSimpArgs false
set_option linter.unusedVariables false

theorem moist_get (xs : List Rk) (i : Nat) (n : Int) (j : Nat) (hj : j < xs.length) : (moistR xs i n)[j]? = some (if i = j then (xs[j].1, n, xs[j].2.2) else xs[j]) := by
  rw [moistR, List.getElem?_set]
  by_cases e : i = j
  · subst e
    simp [hj]
  · simp [e, hj]
theorem dom_moist (xs : List Rk) (i : Nat) {n m : Int} (hnm : n ≤ m) : Dom (moistR xs i n) (moistR xs i m) := by
  intro y hy
  obtain ⟨j, hj⟩ := List.mem_iff_getElem?.1 hy
  have hj' : j < xs.length := by
    have := (List.getElem?_eq_some_iff.1 hj).1
    simpa [moistR] using this
  rw [moist_get xs i m j hj'] at hj
  refine ⟨_, List.mem_iff_getElem?.2 ⟨j, moist_get xs i n j hj'⟩, ?_⟩
  rw [← Option.some.inj hj]
  split <;> simp [hnm]
end Go.Proofs.YtknpglgpkkhhiaaDoor

/- The index of a rick of a valid watch. -/
namespace Go.Proofs.YtknpglgpkkhhiaaDoor
set_option linter.unusedSimpArgs false
set_option linter.unusedVariables false

theorem watch_pair {h : Int} {xs : List Rk} (hw : watchB h xs = true) : (xs.map (·.1)).Pairwise (· < ·) := rises_pairG (watchB_iff.1 hw).2.2
/-- The rick with this index is the first one with its Id. -/
theorem rick_at {h : Int} {xs : List Rk} (hw : watchB h xs = true) {i : Nat} (hi : i < xs.length) : RickIs xs xs[i].1 i := by
  refine .inr ⟨i, hi, rfl, rfl, fun j hj => ?_⟩
  have := List.pairwise_iff_getElem.1 (watch_pair hw) j i (by rw [List.length_map]; omega) (by simpa using hi) hj
  simp only [List.getElem_map] at this
  omega
end Go.Proofs.YtknpglgpkkhhiaaDoor

/- The reference's Drop. -/
namespace Go.Proofs.YtknpglgpkkhhiaaDoor
set_option linter.unusedSimpArgs false
set_option linter.unusedVariables false
open Go.RowKit Go.Proofs.YtknpglgpkkhhiaaDoor.Free2

/-- A slice's length is not above its room. -/
def Cap (v : Value) : Prop := ∀ p n c, v = .slice p n c → n ≤ c
theorem Cap.row {base : Nat} {e : TypeId} {size : Nat} {v : Value} {n : Nat} {xs : List Value} {w : World} (h : w.ownsRow base e size v n xs) : Cap v := by
  intro p m c he
  rcases h.2 with ⟨rfl, _⟩ | ⟨g, cap, cur, rfl, _, _, hn, _⟩
  · cases he; exact Nat.le_refl _
  · cases he; exact hn
set_option maxRecDepth 100000 in
theorem sizeRick (W : World) : (Go.sizeOf 47).run Tryd.prog W = .ok 3 W := by kernel_rfl
set_option maxRecDepth 100000 in
/-- The first k, and those from k on. -/
theorem slice_head (p : Option Addr) (n cp k : Nat) (h : k ≤ cp) (W : World) : (Instr.slice 22 (.slice p n cp) none (some (.int .i64 (k : Int))) none).run Tryd.prog W = .ok (.slice p k cp) W := by
  rw [run_slice_h W 22 p n cp Tryd.underlying22 .i64 k (by omega) (by omega)]
  have he : Tryd.prog.elem 22 = 47 := by kernel_rfl
  rw [he, sizeRick]
  cases p with
  | none => simp [Result.andThen, sliced]
  | some a => simp [Result.andThen, sliced, Addr.add]
def tailP (p : Option Addr) (cp k : Nat) : Option Addr := if cp = k then p else p.map (·.add (k * 3))
set_option maxRecDepth 100000 in
theorem slice_tail (p : Option Addr) (n cp k : Nat) (h : k ≤ n) (W : World) : (Instr.slice 22 (.slice p n cp) (some (.int .i64 (k : Int))) none none).run Tryd.prog W = .ok (.slice (tailP p cp k) (n - k) (cp - k)) W := by
  rw [run_slice_l W 22 p n cp Tryd.underlying22 .i64 k (by omega) (by omega)]
  have he : Tryd.prog.elem 22 = 47 := by kernel_rfl
  rw [he, sizeRick]
  simp [Result.andThen, sliced, tailP]

def dropE (h : Int) (xs : List Rk) (r : Int) : Int := if watchB h xs = false then 70 else if r < 0 then 6 else 0
def dropH (h : Int) (xs : List Rk) (r : Int) : Int := if dropE h xs r = 0 then h else 0
def dropL (h : Int) (xs : List Rk) (r : Int) : List Rk := if dropE h xs r = 0 then xs.take r.toNat ++ xs.drop (r.toNat + 1) else []
theorem tailP_some (a : Addr) (cp k : Nat) : tailP (some a) cp k ≠ none := by
  unfold tailP; split <;> simp
theorem cells_part {xs : List Rk} {b off : Nat} {W : World} (h : ∀ k (hk : k < xs.length), W.cell? ⟨b, off + k * 3, none⟩ = some (.int .i64 xs[k].1) ∧ W.cell? ⟨b, off + k * 3 + 1, none⟩ = some (.int .i64 xs[k].2.1) ∧ W.cell? ⟨b, off + k * 3 + 2, none⟩ = some (.int .i64 xs[k].2.2)) (k : Nat) (hk : k ≤ xs.length) :
    (∀ j u, (cellsR (xs.take k))[j]? = some u → W.cell? ((⟨b, off, none⟩ : Addr).add j) = some u) ∧ (∀ j u, (cellsR (xs.drop k))[j]? = some u → W.cell? ((⟨b, off + k * 3, none⟩ : Addr).add j) = some u) := by
  refine ⟨cellsR_news fun i hi => ?_, cellsR_news fun i hi => ?_⟩
  · simp only [List.length_take] at hi
    have := h i (by omega)
    simpa using this
  · simp only [List.length_drop] at hi
    have := h (k + i) (by omega)
    rw [show off + k * 3 + i * 3 = off + (k + i) * 3 by omega]
    simpa using this

end Go.Proofs.YtknpglgpkkhhiaaDoor

/- slices.SortStableFunc at a few ricks. -/
namespace Go.Proofs
open Go.Shelf Go.RowKit Go.Lib Go.Sort
def Tryd.layIns_ren : Go.Shelf.Ren := ⟨fun | 20 => 113 | n => n, fun | 22 => 22 | 24 => 47 | 25 => 133 | 3 => 3 | 4 => 4 | 0 => 0 | n => n, fun | n => n⟩
theorem Tryd.layIns : Go.Proofs.SlLaysF0.n20 Tryd.prog Tryd.layIns_ren := {
  mixed := by kernel_rfl
  f20 := ⟨Tryd.f113.name, by decide, Tryd.func113.trans (congrArg some (by kernel_rfl))⟩
  t0 := Tryd.underlying0
  a0 := Tryd.isAgg0
  z0 := Tryd.sizeOf0
  v0 := Tryd.zeroValue0
  t3 := Tryd.underlying3
  a3 := Tryd.isAgg3
  z3 := Tryd.sizeOf3
  v3 := Tryd.zeroValue3
  t4 := Tryd.underlying4
  a4 := Tryd.isAgg4
  z4 := Tryd.sizeOf4
  v4 := Tryd.zeroValue4
  t22 := Tryd.underlying22
  a22 := Tryd.isAgg22
  z22 := Tryd.sizeOf22
  v22 := Tryd.zeroValue22
  t25 := Tryd.underlying133
  a25 := Tryd.isAgg133
  z25 := Tryd.sizeOf133
  v25 := Tryd.zeroValue133 }
end Go.Proofs
namespace Go.Proofs.YtknpglgpkkhhiaaDoor
set_option linter.unusedSimpArgs false
set_option linter.unusedVariables false
open Go.Shelf Go.RowKit Go.Lib Go.Sort Go.Proofs.YtknpglgpkkhhiaaDoor.Free2

/-- A rick's cells. -/
def enc3 (x : Rk) : List Value := [.int .i64 x.1, .int .i64 x.2.1, .int .i64 x.2.2]
def cfR (x y : Rk) : Int := Lib.compareInt x.1 y.1
theorem flat3 (ys : List Rk) : flatK enc3 3 ys.toArray = (cellsR ys).toArray := by
  refine ext_get! (by simp [cellsR_length]) fun t ht => ?_
  have hl : t < ys.length * 3 := by simpa using ht
  rw [get_flatK _ _ _ t (by simpa using hl)]
  have hq : t / 3 < ys.length := by omega
  obtain ⟨c1, c2, c3⟩ := cellsR_get ys (t / 3) hq
  have hg : ys.toArray[t / 3]! = ys[t / 3] := by simp [hq]
  rw [hg]
  have hr : t % 3 = 0 ∨ t % 3 = 1 ∨ t % 3 = 2 := by omega
  have key : ∀ (v : Value), (cellsR ys)[t]? = some v → (cellsR ys).toArray[t]! = v := by
    intro v hv
    obtain ⟨h1, h2⟩ := List.getElem?_eq_some_iff.1 hv
    simp [h1, h2]
  rcases hr with hr | hr | hr
  · rw [hr, key (.int .i64 ys[t / 3].1) (by rw [← c1]; congr 1; omega)]; rfl
  · rw [hr, key (.int .i64 ys[t / 3].2.1) (by rw [← c2]; congr 1; omega)]; rfl
  · rw [hr, key (.int .i64 ys[t / 3].2.2) (by rw [← c3]; congr 1; omega)]; rfl
theorem holds3 {base g n cap : Nat} {ys : List Rk} {w : World} (h : w.ownsRow base 47 3 (.slice (some ⟨g, 0, none⟩) n cap) n (cellsR ys)) (hn : ys.length = n) : HoldsK enc3 3 w g 0 ys.toArray := by
  intro j hj
  rw [flat3] at hj ⊢
  have hj2 : j < (cellsR ys).length := by simpa using hj
  have hl := cellsR_length ys
  rw [Nat.zero_add]
  refine ⟨?_, h.frozenAt j⟩
  rw [h.cellAt j (by omega)]
  simp [hj2]
/-- What a sort leaves. -/
theorem row_sorted {base g n cap m : Nat} {ys : List Rk} {d : Array Rk} {os : Array Obj} {w : World} (h : w.ownsRow base 47 3 (.slice (some ⟨g, 0, none⟩) n cap) n (cellsR ys)) (hn : ys.length = n) (hd : d.size = n) :
    (sortWorldK enc3 3 w g 0 m d os).ownsRow base 47 3 (.slice (some ⟨g, 0, none⟩) n cap) n (cellsR d.toList) ∧ (∀ k, k < w.heap.size → k ≠ g → (sortWorldK enc3 3 w g 0 m d os).heap[k]? = w.heap[k]?) ∧ w.heap.size ≤ (sortWorldK enc3 3 w g 0 m d os).heap.size := by
  have hK := holdsK_sortWorldK_c enc3 3 w g 0 ys.toArray d m os (holds3 h hn)
  rcases h.2 with ⟨h', _⟩ | ⟨g', cap', cur, h', hb, hg, hnc, hcm, hcs, htake⟩
  · cases h'
  · simp only [Value.slice.injEq, Option.some.injEq, Addr.mk.injEq, and_true, true_and] at h'
    obtain ⟨rfl, rfl⟩ := h'
    have hglt := lt_of_heap hg
    have hheap : ∀ k, k < w.heap.size → (sortWorldK enc3 3 w g 0 m d os).heap[k]? = (putRowK enc3 3 (Sort.ahead w m) g 0 d).heap[k]? := by
      intro k hk
      show (Array.append _ os)[k]? = _
      exact Array.getElem?_append_left (by show k < (putRowK enc3 3 (Sort.ahead w m) g 0 d).heap.size; unfold putRowK; rw [size_putRow]; exact hk)
    have hmod : ∀ k, (putRowK enc3 3 (Sort.ahead w m) g 0 d).heap[k]? = if g = k then (w.heap[k]?).map (onCells (putCells id 0 (flatK enc3 3 d))) else w.heap[k]? := by
      intro k
      show (w.heap.modify g _)[k]? = _
      rw [Array.getElem?_modify]
    have hgb : (sortWorldK enc3 3 w g 0 m d os).heap[g]? = some (.cells (putCells id 0 (flatK enc3 3 d) cur) 47 (0, 0)) := by
      rw [hheap g hglt, hmod g, if_pos rfl, hg]; rfl
    refine ⟨⟨by rw [cellsR_length, Array.length_toList, hd], .inr ⟨g, cap, _, rfl, hb, hgb, hnc, hcm, by simpa [putCells] using hcs, ?_⟩⟩, fun k hk hkg => by rw [hheap k hk, hmod k, if_neg (Ne.symm hkg)], ?_⟩
    · have hf : flatK enc3 3 d = (cellsR d.toList).toArray := by have := flat3 d.toList; simpa using this
      have hl : (cellsR d.toList).length = n * 3 := by rw [cellsR_length, Array.length_toList, hd]
      have hle : n * 3 ≤ cur.size := by rw [hcs]; exact Nat.mul_le_mul_right 3 hnc
      refine List.ext_getElem? fun j => ?_
      rw [List.getElem?_take]
      by_cases hj : j < n * 3
      · rw [if_pos hj, hf]
        simp only [putCells, Array.getElem?_toList, Array.getElem?_mapIdx]
        have hjc : j < cur.size := by omega
        have hj2 : j < (cellsR d.toList).length := by omega
        simp [hjc, hj2]
      · rw [if_neg hj, List.getElem?_eq_none (by omega)]
    · show w.heap.size ≤ (Array.append _ os).size
      have : w.heap.size = (putRowK enc3 3 (Sort.ahead w m) g 0 d).heap.size := by unfold putRowK; rw [size_putRow]; rfl
      rw [this]
      show _ ≤ ((putRowK enc3 3 (Sort.ahead w m) g 0 d).heap ++ os).size
      simp

set_option maxRecDepth 100000 in
set_option maxHeartbeats 1000000 in
theorem closure84 (x y : Rk) (W : World) : Calls Tryd.prog 84 #[.agg (enc3 x).toArray, .agg (enc3 y).toArray] W fun e w' => e = .returned (.int .i64 (cfR x y)) ∧ ∃ q os', w' = grow (W.drewN q) os' := by
  obtain ⟨x1, x2, x3⟩ := x
  obtain ⟨y1, y2, y3⟩ := y
  have hcon := fun W' => Tryd.cmp_Compare_int x1 y1 W'
  have hr : cfR (x1, x2, x3) (y1, y2, y3) = Lib.compareInt x1 y1 := rfl
  rw [hr]
  show Calls Tryd.prog 84 #[.agg #[.int .i64 x1, .int .i64 x2, .int .i64 x3], .agg #[.int .i64 y1, .int .i64 y2, .int .i64 y3]] W _
  clear hr
  generalize Lib.compareInt x1 y1 = r at hcon ⊢
  go_enter Tryd.func84, Tryd.ntmps84
  go_wp2_with fail
  refine (hcon _).mono ?_
  rintro e w' ⟨rfl, rfl⟩
  go_wp2_with fail
  go_ret
  exact ⟨rfl, 0, _, by rw [alloc_eq_grow, alloc_eq_grow, grow_grow]; rfl⟩
theorem cmpLays84 (blk off size : Nat) (w : World) : CmpLays Tryd.prog 84 #[] enc3 3 cfR blk off size w := fun _ _ _ _ x y => closure84 x y _

/-- A few ascending ricks, and one behind them: sorted. -/
theorem cfR_lt (x y : Rk) : ltOf cfR x y = decide (x.1 < y.1) := by
  unfold ltOf cfR Lib.compareInt
  by_cases h : x.1 < y.1
  · simp [h]
  · by_cases h2 : y.1 < x.1 <;> simp [h, h2]
theorem sorted3 {xs : List Rk} (hs : (xs.map (·.1)).Pairwise (· < ·)) (hl : xs.length ≤ 3) (x : Rk) : (Sort.insertionSort (ltOf cfR) (xs ++ [x]).toArray 0 (xs.length + 1)).toList = insP x xs ∧ (Sort.insertionSort (ltOf cfR) (xs ++ [x]).toArray 0 (xs.length + 1)).size = xs.length + 1 := by
  match xs, hs, hl with
  | [], _, _ => 
    simp [Sort.insertionSort, insP]
    unfold Sort.insOuter
    simp
  | [a], hs, _ =>
    simp [Sort.insertionSort, insP]
    unfold Sort.insOuter
    unfold Sort.insOuter
    by_cases h1 : x.1 < a.1 <;> simp [Sort.insInner, cfR_lt, h1, swp]
  | [a, b], hs, _ =>
    have hab : ¬ b.1 < a.1 := by simp at hs; omega
    simp [Sort.insertionSort, insP]
    unfold Sort.insOuter
    unfold Sort.insOuter
    unfold Sort.insOuter
    have hab2 : a.1 < b.1 := by simp at hs; omega
    by_cases h2 : x.1 < b.1
    · by_cases h1 : x.1 < a.1 <;> simp [Sort.insInner, cfR_lt, h1, h2, hab, swp]
    · have h1 : ¬ x.1 < a.1 := by omega
      simp [Sort.insInner, cfR_lt, h1, h2, hab, swp]
  | [a, b, c], hs, _ =>
    have hab : ¬ b.1 < a.1 := by simp at hs; omega
    have hbc : ¬ c.1 < b.1 := by simp at hs; omega
    have hab2 : a.1 < b.1 := by simp at hs; omega
    have hbc2 : b.1 < c.1 := by simp at hs; omega
    simp [Sort.insertionSort, insP]
    unfold Sort.insOuter
    unfold Sort.insOuter
    unfold Sort.insOuter
    unfold Sort.insOuter
    by_cases h3 : x.1 < c.1
    · by_cases h2 : x.1 < b.1
      · by_cases h1 : x.1 < a.1 <;> simp [Sort.insInner, cfR_lt, h1, h2, h3, hab, hbc, swp]
      · have h1 : ¬ x.1 < a.1 := by omega
        simp [Sort.insInner, cfR_lt, h1, h2, h3, hab, hbc, swp]
    · have h2 : ¬ x.1 < b.1 := by omega
      have h1 : ¬ x.1 < a.1 := by omega
      simp [Sort.insInner, cfR_lt, h1, h2, h3, hab, hbc, swp]

set_option maxRecDepth 100000 in
set_option maxHeartbeats 2000000 in
theorem stable_any (g cap : Nat) (d : Array Rk) (w : World) (hH : HoldsK enc3 3 w g 0 d) (hg : g < w.heap.size) (hn : d.size < 20) :
    Calls Tryd.prog 103 #[.slice (some ⟨g, 0, none⟩) d.size cap, .int .i64 d.size, .func (.func 84) #[] #[]] w fun e w' => e = .returned (.tuple #[]) ∧ ∃ n os, w' = sortWorldK enc3 3 w g 0 n (Sort.insertionSort (ltOf cfR) d 0 d.size) os := by
  have eg : ∀ args w, (callFunc 84 args).run Tryd.prog w = .ok (.enter 84 args) w := enters_of Tryd.func84 (by kernel_rfl) rfl
  have hsz : ∀ W : World, (Go.sizeOf 47).run Tryd.prog W = .ok 3 W := fun W => by kernel_rfl
  have hag : ∀ W : World, (isAgg 47).run Tryd.prog W = .ok true W := fun W => by kernel_rfl
  have hcon := AnyQ.insertionSortCmpFunc Tryd.layIns 3 hag hsz enc3 (fun _ => rfl) (fun x v hv => by simp [enc3] at hv; rcases hv with rfl | rfl | rfl <;> rfl) cfR 84 #[] g 0 cap 0 d.size d w eg (cmpLays84 g 0 d.size w) hH hg (Nat.zero_le _) (Nat.le_refl _) (by omega)
  change Calls Tryd.prog 113 _ _ _ at hcon
  have HCON := Lib.hid hcon
  clear hH hcon eg hsz hag
  generalize Sort.insertionSort (ltOf cfR) d 0 d.size = r at HCON ⊢
  have g0 : decide ((20 : Int) ≤ (d.size : Int)) = false := decide_eq_false (by omega)
  have g1 : decide ((20 : Int) < (d.size : Int)) = false := decide_eq_false (by omega)
  have g2 : ¬ (20 ≤ d.size) := by omega
  have g3 : ¬ (20 < d.size) := by omega
  go_enter Tryd.func103, Tryd.ntmps103
  go_wp2_with fail
  go_loopw [7, 8] (fun a b wr => a = .int .i64 0 ∧ b = .int .i64 20 ∧ wr = w) (fun _ _ _ => 0)
  case atStart => exact ⟨rfl, rfl, rfl⟩
  case round =>
    obtain ⟨rfl, rfl, rfl⟩ := hrel
    go_wp2_with fail
    refine HCON.out.mono ?_
    rintro e w1 ⟨rfl, m, os, rfl⟩
    have HX : Hid (∃ m2 os2, sortWorldK enc3 3 wr g 0 m r os = sortWorldK enc3 3 wr g 0 m2 r os2) := ⟨m, os, rfl⟩
    generalize sortWorldK enc3 3 wr g 0 m r os = w1 at *
    go_wp2_with fail
    go_loopw [6] (fun a wr2 => a = .int .i64 20 ∧ wr2 = w1) (fun _ _ => 0)
    case atStart => exact ⟨rfl, rfl⟩
    case round =>
      obtain ⟨rfl, rfl⟩ := hrel
      go_wp2_with fail
      go_end0
      exact ⟨rfl, HX.out⟩

set_option maxRecDepth 100000 in
set_option maxHeartbeats 2000000 in
theorem sortStable_any (g cap : Nat) (d : Array Rk) (w : World) (hH : HoldsK enc3 3 w g 0 d) (hg : g < w.heap.size) (hn : d.size < 20) :
    Calls Tryd.prog 83 #[.slice (some ⟨g, 0, none⟩) d.size cap, .func (.func 84) #[] #[]] w fun e w' => e = .returned (.tuple #[]) ∧ ∃ n os, w' = sortWorldK enc3 3 w g 0 n (Sort.insertionSort (ltOf cfR) d 0 d.size) os := by
  have HCON := Lib.hid (stable_any g cap d w hH hg hn)
  clear hH
  generalize Sort.insertionSort (ltOf cfR) d 0 d.size = r at HCON ⊢
  go_enter Tryd.func83, Tryd.ntmps83
  go_wp2_with fail
  refine HCON.out.mono ?_
  rintro e w1 ⟨rfl, hw⟩
  have HW := Lib.hid hw
  clear hw
  go_wp2_with fail
  go_end0
  exact ⟨rfl, HW.out⟩
end Go.Proofs.YtknpglgpkkhhiaaDoor

/- The program's Put. -/
namespace Go.Proofs.YtknpglgpkkhhiaaDoor
set_option linter.unusedSimpArgs false
set_option linter.unusedVariables false
open Go.RowKit Go.Proofs.YtknpglgpkkhhiaaDoor.Free2

def putE (h : Int) (xs : List Rk) (x : Rk) : Int := if watchB h xs = false then 70 else if xs.length = 4 then 9 else if watchB h (insR x xs) = true then 0 else 71
def putH (h : Int) (xs : List Rk) (x : Rk) : Int := if putE h xs x = 0 then h else 0
def putL (h : Int) (xs : List Rk) (x : Rk) : List Rk := if putE h xs x = 0 then insR x xs else []
theorem ord_skip {X : XT} (h : X 7 ≠ none → X 1 ≠ none) (n : Nat) (v : Value) (hn : n ≠ 7) : upd X n v 7 ≠ none → upd X n v 1 ≠ none := by
  intro h7
  rw [upd_other _ _ hn.symm] at h7
  by_cases e : n = 1
  · subst e; rw [upd_same]; simp
  · rw [upd_other _ _ (Ne.symm e)]; exact h h7
theorem insP_length (x : Rk) (xs : List Rk) : (insP x xs).length = xs.length + 1 := by rw [(insP_perm x xs).length_eq]; rfl
theorem rises_pair : ∀ {xs : List Rk} {l : Int}, risesB l xs = true → (xs.map (·.1)).Pairwise (· < ·)
  | [], _, _ => .nil
  | y :: r, l, h => by
    have h' := h
    simp only [risesB, Bool.and_eq_true] at h'
    rw [List.map_cons, List.pairwise_cons]
    refine ⟨fun a ha => ?_, rises_pair h'.2.2.2⟩
    obtain ⟨z, hz, rfl⟩ := List.mem_map.1 ha
    exact (risesB_nodup h'.2.2.2).1 z hz
/-- The rick that was put stands where its number is found. -/
theorem put_found {h : Int} {xs : List Rk} {x : Rk} (hw : watchB h (insP x xs) = true) {r : Int} (hr : RickIs (insP x xs) x.1 r) : ∃ k : Nat, ∃ hk : k < (insP x xs).length, r = k ∧ (insP x xs)[k] = x := by
  have hm : x ∈ insP x xs := (insP_perm x xs).mem_iff.2 (by simp)
  rcases hr with ⟨_, h9⟩ | ⟨k, hk, h8, h7, _⟩
  · exact absurd rfl (h9 x hm)
  · refine ⟨k, hk, h8, ?_⟩
    obtain ⟨j, hj, hjx⟩ := List.mem_iff_getElem.1 hm
    have hnd := (risesB_nodup (watchB_iff.1 hw).2.2).2
    have he : j = k := by
      rw [List.nodup_iff_pairwise_ne, List.pairwise_iff_getElem] at hnd
      rcases Nat.lt_trichotomy j k with h1 | h1 | h1
      · have := hnd j k (by simpa using hj) (by simpa using hk) h1
        simp [hjx, h7] at this
      · exact h1
      · have := hnd k j (by simpa using hk) (by simpa using hj) h1
        simp [hjx, h7] at this
    subst he
    exact hjx

set_option maxRecDepth 100000 in
set_option maxHeartbeats 16000000 in
theorem putP_v (h x1 x2 x3 : Int) (xs : List Rk) (u : Value) (w : World) (hT : TabR w) (hu : RL xs u w) (hz : NZ u) (E Hh : Int) (hE : Hid (putE h xs (x1, x2, x3) = E)) (hHh : Hid (putH h xs (x1, x2, x3) = Hh)) :
    Calls Tryd.prog 43 #[.agg #[.int .i64 h, u], .agg #[.int .i64 x1, .int .i64 x2, .int .i64 x3]] w fun e w' => (∃ v, e = .returned (.tuple #[.agg #[.int .i64 Hh, v], .int .i64 E]) ∧ w'.ownsRow w.heap.size 47 3 v (putL h xs (x1, x2, x3)).length (cellsR (putL h xs (x1, x2, x3)))) ∧ Below w.heap.size w w' := by
  have HU := Lib.hid hu
  obtain ⟨p, cp, rfl, hm, _⟩ := hu
  have HNZ := Lib.hid hz
  have HTAB := Lib.hid hT
  obtain ⟨i0, hi0, hz0, hz1, hz2⟩ := info_parts T.infoRick
  have HZ := Lib.hid (And.intro hi0 (And.intro hz0 (And.intro hz1 hz2)))
  clear hi0 hz0 hz1 hz2 hz hT
  have KB : Free.Bel w (((w.alloc (.cells #[.int .i64 h, .slice p xs.length cp] 24)).alloc (.cells #[.int .i64 x1, .int .i64 x2, .int .i64 x3] 47)).alloc (.cells #[.int .i64 0, .slice none 0 0] 24)) := Bel.allocT (Bel.allocT (Bel.allocT (Free.Bel.refl _) _) _) _
  have m0 : (((w.alloc (.cells #[.int .i64 h, .slice p xs.length cp] 24)).alloc (.cells #[.int .i64 x1, .int .i64 x2, .int .i64 x3] 47)).alloc (.cells #[.int .i64 0, .slice none 0 0] 24)).heap[w.heap.size]? = some (.cells #[.int .i64 h, .slice p xs.length cp] 24 (0, 0)) := heap_old (heap_old (World.alloc_heap_new w _))
  have m2 : (((w.alloc (.cells #[.int .i64 h, .slice p xs.length cp] 24)).alloc (.cells #[.int .i64 x1, .int .i64 x2, .int .i64 x3] 47)).alloc (.cells #[.int .i64 0, .slice none 0 0] 24)).heap[w.heap.size + 1]? = some (.cells #[.int .i64 x1, .int .i64 x2, .int .i64 x3] 47 (0, 0)) := heap_old (by
    have := World.alloc_heap_new (w.alloc (.cells #[.int .i64 h, .slice p xs.length cp] 24)) (.cells #[.int .i64 x1, .int .i64 x2, .int .i64 x3] 47)
    simpa using this)
  have m1 : (((w.alloc (.cells #[.int .i64 h, .slice p xs.length cp] 24)).alloc (.cells #[.int .i64 x1, .int .i64 x2, .int .i64 x3] 47)).alloc (.cells #[.int .i64 0, .slice none 0 0] 24)).heap[w.heap.size + 1 + 1]? = some (.cells #[.int .i64 0, .slice none 0 0] 24 (0, 0)) := by
    have := World.alloc_heap_new ((w.alloc (.cells #[.int .i64 h, .slice p xs.length cp] 24)).alloc (.cells #[.int .i64 x1, .int .i64 x2, .int .i64 x3] 47)) (.cells #[.int .i64 0, .slice none 0 0] 24)
    simpa using this
  have FA : ∀ W, Free.Bel (((w.alloc (.cells #[.int .i64 h, .slice p xs.length cp] 24)).alloc (.cells #[.int .i64 x1, .int .i64 x2, .int .i64 x3] 47)).alloc (.cells #[.int .i64 0, .slice none 0 0] 24)) W → W.cell? ⟨w.heap.size, 0, none⟩ = some (.int .i64 h) ∧ W.cell? ⟨w.heap.size, 1, none⟩ = some (.slice p xs.length cp) ∧ W.cell? ⟨w.heap.size + 1, 0, none⟩ = some (.int .i64 x1) ∧ W.cell? ⟨w.heap.size + 1, 1, none⟩ = some (.int .i64 x2) ∧ W.cell? ⟨w.heap.size + 1, 2, none⟩ = some (.int .i64 x3) ∧ W.cell? ⟨w.heap.size + 1 + 1, 0, none⟩ = some (.int .i64 0) ∧ W.cell? ⟨w.heap.size + 1 + 1, 1, none⟩ = some (.slice none 0 0) ∧ W.frozen? ⟨w.heap.size + 1 + 1, 0, none⟩ = false ∧ W.frozen? ⟨w.heap.size + 1 + 1, 1, none⟩ = false := fun W hW => ⟨keepsB hW (cell_of_heap m0 rfl), keepsB hW (cell_of_heap m0 rfl), keepsB hW (cell_of_heap m2 rfl), keepsB hW (cell_of_heap m2 rfl), keepsB hW (cell_of_heap m2 rfl), keepsB hW (cell_of_heap m1 rfl), keepsB hW (cell_of_heap m1 rfl), frozB hW (cell_of_heap (o := 0) m1 rfl) (frozen_of_heap m1), frozB hW (cell_of_heap (o := 1) m1 rfl) (frozen_of_heap m1)⟩
  have HRZ : Hid (∀ W, Free.Bel (((w.alloc (.cells #[.int .i64 h, .slice p xs.length cp] 24)).alloc (.cells #[.int .i64 x1, .int .i64 x2, .int .i64 x3] 47)).alloc (.cells #[.int .i64 0, .slice none 0 0] 24)) W → W.heap[w.heap.size]? = some (.cells #[.int .i64 h, .slice p xs.length cp] 24 (0, 0)) ∧ W.heap[w.heap.size + 1]? = some (.cells #[.int .i64 x1, .int .i64 x2, .int .i64 x3] 47 (0, 0)) ∧ W.heap[w.heap.size + 1 + 1]? = some (.cells #[.int .i64 0, .slice none 0 0] 24 (0, 0))) := fun W hW => ⟨(hW.block _ (lt_of_heap m0)).trans m0, (hW.block _ (lt_of_heap m2)).trans m2, (hW.block _ (lt_of_heap m1)).trans m1⟩
  have KE : Free.Bel (((w.alloc (.cells #[.int .i64 h, .slice p xs.length cp] 24)).alloc (.cells #[.int .i64 x1, .int .i64 x2, .int .i64 x3] 47)).alloc (.cells #[.int .i64 0, .slice none 0 0] 24)) (((w.alloc (.cells #[.int .i64 h, .slice p xs.length cp] 24)).alloc (.cells #[.int .i64 x1, .int .i64 x2, .int .i64 x3] 47)).alloc (.cells #[.int .i64 0, .slice none 0 0] 24)) := Free.Bel.refl _
  clear m0 m1 m2
  cases hw : watchB h xs
  · have HC := Lib.hid (checkP_v h xs _ (((w.alloc (.cells #[.int .i64 h, .slice p xs.length cp] 24)).alloc (.cells #[.int .i64 x1, .int .i64 x2, .int .i64 x3] 47)).alloc (.cells #[.int .i64 0, .slice none 0 0] 24)) (HTAB.out.bel KB) (HU.out.keeps KB) 70 (by show _ = _; simp [hw]))
    have hE1 : putE h xs (x1, x2, x3) = 70 := by simp [putE, hw]
    obtain rfl : E = 70 := hE.out.symm.trans hE1
    obtain rfl : Hh = 0 := hHh.out.symm.trans (by rw [putH, hE1]; rfl)
    have HL : Hid (putL h xs (x1, x2, x3) = []) := by show _ = _; rw [putL, hE1]; rfl
    clear hw hE1
    go_enter Tryd.func43, Tryd.ntmps43
    go_wp2_with fail
    refine HC.out.mono ?_
    rintro e w1 ⟨rfl, hB1⟩
    have K1 : Free.Bel (((w.alloc (.cells #[.int .i64 h, .slice p xs.length cp] 24)).alloc (.cells #[.int .i64 x1, .int .i64 x2, .int .i64 x3] 47)).alloc (.cells #[.int .i64 0, .slice none 0 0] 24)) w1 := hB1
    clear hB1 KE
    go_wp2_with fail
    have hrz := (HRZ.out _ K1).2.2
    have hst := two_stores (.int .i64 0) (.slice none 0 0) (cell_of_heap (o := 0) hrz rfl) (cell_of_heap (o := 1) hrz rfl)
    exact bodyPost_ret (v := .tuple #[.agg #[.int .i64 0, .slice none 0 0], .int .i64 70]) (by simp [results, Tryd.results43, go_sem, hst]) rfl ⟨⟨_, rfl, by rw [HL.out]; simpa [cellsR] using World.ownsRow_nil _ _ _ _⟩, ((bt KB K1).setCell (by simp; omega) _).setCell (by simp; omega) _⟩
  · have HC := Lib.hid (checkP_v h xs _ (((w.alloc (.cells #[.int .i64 h, .slice p xs.length cp] 24)).alloc (.cells #[.int .i64 x1, .int .i64 x2, .int .i64 x3] 47)).alloc (.cells #[.int .i64 0, .slice none 0 0] 24)) (HTAB.out.bel KB) (HU.out.keeps KB) 0 (by show _ = _; simp [hw]))
    have HW := Lib.hid hw
    have hx4 := (watchB_iff.1 hw).2.1
    clear hw
    go_enter Tryd.func43, Tryd.ntmps43
    go_wp2_with fail
    refine HC.out.mono ?_
    rintro e w1 ⟨rfl, hB1⟩
    have K1 : Free.Bel (((w.alloc (.cells #[.int .i64 h, .slice p xs.length cp] 24)).alloc (.cells #[.int .i64 x1, .int .i64 x2, .int .i64 x3] 47)).alloc (.cells #[.int .i64 0, .slice none 0 0] 24)) w1 := hB1
    clear hB1 KE
    by_cases h4 : xs.length = 4
    · have hE1 : putE h xs (x1, x2, x3) = 9 := by rw [putE, if_neg (by rw [HW.out]; simp), if_pos h4]
      obtain rfl : E = 9 := hE.out.symm.trans hE1
      obtain rfl : Hh = 0 := hHh.out.symm.trans (by rw [putH, hE1]; rfl)
      have HL : Hid (putL h xs (x1, x2, x3) = []) := by show _ = _; rw [putL, hE1]; rfl
      have g0 : ((xs.length : Int) == 4) = true := by simp; omega
      have H4 := Lib.hid h4
      clear hE1 h4 hx4
      go_wp2_with fail
      have hrz := (HRZ.out _ K1).2.2
      have hst := two_stores (.int .i64 0) (.slice none 0 0) (cell_of_heap (o := 0) hrz rfl) (cell_of_heap (o := 1) hrz rfl)
      exact bodyPost_ret (v := .tuple #[.agg #[.int .i64 0, .slice none 0 0], .int .i64 9]) (by simp [results, Tryd.results43, go_sem, hst]) rfl ⟨⟨_, rfl, by rw [HL.out]; simpa [cellsR] using World.ownsRow_nil _ _ _ _⟩, ((bt KB K1).setCell (by simp; omega) _).setCell (by simp; omega) _⟩
    · have g0 : ((xs.length : Int) == 4) = false := by simp; omega
      have hE1 : putE h xs (x1, x2, x3) = if watchB h (insR (x1, x2, x3) xs) = true then 0 else 71 := by rw [putE, if_neg (by rw [HW.out]; simp), if_neg h4]
      have HE1 := Lib.hid hE1
      have hs1 : w.heap.size + 1 + 1 + 1 ≤ w1.heap.size := by have := K1.size; simp at this; omega
      have H3 : Hid (xs.length ≤ 3) := by show _ ≤ _; omega
      clear hE1
      go_wp2_with fail
      have hF : ∀ W, RZ w1.heap.size w.heap.size w1.drew W → (W.cell? ⟨w.heap.size + 1, 0, none⟩ = some (.int .i64 x1) ∧ W.cell? ⟨w.heap.size + 1, 1, none⟩ = some (.int .i64 x2) ∧ W.cell? ⟨w.heap.size + 1, 2, none⟩ = some (.int .i64 x3)) ∧ Below w.heap.size w W := fun W hW => by
        obtain ⟨_, _, z0, z1, z2, _⟩ := FA w1 K1
        exact ⟨⟨hW.cell (show w1.drew.cell? _ = _ from z0) (by simp; omega) (by simp), hW.cell (show w1.drew.cell? _ = _ from z1) (by simp; omega) (by simp), hW.cell (show w1.drew.cell? _ = _ from z2) (by simp; omega) (by simp)⟩, RZ.below ((bt KB K1).drew) hW (by omega) (Nat.le_refl _)⟩
      have hrz2 : w1.drew.heap[w.heap.size]? = some (.cells #[.int .i64 h, .slice p xs.length cp] 24 (0, 0)) := (show w1.heap[w.heap.size]? = _ from (HRZ.out w1 K1).1)
      refine Free2.wp_free (R := RZ w1.heap.size w.heap.size) (J := (fun X w9 => JS w1.heap.size 47 3 [⟨2, 5, xs.length, cellsR xs⟩, ⟨4, 5, 1, cellsR [(x1, x2, x3)]⟩, ⟨5, 1000, xs.length + 1, cellsR (xs ++ [(x1, x2, x3)])⟩] 5 999 7 w.heap.size id (.cells #[.int .i64 h, .slice p xs.length cp] 24 (0, 0)) (fun u => .cells #[.int .i64 h, u] 24 (0, 0)) X w9 ∧ (X 7 ≠ none → X 1 ≠ none))) (by kernel_rfl) (by kernel_rfl) (RZ.refl _ _) RZ.trans ⟨JS.start (Nat.le_refl _) (by omega) hrz2, fun h => absurd rfl h⟩ ?_
      refine Free2.Chain.ex ?_ 0 rfl [] [2] (by kernel_rfl) (by kernel_rfl) rfl (RZ.refl _ _) (fun X W v h => ⟨JS.skip h.1 0 v (by simp) (by simp) (by simp) (by simp), ord_skip h.2 0 v (by simp)⟩) ?_ ?_
      rotate_left
      · (intro ev W hb hR hO hD; have hS := hF W hR; obtain ⟨hS, hS2⟩ := hS; obtain ⟨hb1, hb2, hb3⟩ := hb; simp only [Free.AllDeps, Free.AllOuts, Free.At, al1, al2, al3, al4, al5, and_true] at hO hD; go_simp; rfl)
      simp only [an1, an2]
      refine Free2.Chain.pr (fun v _ => v = .slice p xs.length cp) 1 rfl [(0, 18)] [] (by kernel_rfl) (by kernel_rfl) rfl (fun _ _ _ _ h => h) ?_ ?_
      · (intro ev W X hb hR hO hD hj hx hax; have hS := hF W hR; obtain ⟨hb1, hb2, hb3⟩ := hb; simp only [Free.AllDeps, Free.AllOuts, Free.At, al1, al2, al3, al4, al5, and_true] at hO hD; simp only [Free2.AllX, and_true] at hax; obtain ⟨hS, hS2⟩ := hS; have h7 : X 7 = none := (by cases h9 : X 7; rfl; exact absurd hx (hj.2 (by rw [h9]; simp))); have hq1 := cell_of_heap (o := 1) (hj.1.st0 h7) rfl; go_simp; exact ⟨RZ.refl _ _ _, rfl, ⟨JS.skip hj.1 1 _ (by simp) (by simp) (by simp) (by simp), ord_skip hj.2 1 _ (by simp)⟩⟩)
      simp only [an1, an2]
      refine Free2.Chain.pr (fun v _ => True) 2 rfl [(1, 19)] [] (by kernel_rfl) (by kernel_rfl) rfl (fun _ _ _ _ h => h) ?_ ?_
      · (intro ev W X hb hR hO hD hj hx hax; have hS := hF W hR; obtain ⟨hb1, hb2, hb3⟩ := hb; simp only [Free.AllDeps, Free.AllOuts, Free.At, al1, al2, al3, al4, al5, and_true] at hO hD; simp only [Free2.AllX, and_true] at hax; obtain ⟨hS, hS2⟩ := hS; go_simp; refine yields_enter ?_; (with_reducible refine (clone_any xs _ W (HU.out.keeps hS2) HNZ.out (by omega)).mono ?_); rintro e W2 ⟨v2, rfl, ho2, hB2⟩; exact ⟨_, rfl, RZ.of_bel hB2 hj.1.jr.size, JS.new hj.1 ⟨2, 5, xs.length, cellsR xs⟩ (by simp) (by simp) (by simp) (by simp) (by simp) hB2 ho2, ord_skip hj.2 2 _ (by simp)⟩)
      simp only [an1, an2]
      refine Free2.Chain.ex ?_ 3 rfl [] [3] (by kernel_rfl) (by kernel_rfl) rfl (RZ.refl _ _) (fun X W v h => ⟨JS.skip h.1 3 v (by simp) (by simp) (by simp) (by simp), ord_skip h.2 3 v (by simp)⟩) ?_ ?_
      rotate_left
      · (intro ev W hb hR hO hD; have hS := hF W hR; obtain ⟨hS, hS2⟩ := hS; obtain ⟨hb1, hb2, hb3⟩ := hb; simp only [Free.AllDeps, Free.AllOuts, Free.At, al1, al2, al3, al4, al5, and_true] at hO hD; go_simp; rfl)
      simp only [an1, an2]
      refine Free2.Chain.pr (fun v _ => True) 4 rfl [(3, 21)] [] (by kernel_rfl) (by kernel_rfl) rfl (fun _ _ _ _ h => h) ?_ ?_
      · (intro ev W X hb hR hO hD hj hx hax; have hS := hF W hR; obtain ⟨hb1, hb2, hb3⟩ := hb; simp only [Free.AllDeps, Free.AllOuts, Free.At, al1, al2, al3, al4, al5, and_true] at hO hD; simp only [Free2.AllX, and_true] at hax; obtain ⟨hS, hS2⟩ := hS; go_simp; exact ⟨RZ.of_bel (belAlloc _ _) hj.1.jr.size, JS.new hj.1 ⟨4, 5, 1, cellsR [(x1, x2, x3)]⟩ (by simp) (by simp) (by simp) (by simp) (by simp) (belAlloc _ _) (World.ownsRow_lit W #[.int .i64 x1, .int .i64 x2, .int .i64 x3] 1 (Nat.le_refl _) (by unfold maxLen; omega) rfl), ord_skip hj.2 4 _ (by simp)⟩)
      simp only [an1, an2]
      refine Free2.Chain.pr (fun v _ => True) 5 rfl [(2, 20), (4, 22), (2, 20)] [] (by kernel_rfl) (by kernel_rfl) rfl (fun _ _ _ _ h => h) ?_ ?_
      · (intro ev W X hb hR hO hD hj hx hax; have hS := hF W hR; obtain ⟨hb1, hb2, hb3⟩ := hb; simp only [Free.AllDeps, Free.AllOuts, Free.At, al1, al2, al3, al4, al5, and_true] at hO hD; simp only [Free2.AllX, and_true] at hax; obtain ⟨hS, hS2⟩ := hS; have ha1 := hax.1; have hr1 := hj.1.jr.row ⟨2, 5, xs.length, cellsR xs⟩ (by simp) hx _ ha1; have hr2 := hj.1.jr.row ⟨4, 5, 1, cellsR [(x1, x2, x3)]⟩ (by simp) hx _ hax.2.1; obtain ⟨p8, c8, e8⟩ := row_slice hr2; simp only at e8 hr1 hr2; have hs8 : ∀ ad, p8 = some ad → ∀ j u, (cellsR [(x1, x2, x3)])[j]? = some u → W.cell? (ad.add j) = some u := (fun ad he j u hju => by obtain ⟨g, cap, cur, h9, hb9, hg9, _⟩ := hr2.2.resolve_left (fun h => absurd h.2 (by decide)); rw [e8] at h9; simp only [Value.slice.injEq] at h9; rw [e8, h9.1] at hr2; rw [h9.1] at he; cases he; exact hr2.cells (g := g) (by simp [Value.ownBlock]) j u hju); refine yields_append_row W _ (.tmp 20) (.tmp 22) 22 rfl w1.heap.size 47 i0 (.agg #[.int .i64 0, .int .i64 0, .int .i64 0]) 3 24 Tryd.underlying22 HZ.out.1 HZ.out.2.1 HZ.out.2.2.1 HZ.out.2.2.2 rfl (by decide) _ xs.length (cellsR xs) rfl hr1 p8 1 c8 (cellsR [(x1, x2, x3)]) e8 rfl hs8 (fun he => by obtain ⟨g, cap, cur, h9, _⟩ := hr2.2.resolve_left (fun h => absurd h.2 (by decide)); rw [e8, he] at h9; cases h9) (cellsR_one _) (by unfold maxLen; omega) (by omega) hj.1.jr.size ?_; intro v9 w9 ho9 hk9; have hbl := hk9.below hr1 hj.1.jr.size; exact ⟨RZ.of_below hbl, trivial, JS.take hj.1 ⟨2, 5, xs.length, cellsR xs⟩ ⟨5, 1000, xs.length + 1, cellsR (xs ++ [(x1, x2, x3)])⟩ (by simp) (by simp) rfl (by simp) (by simp) (by simp) (by simp) ha1 hx hk9 (by rw [cellsR_append]; exact ho9), ord_skip hj.2 5 _ (by simp)⟩)
      simp only [an1, an2]
      refine Free2.Chain.ex ?_ 6 rfl [(0, 18), (1, 19), (2, 20), (3, 21), (4, 22), (5, 23)] [2] (by kernel_rfl) (by kernel_rfl) rfl (RZ.refl _ _) (fun X W v h => ⟨JS.skip h.1 6 v (by simp) (by simp) (by simp) (by simp), ord_skip h.2 6 v (by simp)⟩) ?_ ?_
      rotate_left
      · (intro ev W hb hR hO hD; have hS := hF W hR; obtain ⟨hS, hS2⟩ := hS; obtain ⟨hb1, hb2, hb3⟩ := hb; simp only [Free.AllDeps, Free.AllOuts, Free.At, al1, al2, al3, al4, al5, and_true] at hO hD; go_simp; rfl)
      simp only [an1, an2]
      refine Free2.Chain.pr (fun v _ => True) 7 rfl [(6, 24), (5, 23), (5, 23), (0, 18), (1, 19), (2, 20), (3, 21), (4, 22), (5, 23)] [] (by kernel_rfl) (by kernel_rfl) rfl (fun _ _ _ _ h => h) ?_ ?_
      · (intro ev W X hb hR hO hD hj hx hax; have hS := hF W hR; obtain ⟨hb1, hb2, hb3⟩ := hb; simp only [Free.AllDeps, Free.AllOuts, Free.At, al1, al2, al3, al4, al5, and_true] at hO hD; simp only [Free2.AllX, and_true] at hax; obtain ⟨hS, hS2⟩ := hS; have hr5 := hj.1.jr.row ⟨5, 1000, xs.length + 1, cellsR (xs ++ [(x1, x2, x3)])⟩ (by simp) hj.1.jr.nv _ hax.2.1; obtain ⟨p8, c8, e8⟩ := row_slice hr5; simp only at e8; have hzz := hj.1.st0 hx; have q1 := cell_of_heap (o := 1) hzz rfl; have f1 := frozen_of_heap (o := 1) hzz; have hv5 := hax.2.1; rw [e8] at hv5; go_simp; have h9 := heap_setCell_same (o := 1) (.slice p8 (xs.length + 1) c8) hzz; exact ⟨RZ.set, JS.store hj.1 (by simp) (by simp) (by simp) (by simp) hv5 (by simp) (by simpa using h9) (fun q hq => heap_setCell_other hq), fun _ => by rw [upd_other _ _ (by simp)]; rw [hax.2.2.2.2.1]; simp⟩)
      simp only [an1, an2]
      intro ys w2 hR hV hX
      obtain ⟨X, hj, hxx⟩ := hX
      simp only [Free.AllV, Free.At, List.length_cons, List.length_nil, Nat.reduceAdd, List.getElem?_cons_succ, List.getElem?_cons_zero, true_and, and_true] at hV
      simp only [Free.putsFrom, Act.put, Nat.zero_add, Nat.reduceAdd, hV, List.setIfInBounds_toArray, List.set_cons_succ, List.set_cons_zero]
      have hx7 : X 7 = some (ys 7) := hxx 7 (by decide)
      obtain ⟨v5, hv5, hb5⟩ := hj.1.st1 (by rw [hx7]; simp)
      have hr5 := hj.1.jr.row ⟨5, 1000, xs.length + 1, cellsR (xs ++ [(x1, x2, x3)])⟩ (by simp) hj.1.jr.nv _ hv5
      simp only at hr5
      obtain ⟨g, cap, hvg, hgg⟩ : ∃ g cap, v5 = .slice (some ⟨g, 0, none⟩) (xs.length + 1) cap ∧ w1.heap.size ≤ g ∧ g < w2.heap.size := by
        rcases hr5.2 with ⟨_, h9⟩ | ⟨g, cap, cur, h9, hb9, hg9, _⟩
        · omega
        · exact ⟨g, cap, h9, hb9, lt_of_heap hg9⟩
      subst hvg
      have hBW := (hF w2 hR).2
      have hoth : ∀ k, k < w1.heap.size → k ≠ w.heap.size → w2.heap[k]? = w1.heap[k]? := fun k h1 h2 => hR.block k h1 h2
      have q1 := cell_of_heap (o := 1) hb5 rfl
      have hsize2 : w1.heap.size ≤ w2.heap.size := hR.size
      have hd5 : (xs ++ [(x1, x2, x3)]).toArray.size = xs.length + 1 := by simp
      have hso := sortStable_any g cap (xs ++ [(x1, x2, x3)]).toArray w2 (holds3 hr5 (by simp)) hgg.2 (by have := H3.out; omega)
      obtain ⟨hs3, hs4⟩ := sorted3 (rises_pair (watchB_iff.1 HW.out).2.2) H3.out (x1, x2, x3)
      rw [hd5] at hso
      have hsp : ∀ m os, (sortWorldK enc3 3 w2 g 0 m (Sort.insertionSort (ltOf cfR) (xs ++ [(x1, x2, x3)]).toArray 0 (xs.length + 1)) os).ownsRow w1.heap.size 47 3 (.slice (some ⟨g, 0, none⟩) (xs.length + 1) cap) (xs.length + 1) (cellsR (insP (x1, x2, x3) xs)) ∧ (∀ k, k < w2.heap.size → k ≠ g → (sortWorldK enc3 3 w2 g 0 m (Sort.insertionSort (ltOf cfR) (xs ++ [(x1, x2, x3)]).toArray 0 (xs.length + 1)) os).heap[k]? = w2.heap[k]?) ∧ w2.heap.size ≤ (sortWorldK enc3 3 w2 g 0 m (Sort.insertionSort (ltOf cfR) (xs ++ [(x1, x2, x3)]).toArray 0 (xs.length + 1)) os).heap.size := fun m os => by
        have := row_sorted (m := m) (os := os) (d := Sort.insertionSort (ltOf cfR) (xs ++ [(x1, x2, x3)]).toArray 0 (xs.length + 1)) hr5 (by simp) hs4
        rw [hs3] at this
        exact this
      have hos : ∀ m os, (sortWorldK enc3 3 w2 g 0 m (Sort.insertionSort (ltOf cfR) (xs ++ [(x1, x2, x3)]).toArray 0 (xs.length + 1)) os).os = w2.os ∧ (sortWorldK enc3 3 w2 g 0 m (Sort.insertionSort (ltOf cfR) (xs ++ [(x1, x2, x3)]).toArray 0 (xs.length + 1)) os).tape = w2.tape ∧ (sortWorldK enc3 3 w2 g 0 m (Sort.insertionSort (ltOf cfR) (xs ++ [(x1, x2, x3)]).toArray 0 (xs.length + 1)) os).output = w2.output := fun m os => ⟨rfl, rfl, rfl⟩
      have HSP := Lib.hid (And.intro hsp hos)
      have HB5 := Lib.hid hb5
      have HSO := Lib.hid hso
      have HBW := Lib.hid hBW
      have HOTH := Lib.hid hoth
      clear hR hV hF hj hxx hx7 hrz2 hr5 hso hs3 hs4 hsp hos hd5 hb5 hBW hoth hv5
      generalize Sort.insertionSort (ltOf cfR) (xs ++ [(x1, x2, x3)]).toArray 0 (xs.length + 1) = srt at *
      go_wp2_with fail
      refine HSO.out.mono ?_
      rintro e w3 ⟨rfl, m, os, hw3⟩
      have hrow3 := (HSP.out.1 m os).1
      have hblk3 := (HSP.out.1 m os).2.1
      have hsz3 := (HSP.out.1 m os).2.2
      have hos3 := HSP.out.2 m os
      rw [← hw3] at hrow3 hblk3 hsz3 hos3
      have hB3 : Below w.heap.size w w3 := ⟨hos3.1.trans HBW.out.os, hos3.2.1.trans HBW.out.tape, hos3.2.2.trans HBW.out.output, Nat.le_trans HBW.out.size hsz3, fun k hk => (hblk3 k (by omega) (by omega)).trans (HBW.out.block k hk)⟩
      have hb3 : w3.heap[w.heap.size]? = some (.cells #[.int .i64 h, .slice (some ⟨g, 0, none⟩) (xs.length + 1) cap] 24 (0, 0)) := (hblk3 _ (by omega) (by omega)).trans HB5.out
      have hx3 : w3.heap[w.heap.size + 1]? = some (.cells #[.int .i64 x1, .int .i64 x2, .int .i64 x3] 47 (0, 0)) := (hblk3 _ (by omega) (by omega)).trans ((HOTH.out _ (by omega) (by omega)).trans (HRZ.out w1 K1).2.1)
      have hrz3 : w3.heap[w.heap.size + 1 + 1]? = some (.cells #[.int .i64 0, .slice none 0 0] 24 (0, 0)) := (hblk3 _ (by omega) (by omega)).trans ((HOTH.out _ (by omega) (by omega)).trans (HRZ.out w1 K1).2.2)
      have hrl3 : RL (insP (x1, x2, x3) xs) (.slice (some ⟨g, 0, none⟩) (xs.length + 1) cap) w3 := RL.of_row (insP_length _ _) (by have := H3.out; unfold maxLen; omega) hrow3
      have HALL := Lib.hid (And.intro hB3 (And.intro hb3 (And.intro hx3 (And.intro hrz3 (And.intro hrow3 hrl3)))))
      have b0 := cell_of_heap (o := 0) hb3 rfl
      have b1 := cell_of_heap (o := 1) hb3 rfl
      have y0 := cell_of_heap (o := 0) hx3 rfl
      have y1 := cell_of_heap (o := 1) hx3 rfl
      have y2 := cell_of_heap (o := 2) hx3 rfl
      clear hw3 hrow3 hblk3 hsz3 hos3 hB3 hb3 hx3 hrz3 hrl3 HSP HSO HB5 HOTH HBW q1 FA
      obtain ⟨q, hq⟩ : ∃ q, watchB h (insP (x1, x2, x3) xs) = q := ⟨_, rfl⟩
      have hq2 : watchB h (insR (x1, x2, x3) xs) = q := by rw [← ins_watch.1]; exact hq
      have HQ := Lib.hid hq
      cases q
      · obtain rfl : E = 71 := hE.out.symm.trans (by rw [HE1.out, hq2]; rfl)
        have hE2 := hE.out
        obtain rfl : Hh = 0 := hHh.out.symm.trans (by rw [putH, hE2]; rfl)
        have HL : Hid (putL h xs (x1, x2, x3) = []) := by show _ = _; rw [putL, hE2]; rfl
        have HCK := Lib.hid (fun W (hW : Free.Bel w3 W) => checkP_v h (insP (x1, x2, x3) xs) _ W (HTAB.out.bel (show Free.Bel w W from HALL.out.1.trans (hW.mono HALL.out.1.size))) (HALL.out.2.2.2.2.2.keeps hW) 70 (by show _ = _; simp [HQ.out]))
        clear hq hq2 hE2
        go_wp2_with fail
        have hF : ∀ W, Free.Bel w3.drew W → (W.cell? ⟨w.heap.size, 0, none⟩ = some (.int .i64 h) ∧ W.cell? ⟨w.heap.size, 1, none⟩ = some (.slice (some ⟨g, 0, none⟩) (xs.length + 1) cap) ∧ W.cell? ⟨w.heap.size + 1, 0, none⟩ = some (.int .i64 x1) ∧ W.cell? ⟨w.heap.size + 1, 1, none⟩ = some (.int .i64 x2) ∧ W.cell? ⟨w.heap.size + 1, 2, none⟩ = some (.int .i64 x3)) ∧ Free.Bel w3 W := fun W hW => ⟨⟨keepsB (Free.Bel.first hW) b0, keepsB (Free.Bel.first hW) b1, keepsB (Free.Bel.first hW) y0, keepsB (Free.Bel.first hW) y1, keepsB (Free.Bel.first hW) y2⟩, Free.Bel.first hW⟩
        refine Free.wp_free (R := Free.Bel) (by kernel_rfl) (by kernel_rfl) Free.Bel.refl Free.Bel.trans ?_
        refine Free.Chain.ex ?_ [] [2] (by kernel_rfl) (by kernel_rfl) rfl Free.Bel.refl ?_ ?_
        rotate_left 2
        simp only [an1, an2]
        rotate_left
        rotate_left
        · (intro ev W hb hR hO hD; have hS := hF W hR; obtain ⟨hS, hS2⟩ := hS; obtain ⟨hb1, hb2, hb3⟩ := hb; simp only [Free.AllDeps, Free.AllOuts, Free.At, al1, al2, al3, al4, al5, and_true] at hO hD; go_simp; rfl)
        refine Free.Chain.pr (fun v _ => v = .int .i64 70) [(0, 28)] [] (by kernel_rfl) (by kernel_rfl) rfl (fun _ _ _ _ h => h) ?_ ?_
        · (intro ev W hb hR hO hD; have hS := hF W hR; obtain ⟨hS, hS2⟩ := hS; obtain ⟨hb1, hb2, hb3⟩ := hb; simp only [Free.AllDeps, Free.AllOuts, Free.At, al1, al2, al3, al4, al5, and_true] at hO hD; go_simp; refine yields_enter ?_; (with_reducible refine (HCK.out W hS2).mono ?_); rintro e W2 ⟨rfl, hB2⟩; exact ⟨_, rfl, hB2, rfl⟩)
        simp only [an1, an2]
        refine Free.Chain.ex ?_ [(1, 29)] [] (by kernel_rfl) (by kernel_rfl) rfl Free.Bel.refl ?_ ?_
        rotate_left 2
        simp only [an1, an2]
        refine Free.Chain.ex ?_ [(2, 30), (1, 29)] [] (by kernel_rfl) (by kernel_rfl) rfl Free.Bel.refl ?_ ?_
        rotate_left 2
        simp only [an1, an2]
        rotate_left
        iterate 2 (rotate_left; intro ev W hb hR hO hD; have hS := hF W hR; obtain ⟨hS, hS2⟩ := hS; obtain ⟨hb1, hb2, hb3⟩ := hb; simp only [Free.AllDeps, Free.AllOuts, Free.At, al1, al2, al3, al4, al5, and_true] at hO hD; go_simp; rfl)
        refine Free.Chain.no [(3, 31)] [2] 3 false 31 (by kernel_rfl) (by kernel_rfl) rfl (by kernel_rfl) ?_ ?_
        · (intro ev W hR hD; simp only [Free.AllDeps, Free.At, List.getElem?_cons_succ, List.getElem?_cons_zero, and_true] at hD; simp [hD])
        simp only [an1, an2]
        refine Free.Chain.no [(4, 32), (3, 31)] [] 3 false 31 (by kernel_rfl) (by kernel_rfl) rfl (by kernel_rfl) ?_ ?_
        · (intro ev W hR hD; simp only [Free.AllDeps, Free.At, List.getElem?_cons_succ, List.getElem?_cons_zero, and_true] at hD; simp [hD])
        simp only [an1, an2]
        refine Free.Chain.no [(3, 31)] [2] 3 false 31 (by kernel_rfl) (by kernel_rfl) rfl (by kernel_rfl) ?_ ?_
        · (intro ev W hR hD; simp only [Free.AllDeps, Free.At, List.getElem?_cons_succ, List.getElem?_cons_zero, and_true] at hD; simp [hD])
        simp only [an1, an2]
        refine Free.Chain.no [(3, 31)] [3] 3 false 31 (by kernel_rfl) (by kernel_rfl) rfl (by kernel_rfl) ?_ ?_
        · (intro ev W hR hD; simp only [Free.AllDeps, Free.At, List.getElem?_cons_succ, List.getElem?_cons_zero, and_true] at hD; simp [hD])
        simp only [an1, an2]
        refine Free.Chain.no [(7, 35), (3, 31)] [] 3 false 31 (by kernel_rfl) (by kernel_rfl) rfl (by kernel_rfl) ?_ ?_
        · (intro ev W hR hD; simp only [Free.AllDeps, Free.At, List.getElem?_cons_succ, List.getElem?_cons_zero, and_true] at hD; simp [hD])
        simp only [an1, an2]
        refine Free.Chain.no [(6, 34), (8, 36), (3, 31), (3, 31)] [] 3 false 31 (by kernel_rfl) (by kernel_rfl) rfl (by kernel_rfl) ?_ ?_
        · (intro ev W hR hD; simp only [Free.AllDeps, Free.At, List.getElem?_cons_succ, List.getElem?_cons_zero, and_true] at hD; simp [hD])
        simp only [an1, an2]
        refine Free.Chain.no [(5, 33), (9, 37), (3, 31)] [] 3 false 31 (by kernel_rfl) (by kernel_rfl) rfl (by kernel_rfl) ?_ ?_
        · (intro ev W hR hD; simp only [Free.AllDeps, Free.At, List.getElem?_cons_succ, List.getElem?_cons_zero, and_true] at hD; simp [hD])
        simp only [an1, an2]
        refine Free.Chain.no [(10, 38), (3, 31)] [] 3 false 31 (by kernel_rfl) (by kernel_rfl) rfl (by kernel_rfl) ?_ ?_
        · (intro ev W hR hD; simp only [Free.AllDeps, Free.At, List.getElem?_cons_succ, List.getElem?_cons_zero, and_true] at hD; simp [hD])
        simp only [an1, an2]
        refine Free.Chain.no [(3, 31)] [3] 3 false 31 (by kernel_rfl) (by kernel_rfl) rfl (by kernel_rfl) ?_ ?_
        · (intro ev W hR hD; simp only [Free.AllDeps, Free.At, List.getElem?_cons_succ, List.getElem?_cons_zero, and_true] at hD; simp [hD])
        simp only [an1, an2]
        refine Free.Chain.no [(11, 39), (12, 40), (3, 31)] [] 3 false 31 (by kernel_rfl) (by kernel_rfl) rfl (by kernel_rfl) ?_ ?_
        · (intro ev W hR hD; simp only [Free.AllDeps, Free.At, List.getElem?_cons_succ, List.getElem?_cons_zero, and_true] at hD; simp [hD])
        simp only [an1, an2]
        refine Free.Chain.ex ?_ [(3, 31), (13, 41)] [] (by kernel_rfl) (by kernel_rfl) rfl Free.Bel.refl ?_ ?_
        rotate_left 2
        simp only [an1, an2]
        rotate_left
        rotate_left
        · (intro ev W hb hR hO hD; have hS := hF W hR; obtain ⟨hS, hS2⟩ := hS; obtain ⟨hb1, hb2, hb3⟩ := hb; simp only [Free.AllDeps, Free.AllOuts, Free.At, al1, al2, al3, al4, al5, and_true] at hO hD; go_simp; rfl)
        intro zs w' hR hV
        simp only [Free.AllV, Free.At, List.length_cons, List.length_nil, Nat.reduceAdd, List.getElem?_cons_succ, List.getElem?_cons_zero, true_and] at hV
        simp only [Free.putsFrom, Act.put, Nat.zero_add, Nat.reduceAdd, hV, List.setIfInBounds_toArray, List.set_cons_succ, List.set_cons_zero]
        have K9 := (hF w' hR).2
        clear hR hV hF b0 b1 y0 y1 y2
        have hrz9 := (K9.block _ (lt_of_heap HALL.out.2.2.2.1)).trans HALL.out.2.2.2.1
        have z0 := cell_of_heap (o := 0) hrz9 rfl
        have z1 := cell_of_heap (o := 1) hrz9 rfl
        have z2 := frozen_of_heap (o := 0) hrz9
        have z3 := frozen_of_heap (o := 1) hrz9
        have HBE := Lib.hid (HALL.out.1.trans (K9.mono HALL.out.1.size))
        clear hrz9 K9
        go_wp2_with fail
        have hst := two_stores (.int .i64 0) (.slice none 0 0) z0 z1
        exact bodyPost_ret (v := .tuple #[.agg #[.int .i64 0, .slice none 0 0], .int .i64 71]) (by simp [results, Tryd.results43, go_sem, hst]) rfl ⟨⟨_, rfl, by rw [HL.out]; simpa [cellsR] using World.ownsRow_nil _ _ _ _⟩, (HBE.out.setCell (by simp; omega) _).setCell (by simp; omega) _⟩
      · obtain rfl : E = 0 := hE.out.symm.trans (by rw [HE1.out, hq2]; rfl)
        have hE2 := hE.out
        obtain rfl : Hh = h := hHh.out.symm.trans (by rw [putH, hE2]; rfl)
        have HL : Hid (putL Hh xs (x1, x2, x3) = insP (x1, x2, x3) xs) := by show _ = _; rw [putL, hE2, if_pos rfl, ins_watch.2 hq]
        have HCK := Lib.hid (fun W (hW : Free.Bel w3 W) => checkP_v Hh (insP (x1, x2, x3) xs) _ W (HTAB.out.bel (show Free.Bel w W from HALL.out.1.trans (hW.mono HALL.out.1.size))) (HALL.out.2.2.2.2.2.keeps hW) 0 (by show _ = _; simp [HQ.out]))
        obtain ⟨r, hr⟩ := RickIs.some (insP (x1, x2, x3) xs) x1
        obtain ⟨k, hk, hrk, hkx⟩ := put_found hq (x := (x1, x2, x3)) hr
        subst hrk
        have HIX := Lib.hid (fun W (hW : Free.Bel w3 W) => indexP_v Hh x1 (insP (x1, x2, x3) xs) _ W (HALL.out.2.2.2.2.2.keeps hW) (k : Int) hr)
        obtain ⟨c0, c1, c2, _⟩ := rick_row HALL.out.2.2.2.2.1 (insP_length _ _) k hk
        rw [hkx] at c0 c1 c2
        rw [insP_length] at hk
        have hklt : (k : Int) < (xs.length : Int) + 1 := by omega
        clear hq hq2 hE2 hkx hr
        go_wp2_with fail
        have hF : ∀ W, Free.Bel w3.drew W → (W.cell? ⟨w.heap.size, 0, none⟩ = some (.int .i64 Hh) ∧ W.cell? ⟨w.heap.size, 1, none⟩ = some (.slice (some ⟨g, 0, none⟩) (xs.length + 1) cap) ∧ W.cell? ⟨w.heap.size + 1, 0, none⟩ = some (.int .i64 x1) ∧ W.cell? ⟨w.heap.size + 1, 1, none⟩ = some (.int .i64 x2) ∧ W.cell? ⟨w.heap.size + 1, 2, none⟩ = some (.int .i64 x3) ∧ W.cell? ⟨g, k * 3, none⟩ = some (.int .i64 x1) ∧ W.cell? ⟨g, k * 3 + 1, none⟩ = some (.int .i64 x2) ∧ W.cell? ⟨g, k * 3 + 2, none⟩ = some (.int .i64 x3)) ∧ Free.Bel w3 W := fun W hW => ⟨⟨keepsB (Free.Bel.first hW) b0, keepsB (Free.Bel.first hW) b1, keepsB (Free.Bel.first hW) y0, keepsB (Free.Bel.first hW) y1, keepsB (Free.Bel.first hW) y2, keepsB (Free.Bel.first hW) c0, keepsB (Free.Bel.first hW) c1, keepsB (Free.Bel.first hW) c2⟩, Free.Bel.first hW⟩
        refine Free.wp_free (R := Free.Bel) (by kernel_rfl) (by kernel_rfl) Free.Bel.refl Free.Bel.trans ?_
        refine Free.Chain.ex ?_ [] [2] (by kernel_rfl) (by kernel_rfl) rfl Free.Bel.refl ?_ ?_
        rotate_left 2
        simp only [an1, an2]
        rotate_left
        rotate_left
        · (intro ev W hb hR hO hD; have hS := hF W hR; obtain ⟨hS, hS2⟩ := hS; obtain ⟨hb1, hb2, hb3⟩ := hb; simp only [Free.AllDeps, Free.AllOuts, Free.At, al1, al2, al3, al4, al5, and_true] at hO hD; go_simp; rfl)
        refine Free.Chain.pr (fun v _ => v = .int .i64 0) [(0, 28)] [] (by kernel_rfl) (by kernel_rfl) rfl (fun _ _ _ _ h => h) ?_ ?_
        · (intro ev W hb hR hO hD; have hS := hF W hR; obtain ⟨hS, hS2⟩ := hS; obtain ⟨hb1, hb2, hb3⟩ := hb; simp only [Free.AllDeps, Free.AllOuts, Free.At, al1, al2, al3, al4, al5, and_true] at hO hD; go_simp; refine yields_enter ?_; (with_reducible refine (HCK.out W hS2).mono ?_); rintro e W2 ⟨rfl, hB2⟩; exact ⟨_, rfl, hB2, rfl⟩)
        simp only [an1, an2]
        refine Free.Chain.ex ?_ [(1, 29)] [] (by kernel_rfl) (by kernel_rfl) rfl Free.Bel.refl ?_ ?_
        rotate_left 2
        simp only [an1, an2]
        refine Free.Chain.ex ?_ [(2, 30), (1, 29)] [] (by kernel_rfl) (by kernel_rfl) rfl Free.Bel.refl ?_ ?_
        rotate_left 2
        simp only [an1, an2]
        rotate_left
        iterate 2 (rotate_left; intro ev W hb hR hO hD; have hS := hF W hR; obtain ⟨hS, hS2⟩ := hS; obtain ⟨hb1, hb2, hb3⟩ := hb; simp only [Free.AllDeps, Free.AllOuts, Free.At, al1, al2, al3, al4, al5, and_true] at hO hD; go_simp; rfl)
        refine Free.Chain.exG ?_ [(3, 31)] [2] 3 false 31 (by kernel_rfl) (by kernel_rfl) rfl (by kernel_rfl) Free.Bel.refl ?_ ?_
        rotate_left 2
        simp only [an1, an2]
        refine Free.Chain.exG ?_ [(4, 32), (3, 31)] [] 3 false 31 (by kernel_rfl) (by kernel_rfl) rfl (by kernel_rfl) Free.Bel.refl ?_ ?_
        rotate_left 2
        simp only [an1, an2]
        refine Free.Chain.exG ?_ [(3, 31)] [2] 3 false 31 (by kernel_rfl) (by kernel_rfl) rfl (by kernel_rfl) Free.Bel.refl ?_ ?_
        rotate_left 2
        simp only [an1, an2]
        refine Free.Chain.exG ?_ [(3, 31)] [3] 3 false 31 (by kernel_rfl) (by kernel_rfl) rfl (by kernel_rfl) Free.Bel.refl ?_ ?_
        rotate_left 2
        simp only [an1, an2]
        refine Free.Chain.exG ?_ [(7, 35), (3, 31)] [] 3 false 31 (by kernel_rfl) (by kernel_rfl) rfl (by kernel_rfl) Free.Bel.refl ?_ ?_
        rotate_left 2
        simp only [an1, an2]
        rotate_left
        iterate 5 (rotate_left; intro ev W hb hR hO hD; have hS := hF W hR; obtain ⟨hS, hS2⟩ := hS; obtain ⟨hb1, hb2, hb3⟩ := hb; simp only [Free.AllDeps, Free.AllOuts, Free.At, al1, al2, al3, al4, al5, and_true] at hO hD; refine ⟨by simp [hD], ?_⟩; go_simp; rfl)
        refine Free.Chain.prG (fun v _ => v = .int .i64 k) [(6, 34), (8, 36), (3, 31), (3, 31)] [] 3 false 31 (by kernel_rfl) (by kernel_rfl) rfl (by kernel_rfl) (fun _ _ _ _ h => h) ?_ ?_
        · (intro ev W hb hR hO hD; have hS := hF W hR; obtain ⟨hS, hS2⟩ := hS; obtain ⟨hb1, hb2, hb3⟩ := hb; simp only [Free.AllDeps, Free.AllOuts, Free.At, al1, al2, al3, al4, al5, and_true] at hO hD; refine ⟨by simp [hD], ?_⟩; go_simp; refine yields_enter ?_; (with_reducible refine (HIX.out W hS2).mono ?_); rintro e W2 ⟨rfl, hB2⟩; exact ⟨_, rfl, hB2, rfl⟩)
        simp only [an1, an2]
        refine Free.Chain.exG ?_ [(5, 33), (9, 37), (3, 31)] [] 3 false 31 (by kernel_rfl) (by kernel_rfl) rfl (by kernel_rfl) Free.Bel.refl ?_ ?_
        rotate_left 2
        simp only [an1, an2]
        refine Free.Chain.exG ?_ [(10, 38), (3, 31)] [] 3 false 31 (by kernel_rfl) (by kernel_rfl) rfl (by kernel_rfl) Free.Bel.refl ?_ ?_
        rotate_left 2
        simp only [an1, an2]
        refine Free.Chain.exG ?_ [(3, 31)] [3] 3 false 31 (by kernel_rfl) (by kernel_rfl) rfl (by kernel_rfl) Free.Bel.refl ?_ ?_
        rotate_left 2
        simp only [an1, an2]
        refine Free.Chain.exG ?_ [(11, 39), (12, 40), (3, 31)] [] 3 false 31 (by kernel_rfl) (by kernel_rfl) rfl (by kernel_rfl) Free.Bel.refl ?_ ?_
        rotate_left 2
        simp only [an1, an2]
        rotate_left
        iterate 4 (rotate_left; intro ev W hb hR hO hD; have hS := hF W hR; obtain ⟨hS, hS2⟩ := hS; obtain ⟨hb1, hb2, hb3⟩ := hb; simp only [Free.AllDeps, Free.AllOuts, Free.At, al1, al2, al3, al4, al5, and_true] at hO hD; refine ⟨by simp [hD], ?_⟩; go_simp; rfl)
        refine Free.Chain.ex ?_ [(3, 31), (13, 41)] [] (by kernel_rfl) (by kernel_rfl) rfl Free.Bel.refl ?_ ?_
        rotate_left 2
        simp only [an1, an2]
        rotate_left
        rotate_left
        · (intro ev W hb hR hO hD; have hS := hF W hR; obtain ⟨hS, hS2⟩ := hS; obtain ⟨hb1, hb2, hb3⟩ := hb; simp only [Free.AllDeps, Free.AllOuts, Free.At, al1, al2, al3, al4, al5, and_true] at hO hD; go_simp; rfl)
        intro zs w' hR hV
        simp only [Free.AllV, Free.At, List.length_cons, List.length_nil, Nat.reduceAdd, List.getElem?_cons_succ, List.getElem?_cons_zero, true_and] at hV
        simp only [Free.putsFrom, Act.put, Nat.zero_add, Nat.reduceAdd, hV, List.setIfInBounds_toArray, List.set_cons_succ, List.set_cons_zero]
        have K9 := (hF w' hR).2
        clear hR hV hF b0 b1 y0 y1 y2
        have hb9 := (K9.block _ (lt_of_heap HALL.out.2.1)).trans HALL.out.2.1
        have hrz9 := (K9.block _ (lt_of_heap HALL.out.2.2.2.1)).trans HALL.out.2.2.2.1
        have z0 := cell_of_heap (o := 0) hrz9 rfl
        have z1 := cell_of_heap (o := 1) hrz9 rfl
        have z2 := frozen_of_heap (o := 0) hrz9
        have z3 := frozen_of_heap (o := 1) hrz9
        have b0 := cell_of_heap (o := 0) hb9 rfl
        have b1 := cell_of_heap (o := 1) hb9 rfl
        have HBE := Lib.hid (HALL.out.1.trans (K9.mono HALL.out.1.size))
        have HROW := Lib.hid (bel_row HALL.out.2.2.2.2.1 K9)
        clear hrz9 hb9 K9
        go_wp2_with fail
        have hst := two_stores (.int .i64 Hh) (.slice (some ⟨g, 0, none⟩) (xs.length + 1) cap) z0 z1
        exact bodyPost_ret (v := .tuple #[.agg #[.int .i64 Hh, .slice (some ⟨g, 0, none⟩) (xs.length + 1) cap], .int .i64 0]) (by simp [results, Tryd.results43, go_sem, hst]) rfl ⟨⟨_, rfl, by
          rw [HL.out, insP_length]
          exact row_mono (ownsRow_setCell_below (ownsRow_setCell_below HROW.out (by simp; omega) _) (by simp; omega) _) (by omega)⟩, (HBE.out.setCell (by simp; omega) _).setCell (by simp; omega) _⟩
end Go.Proofs.YtknpglgpkkhhiaaDoor

/- slices.Delete of one rick out of a row of one's own. -/
namespace Go.Proofs.YtknpglgpkkhhiaaDoor
set_option linter.unusedSimpArgs false
set_option linter.unusedVariables false
open Go.RowKit Go.Proofs.YtknpglgpkkhhiaaDoor.Free2

/-- Many cells set. -/
def setL : List Value → Nat → List Value → List Value
  | cs, _, [] => cs
  | cs, o, v :: r => setL (cs.set o v) (o + 1) r
theorem setL_eq : ∀ (vs cs : List Value) (o : Nat), o + vs.length ≤ cs.length → setL cs o vs = cs.take o ++ vs ++ cs.drop (o + vs.length)
  | [], cs, o, _ => by simp [setL]
  | v :: r, cs, o, h => by
    have h' : o + (r.length + 1) ≤ cs.length := by simpa using h
    rw [setL, setL_eq r (cs.set o v) (o + 1) (by simp; omega), list_seg_step cs o v r h']
    simp
theorem setL_length : ∀ (vs cs : List Value) (o : Nat), (setL cs o vs).length = cs.length
  | [], cs, o => rfl
  | v :: r, cs, o => by rw [setL, setL_length]; simp
theorem row_setCells {base g n cap sz : Nat} {e : TypeId} : ∀ (vs cs : List Value) (o : Nat) (w : World), w.ownsRow base e sz (.slice (some ⟨g, 0, none⟩) n cap) n cs → (w.setCells g o vs).ownsRow base e sz (.slice (some ⟨g, 0, none⟩) n cap) n (setL cs o vs)
  | [], _, _, _, h => h
  | v :: r, cs, o, w, h => row_setCells r (cs.set o v) (o + 1) _ (h.stored o v).1
theorem row_shrink {base g n m cap sz : Nat} {e : TypeId} {cs : List Value} {w : World} (h : w.ownsRow base e sz (.slice (some ⟨g, 0, none⟩) n cap) n cs) (hm : m ≤ n) : w.ownsRow base e sz (.slice (some ⟨g, 0, none⟩) m cap) m (cs.take (m * sz)) := by
  have hle : m * sz ≤ n * sz := Nat.mul_le_mul_right _ hm
  refine ⟨by rw [List.length_take, h.1]; omega, ?_⟩
  rcases h.2 with ⟨h', _⟩ | ⟨g', cap', cur, h', hb, hg, hnc, hcm, hcs, htake⟩
  · simp at h'
  · simp only [Value.slice.injEq, Option.some.injEq, Addr.mk.injEq, and_true, true_and] at h'
    obtain ⟨rfl, rfl⟩ := h'
    refine .inr ⟨g, cap, cur, rfl, hb, hg, by omega, hcm, hcs, ?_⟩
    rw [← htake, List.take_take, Nat.min_eq_left hle]
theorem BX.setCells (g : Nat) : ∀ (vs : List Value) (o : Nat) (w : World), BX g w (w.setCells g o vs)
  | [], _, w => BX.refl g w
  | v :: r, o, w => (BX.set (rb := g) (o := o) (v := v)).trans (BX.setCells g r (o + 1) _)
theorem cellsR_split (xs : List Rk) (k : Nat) (hk : k < xs.length) : cellsR xs = cellsR (xs.take k) ++ ([.int .i64 xs[k].1, .int .i64 xs[k].2.1, .int .i64 xs[k].2.2] ++ cellsR (xs.drop (k + 1))) := by
  have h : xs = xs.take k ++ (xs[k] :: xs.drop (k + 1)) := by rw [List.getElem_cons_drop, List.take_append_drop]
  have e : ∀ (z : Rk) (l : List Rk), cellsR (z :: l) = [.int .i64 z.1, .int .i64 z.2.1, .int .i64 z.2.2] ++ cellsR l := fun z l => by simp [cellsR]
  rw [← e, ← cellsR_append, ← h]
/-- What is left behind Delete. -/
theorem del_cells (xs : List Rk) (k : Nat) (hk : k < xs.length) (z : List Value) (hz : z.length = 3) :
    (setL (setL (cellsR xs) (k * 3) (cellsR (xs.drop (k + 1)))) ((xs.length - 1) * 3) z).take ((xs.length - 1) * 3) = cellsR (xs.take k ++ xs.drop (k + 1)) := by
  have hA : (cellsR (xs.take k)).length = k * 3 := by rw [cellsR_length, List.length_take, Nat.min_eq_left (by omega)]
  have hC : (cellsR (xs.drop (k + 1))).length = (xs.length - (k + 1)) * 3 := by rw [cellsR_length, List.length_drop]
  have hl := cellsR_length xs
  have h1 : setL (cellsR xs) (k * 3) (cellsR (xs.drop (k + 1))) = cellsR (xs.take k) ++ cellsR (xs.drop (k + 1)) ++ (cellsR xs).drop (k * 3 + (xs.length - (k + 1)) * 3) := by
    rw [setL_eq _ _ _ (by rw [hl, hC]; omega), hC]
    congr 2
    rw [cellsR_split xs k hk, List.take_left' hA]
  have hl1 : (setL (cellsR xs) (k * 3) (cellsR (xs.drop (k + 1)))).length = xs.length * 3 := by rw [setL_length, hl]
  rw [setL_eq _ _ _ (by rw [hl1, hz]; omega), List.append_assoc, List.take_left' (by rw [List.length_take, hl1]; omega), h1, cellsR_append]
  exact List.take_left' (by rw [List.length_append, hA, hC]; omega)
set_option maxRecDepth 100000 in
/-- clear at one rick. -/
theorem run_clear_rick (W : World) (ty : TypeId) (b o c : Nat) (hc : ∀ j, j < 3 → (W.cell? ⟨b, o + j, none⟩).isSome = true) (hf : ∀ j, j < 3 → W.frozen? ⟨b, o + j, none⟩ = false) :
    (Builtin.clear_ #[22] ty #[.slice (some ⟨b, o, none⟩) 1 c]).run Tryd.prog W = .ok (.tuple #[]) (W.setCells b o [.int .i64 0, .int .i64 0, .int .i64 0]) := by
  have hst := run_storeCells_cells (P := Tryd.prog) b o [.int .i64 0, .int .i64 0, .int .i64 0] 0 W (by simpa using hc) (by simpa using hf) (by intro v hv; simp at hv; rw [hv]; rfl)
  simp only [Nat.add_zero] at hst
  have hv : ∀ w, (zeroValue 47).run Tryd.prog w = .ok (.agg #[.int .i64 0, .int .i64 0, .int .i64 0]) w := fun w => by kernel_rfl
  have hz : (Builtin.zeroCells (Value.cells (.agg #[.int .i64 0, .int .i64 0, .int .i64 0])) 1).toList = [.int .i64 0, .int .i64 0, .int .i64 0] := by kernel_rfl
  simp [Builtin.clear_, run_underlying (P := Tryd.prog) Tryd.underlying22, hv, Result.andThen, hz, hst]
/-- A region that changes one thing, by the operation ia: ahead of it this, behind it that. -/
structure JDel (C0 C1 : World → Prop) (ia : Nat) (X : XT) (W : World) : Prop where
  a : X ia = none → C0 W
  b : X ia ≠ none → C1 W
theorem JDel.start {C0 C1 : World → Prop} {ia : Nat} {W : World} (h : C0 W) : JDel C0 C1 ia (fun _ => none) W := ⟨fun _ => h, fun e => absurd rfl e⟩
theorem JDel.skip {C0 C1 : World → Prop} {ia : Nat} {X : XT} {W : World} (h : JDel C0 C1 ia X W) (n : Nat) (v : Value) (hn : n ≠ ia) : JDel C0 C1 ia (upd X n v) W :=
  ⟨by rw [upd_other _ _ hn.symm]; exact h.a, by rw [upd_other _ _ hn.symm]; exact h.b⟩
theorem JDel.put {C0 C1 : World → Prop} {ia : Nat} {X : XT} {W : World} {v : Value} (h : C1 W) : JDel C0 C1 ia (upd X ia v) W :=
  ⟨fun e => (by rw [upd_same] at e; cases e), fun _ => h⟩
/-- An append where there is room, in a region that draws its order. -/
theorem yields_append_room {P : Program} {K : Value → World → Prop} {ev : Operand → Value} (w : World) (o : Oper) (s x : Operand) (t : TypeId) (ho : o.op = .call { callee := .builtin .append, args := #[s, x], argTypes := #[t, t] })
    (e : TypeId) (i : TypeInfo) (size : Nat) (ht : P.underlying t = some (.slice e)) (hi : P.info? e = some i) (hsize : i.size = size)
    (g n cap : Nat) (hs : ev s = .slice (some ⟨g, 0, none⟩) n cap) (ad : Addr) (m c : Nat) (news : List Value) (hx : ev x = .slice (some ad) m c) (hl : news.length = m * size) (hp : ∀ j u, news[j]? = some u → w.cell? (ad.add j) = some u) (h1 : ∀ u ∈ news, u.oneCell' = true)
    (hroom : n + m ≤ cap) (hc : ∀ j, j < news.length → (w.cell? ⟨g, n * size + j, none⟩).isSome = true) (hf : ∀ j, j < news.length → w.frozen? ⟨g, n * size + j, none⟩ = false)
    (h : K (.slice (some ⟨g, 0, none⟩) (n + m) cap) (w.setCells g (n * size) news)) : Free.Yields P K ((execOp ev o).run P w) := by
  subst hsize
  have hrun := run_append_room_cells (P := P) w t o.type e i ht hi g 0 n cap ad m c news hl hp h1 hroom (by simpa using hc) (by simpa using hf)
  simp only [Nat.zero_add] at hrun
  unfold execOp
  simp only [ho, resolve, invoke, builtin, Sem.run_bind, Sem.run_pure, Result.andThen_ok, List.map_toArray, List.map_cons, List.map_nil, hs, hx, hrun]
  exact h
set_option maxRecDepth 100000 in
theorem slice_lh (g n cp a b : Nat) (h1 : a ≤ b) (h2 : b ≤ cp) (h3 : a ≠ cp) (W : World) : (Instr.slice 22 (.slice (some ⟨g, 0, none⟩) n cp) (some (.int .i64 (a : Int))) (some (.int .i64 (b : Int))) none).run Tryd.prog W = .ok (.slice (some ⟨g, a * 3, none⟩) (b - a) (cp - a)) W := by
  rw [run_slice_lh W 22 (some ⟨g, 0, none⟩) n cp Tryd.underlying22 .i64 .i64 a b (by omega) (by omega) (by omega)]
  have he : Tryd.prog.elem 22 = 47 := by kernel_rfl
  rw [he, sizeRick]
  have h4 : cp ≠ a := fun e => h3 e.symm
  simp [Result.andThen, sliced, h4, addE]
set_option maxRecDepth 100000 in
theorem slice_lhm (g n cp a b m : Nat) (h1 : a ≤ b) (h2 : b ≤ m) (h3 : m ≤ cp) (W : World) : ∃ v, (Instr.slice 22 (.slice (some ⟨g, 0, none⟩) n cp) (some (.int .i64 (a : Int))) (some (.int .i64 (b : Int))) (some (.int .i64 (m : Int)))).run Tryd.prog W = .ok v W := by
  rw [run_slice_lhm W 22 (some ⟨g, 0, none⟩) n cp Tryd.underlying22 .i64 .i64 .i64 a b m (by omega) (by omega) (by omega) (by omega)]
  have he : Tryd.prog.elem 22 = 47 := by kernel_rfl
  rw [he, sizeRick]
  exact ⟨_, rfl⟩
end Go.Proofs.YtknpglgpkkhhiaaDoor

/- slices.Delete of one rick: the walk. -/
namespace Go.Proofs.YtknpglgpkkhhiaaDoor
set_option linter.unusedSimpArgs false
set_option linter.unusedVariables false
open Go.RowKit Go.Proofs.YtknpglgpkkhhiaaDoor.Free2

set_option maxRecDepth 100000 in
set_option maxHeartbeats 4000000 in
theorem deleteP_any (base g cap k : Nat) (xs : List Rk) (w : World) (ho : w.ownsRow base 47 3 (.slice (some ⟨g, 0, none⟩) xs.length cap) xs.length (cellsR xs)) (hk : k < xs.length) (hl : xs.length ≤ 1000) :
    Calls Tryd.prog 87 #[.slice (some ⟨g, 0, none⟩) xs.length cap, .int .i64 k, .int .i64 ((k : Int) + 1)] w fun e w' => e = .returned (.slice (some ⟨g, 0, none⟩) (xs.length - 1) cap) ∧ w'.ownsRow base 47 3 (.slice (some ⟨g, 0, none⟩) (xs.length - 1) cap) (xs.length - 1) (cellsR (xs.take k ++ xs.drop (k + 1))) ∧ BX g w w' := by
  have HO := Lib.hid ho
  obtain ⟨n, hn⟩ : ∃ n, xs.length = n + 1 := ⟨xs.length - 1, by omega⟩
  obtain ⟨hcap, hgs, hcm⟩ : n + 1 ≤ cap ∧ g < w.heap.size ∧ cap ≤ maxLen := by
    rcases ho.2 with ⟨h', _⟩ | ⟨g', cap', cur, h', hb, hg, hnc, hcm, _⟩
    · simp at h'
    · simp only [Value.slice.injEq, Option.some.injEq, Addr.mk.injEq, and_true, true_and] at h'
      obtain ⟨rfl, rfl⟩ := h'
      exact ⟨by omega, lt_of_heap hg, hcm⟩
  unfold maxLen at hcm
  have hsub : xs.length - 1 = n := by omega
  rw [hsub]
  obtain ⟨i0, hi0, hz0, hz1, hz2⟩ := info_parts T.infoRick
  have HZ := Lib.hid (And.intro hi0 (And.intro hz0 (And.intro hz1 hz2)))
  have hone : ∀ j, j < (n + 1) * 3 → ∀ (W : World) (cs : List Value), W.ownsRow base 47 3 (.slice (some ⟨g, 0, none⟩) (n + 1) cap) (n + 1) cs → (W.cell? ⟨g, j, none⟩).isSome = true ∧ W.frozen? ⟨g, j, none⟩ = false := by
    intro j hj W cs h
    refine ⟨?_, h.frozenAt j⟩
    rw [h.cellAt j hj, List.getElem?_eq_getElem (by rw [h.1]; exact hj)]
    rfl
  have HONE := Lib.hid hone
  have hcc : ∀ W : World, W.ownsRow base 47 3 (.slice (some ⟨g, 0, none⟩) (n + 1) cap) (n + 1) (cellsR xs) → ∀ ad, tailP (some ⟨g, 0, none⟩) cap (k + 1) = some ad → ∀ j u, (cellsR (xs.drop (k + 1)))[j]? = some u → W.cell? (ad.add j) = some u := by
    intro W h ad he
    unfold tailP at he
    split at he
    · rename_i hcq
      rw [List.drop_eq_nil_of_le (by omega)]
      intro j u hj
      simp [cellsR] at hj
    · simp only [Option.map_some, Option.some.injEq] at he
      rw [← he, addE]
      have hq : ∀ i (hi : i < xs.length), W.cell? ⟨g, 0 + i * 3, none⟩ = some (.int .i64 xs[i].1) ∧ W.cell? ⟨g, 0 + i * 3 + 1, none⟩ = some (.int .i64 xs[i].2.1) ∧ W.cell? ⟨g, 0 + i * 3 + 2, none⟩ = some (.int .i64 xs[i].2.2) := by
        intro i hi
        simp only [Nat.zero_add]
        obtain ⟨c1, c2, c3, _⟩ := rick_row h hn i hi
        exact ⟨c1, c2, c3⟩
      exact (cells_part hq (k + 1) hk).2
  have HCC := Lib.hid hcc
  obtain ⟨ad, hty⟩ : ∃ ad, tailP (some ⟨g, 0, none⟩) cap (k + 1) = some ad := by
    cases h9 : tailP (some ⟨g, 0, none⟩) cap (k + 1) with
    | none => exact absurd h9 (tailP_some _ _ _)
    | some ad => exact ⟨ad, rfl⟩
  have hsl1 := Lib.hid (slice_head (some ⟨g, 0, none⟩) (n + 1) cap k (by omega))
  have hsl2 := slice_tail (some ⟨g, 0, none⟩) (n + 1) cap (k + 1) (by omega)
  rw [hty] at hsl2
  have HSL2 := Lib.hid hsl2
  have hsl3 := slice_lh g n cap n (n + 1) (by omega) hcap (by omega)
  rw [show n + 1 - n = 1 by omega] at hsl3
  have hsl4 := slice_lhm g (n + 1) cap k (k + 1) (n + 1) (by omega) (by omega) hcap
  obtain ⟨v0, hv0⟩ := hsl4 w
  have hq0 : (Instr.slice 22 (.slice (some ⟨g, 0, none⟩) (n + 1) cap) (some (.int .i64 (k : Int))) (some (.int .i64 ((k : Int) + 1))) (some (.int .i64 ((n : Int) + 1)))).run Tryd.prog w = .ok v0 w := by
    have := hv0
    simpa using this
  have HQ3 := Lib.hid hsl3
  rw [hn] at ho HO ⊢
  have hsum : k + (n - k) = n := by omega
  have g0 : ((k : Int) == (k : Int) + 1) = false := by simp; omega
  have HD := Lib.hid (And.intro hn (And.intro hk hl))
  have HC := Lib.hid (And.intro hcap hcm)
  have hwk : IntKind.i64.wrap ((n : Int) + 1) = (n : Int) + 1 := IntWalk.i64_in _ (by omega)
  clear hsl2 hsl3 hsl4 hv0 hone hcc hi0 hz0 hz1 hz2 ho hsub hn hl hcap hcm
  have hk2 := HD.out.1
  go_enter Tryd.func87, Tryd.ntmps87
  clear hk2
  go_wp2_with fail
  refine Free2.wp_free (R := BX g) (J := JDel (fun W => W.ownsRow base 47 3 (.slice (some ⟨g, 0, none⟩) (n + 1) cap) (n + 1) (cellsR xs)) (fun W => W.ownsRow base 47 3 (.slice (some ⟨g, 0, none⟩) (n + 1) cap) (n + 1) (setL (cellsR xs) (k * 3) (cellsR (xs.drop (k + 1))))) 6) (by kernel_rfl) (by kernel_rfl) (BX.refl g) (fun _ _ _ => BX.trans) (JDel.start HO.out) ?_
  refine Free2.Chain.ex ?_ 0 rfl [] [0] (by kernel_rfl) (by kernel_rfl) rfl (BX.refl g) (fun X W v h => JDel.skip h 0 v (by simp)) ?_ ?_
  rotate_left
  · (intro ev W hb hR hO hD; obtain ⟨hb1, hb2, hb3⟩ := hb; simp only [Free.AllDeps, Free.AllOuts, Free.At, al1, al2, al3, al4, al5, and_true] at hO hD; go_simp; rfl)
  simp only [an1, an2]
  refine Free2.Chain.ex ?_ 1 rfl [] [1] (by kernel_rfl) (by kernel_rfl) rfl (BX.refl g) (fun X W v h => JDel.skip h 1 v (by simp)) ?_ ?_
  rotate_left
  · (intro ev W hb hR hO hD; obtain ⟨hb1, hb2, hb3⟩ := hb; simp only [Free.AllDeps, Free.AllOuts, Free.At, al1, al2, al3, al4, al5, and_true] at hO hD; go_simp; rfl)
  simp only [an1, an2]
  refine Free2.Chain.pr (fun v _ => v = .slice (some ⟨g, 0, none⟩) k cap) 2 rfl [(0, 20), (1, 21)] [] (by kernel_rfl) (by kernel_rfl) rfl (fun _ _ _ _ h => h) ?_ ?_
  · (intro ev W X hb hR hO hD hj hx hax; obtain ⟨hb1, hb2, hb3⟩ := hb; simp only [Free.AllDeps, Free.AllOuts, Free.At, al1, al2, al3, al4, al5, and_true] at hO hD; simp only [Free2.AllX, and_true] at hax; have hq := hsl1.out W; go_simp; exact ⟨BX.refl _ _, rfl, JDel.skip hj 2 _ (by simp)⟩)
  simp only [an1, an2]
  refine Free2.Chain.ex ?_ 3 rfl [] [0] (by kernel_rfl) (by kernel_rfl) rfl (BX.refl g) (fun X W v h => JDel.skip h 3 v (by simp)) ?_ ?_
  rotate_left
  · (intro ev W hb hR hO hD; obtain ⟨hb1, hb2, hb3⟩ := hb; simp only [Free.AllDeps, Free.AllOuts, Free.At, al1, al2, al3, al4, al5, and_true] at hO hD; go_simp; rfl)
  simp only [an1, an2]
  refine Free2.Chain.ex ?_ 4 rfl [] [2] (by kernel_rfl) (by kernel_rfl) rfl (BX.refl g) (fun X W v h => JDel.skip h 4 v (by simp)) ?_ ?_
  rotate_left
  · (intro ev W hb hR hO hD; obtain ⟨hb1, hb2, hb3⟩ := hb; simp only [Free.AllDeps, Free.AllOuts, Free.At, al1, al2, al3, al4, al5, and_true] at hO hD; go_simp; rfl)
  simp only [an1, an2]
  refine Free2.Chain.pr (fun v _ => v = .slice (some ad) (n + 1 - (k + 1)) (cap - (k + 1))) 5 rfl [(3, 23), (4, 24)] [] (by kernel_rfl) (by kernel_rfl) rfl (fun _ _ _ _ h => h) ?_ ?_
  · (intro ev W X hb hR hO hD hj hx hax; obtain ⟨hb1, hb2, hb3⟩ := hb; simp only [Free.AllDeps, Free.AllOuts, Free.At, al1, al2, al3, al4, al5, and_true] at hO hD; simp only [Free2.AllX, and_true] at hax; have hq : (Instr.slice 22 (.slice (some ⟨g, 0, none⟩) (n + 1) cap) (some (.int .i64 ((k : Int) + 1))) none none).run Tryd.prog W = _ := HSL2.out W; go_simp; exact ⟨BX.refl _ _, rfl, JDel.skip hj 5 _ (by simp)⟩)
  simp only [an1, an2]
  refine Free2.Chain.pr (fun v _ => v = .slice (some ⟨g, 0, none⟩) n cap) 6 rfl [(2, 22), (5, 25)] [] (by kernel_rfl) (by kernel_rfl) rfl (fun _ _ _ _ h => h) ?_ ?_
  · (intro ev W X hb hR hO hD hj hx hax; obtain ⟨hb1, hb2, hb3⟩ := hb; simp only [Free.AllDeps, Free.AllOuts, Free.At, al1, al2, al3, al4, al5, and_true] at hO hD; simp only [Free2.AllX, and_true] at hax; have h0 := hj.a hx; have hlen : (cellsR (xs.drop (k + 1))).length = (n + 1 - (k + 1)) * 3 := (by rw [cellsR_length, List.length_drop, HD.out.1]); have hkn := HD.out.2.1; have hnn := HD.out.1; have hcc := HC.out; refine yields_append_room W _ (.tmp 22) (.tmp 25) 22 rfl 47 i0 3 Tryd.underlying22 HZ.out.1 HZ.out.2.2.1 g k cap hD.1 ad (n + 1 - (k + 1)) (cap - (k + 1)) (cellsR (xs.drop (k + 1))) hD.2 hlen (HCC.out W h0 ad hty) (cellsR_one _) (by omega) (fun j hj => (HONE.out (k * 3 + j) (by omega) W _ h0).1) (fun j hj => (HONE.out (k * 3 + j) (by omega) W _ h0).2) ?_; rw [show k + (n + 1 - (k + 1)) = n by omega]; exact ⟨BX.setCells g _ _ _, rfl, JDel.put (row_setCells _ _ _ _ h0)⟩)
  simp only [an1, an2]
  refine Free2.Chain.ex ?_ 7 rfl [(6, 26), (6, 26), (0, 20), (1, 21), (2, 22), (3, 23), (4, 24), (5, 25), (6, 26)] [] (by kernel_rfl) (by kernel_rfl) rfl (BX.refl g) (fun X W v h => JDel.skip h 7 v (by simp)) ?_ ?_
  rotate_left
  · (intro ev W hb hR hO hD; obtain ⟨hb1, hb2, hb3⟩ := hb; simp only [Free.AllDeps, Free.AllOuts, Free.At, al1, al2, al3, al4, al5, and_true] at hO hD; go_simp; rfl)
  simp only [an1, an2]
  intro ys w' hR hV hX
  obtain ⟨X, hj, hxx⟩ := hX
  simp only [Free.AllV, Free.At, List.length_cons, List.length_nil, Nat.reduceAdd, List.getElem?_cons_succ, List.getElem?_cons_zero, true_and, and_true] at hV
  simp only [Free.putsFrom, Act.put, Nat.zero_add, Nat.reduceAdd, hV, List.setIfInBounds_toArray, List.set_cons_succ, List.set_cons_zero]
  have hx6 : X 6 = some (ys 6) := hxx 6 (by decide)
  have hrow := hj.b (by rw [hx6]; simp)
  have hclr : ∀ ty, (Builtin.clear_ #[22] ty #[.slice (some ⟨g, n * 3, none⟩) 1 (cap - n)]).run Tryd.prog w' = .ok (.tuple #[]) (w'.setCells g (n * 3) [.int .i64 0, .int .i64 0, .int .i64 0]) := fun ty =>
    run_clear_rick w' ty g (n * 3) (cap - n) (fun j hj => (HONE.out (n * 3 + j) (by omega) w' _ hrow).1) (fun j hj => (HONE.out (n * 3 + j) (by omega) w' _ hrow).2)
  have hrow2 := row_shrink (row_setCells [.int .i64 0, .int .i64 0, .int .i64 0] _ (n * 3) w' hrow) (Nat.le_succ n)
  have hdel := del_cells xs k HD.out.2.1 [.int .i64 0, .int .i64 0, .int .i64 0] rfl
  rw [show xs.length - 1 = n by have := HD.out.1; omega] at hdel
  rw [hdel] at hrow2
  have HROW := Lib.hid hrow2
  have HBX := Lib.hid (BX.trans (BX.trans (BX.of_bel (rb := g) (Free.Bel.refl w).drew) hR) (BX.setCells g [.int .i64 0, .int .i64 0, .int .i64 0] (n * 3) w'))
  have hq3 : (Instr.slice 22 (.slice (some ⟨g, 0, none⟩) n cap) (some (.int .i64 (n : Int))) (some (.int .i64 ((n : Int) + 1))) none).run Tryd.prog w' = .ok (.slice (some ⟨g, n * 3, none⟩) 1 (cap - n)) w' := by
    have := HQ3.out w'
    simpa using this
  clear hR hV hj hxx hx6 hrow hrow2 hdel
  go_wp2_with fail
  go_ret
  exact ⟨rfl, HROW.out, HBX.out⟩
end Go.Proofs.YtknpglgpkkhhiaaDoor

/- The program's Drop. -/
namespace Go.Proofs.YtknpglgpkkhhiaaDoor
set_option linter.unusedSimpArgs false
set_option linter.unusedVariables false
open Go.RowKit Go.Proofs.YtknpglgpkkhhiaaDoor.Free2

theorem row_set {base b o n size : Nat} {e : TypeId} {v x : Value} {xs : List Value} {w : World} (h : w.ownsRow base e size v n xs) (hb : b < base) : (w.setCell ⟨b, o, none⟩ x).ownsRow base e size v n xs :=
  row_block h fun k hk hl => heap_setCell_other (by
    intro e
    subst e
    exact off_base h hb hk)

set_option maxRecDepth 100000 in
set_option maxHeartbeats 16000000 in
theorem dropP_v (h id : Int) (xs : List Rk) (u : Value) (w : World) (hT : TabR w) (hu : RL xs u w) (hz : NZ u) (hn : xs.length ≤ 1000) (r : Int) (hr : Hid (RickIs xs id r)) (E Hh : Int) (hE : Hid (dropE h xs r = E)) (hHh : Hid (dropH h xs r = Hh)) :
    Calls Tryd.prog 45 #[.agg #[.int .i64 h, u], .int .i64 id] w fun e w' => (∃ v, e = .returned (.tuple #[.agg #[.int .i64 Hh, v], .int .i64 E]) ∧ w'.ownsRow w.heap.size 47 3 v (dropL h xs r).length (cellsR (dropL h xs r))) ∧ Below w.heap.size w w' := by
  have HU := Lib.hid hu
  obtain ⟨p, cp, rfl, hm, _⟩ := hu
  have HNZ := Lib.hid hz
  have HTAB := Lib.hid hT
  have HN := Lib.hid hn
  clear hz hT hm hn
  have KB : Free.Bel w ((w.alloc (.cells #[.int .i64 h, .slice p xs.length cp] 24)).alloc (.cells #[.int .i64 0, .slice none 0 0] 24)) := Bel.allocT (Bel.allocT (Free.Bel.refl _) _) _
  have m0 : ((w.alloc (.cells #[.int .i64 h, .slice p xs.length cp] 24)).alloc (.cells #[.int .i64 0, .slice none 0 0] 24)).heap[w.heap.size]? = some (.cells #[.int .i64 h, .slice p xs.length cp] 24 (0, 0)) := heap_old (World.alloc_heap_new w _)
  have m1 : ((w.alloc (.cells #[.int .i64 h, .slice p xs.length cp] 24)).alloc (.cells #[.int .i64 0, .slice none 0 0] 24)).heap[w.heap.size + 1]? = some (.cells #[.int .i64 0, .slice none 0 0] 24 (0, 0)) := by
    have := World.alloc_heap_new (w.alloc (.cells #[.int .i64 h, .slice p xs.length cp] 24)) (.cells #[.int .i64 0, .slice none 0 0] 24)
    simpa using this
  have FA : ∀ W, Free.Bel ((w.alloc (.cells #[.int .i64 h, .slice p xs.length cp] 24)).alloc (.cells #[.int .i64 0, .slice none 0 0] 24)) W → W.cell? ⟨w.heap.size, 0, none⟩ = some (.int .i64 h) ∧ W.cell? ⟨w.heap.size, 1, none⟩ = some (.slice p xs.length cp) ∧ W.cell? ⟨w.heap.size + 1, 0, none⟩ = some (.int .i64 0) ∧ W.cell? ⟨w.heap.size + 1, 1, none⟩ = some (.slice none 0 0) ∧ W.frozen? ⟨w.heap.size + 1, 0, none⟩ = false ∧ W.frozen? ⟨w.heap.size + 1, 1, none⟩ = false ∧ W.frozen? ⟨w.heap.size, 1, none⟩ = false := fun W hW => ⟨keepsB hW (cell_of_heap m0 rfl), keepsB hW (cell_of_heap m0 rfl), keepsB hW (cell_of_heap m1 rfl), keepsB hW (cell_of_heap m1 rfl), frozB hW (cell_of_heap (o := 0) m1 rfl) (frozen_of_heap m1), frozB hW (cell_of_heap (o := 1) m1 rfl) (frozen_of_heap m1), frozB hW (cell_of_heap (o := 1) m0 rfl) (frozen_of_heap m0)⟩
  have HRZ : Hid (∀ W, Free.Bel ((w.alloc (.cells #[.int .i64 h, .slice p xs.length cp] 24)).alloc (.cells #[.int .i64 0, .slice none 0 0] 24)) W → W.heap[w.heap.size]? = some (.cells #[.int .i64 h, .slice p xs.length cp] 24 (0, 0)) ∧ W.heap[w.heap.size + 1]? = some (.cells #[.int .i64 0, .slice none 0 0] 24 (0, 0))) := fun W hW => ⟨(hW.block _ (lt_of_heap m0)).trans m0, (hW.block _ (lt_of_heap m1)).trans m1⟩
  have KE : Free.Bel ((w.alloc (.cells #[.int .i64 h, .slice p xs.length cp] 24)).alloc (.cells #[.int .i64 0, .slice none 0 0] 24)) ((w.alloc (.cells #[.int .i64 h, .slice p xs.length cp] 24)).alloc (.cells #[.int .i64 0, .slice none 0 0] 24)) := Free.Bel.refl _
  clear m0 m1
  cases hw : watchB h xs
  · have HC := Lib.hid (checkP_v h xs _ ((w.alloc (.cells #[.int .i64 h, .slice p xs.length cp] 24)).alloc (.cells #[.int .i64 0, .slice none 0 0] 24)) (HTAB.out.bel KB) (HU.out.keeps KB) 70 (by show _ = _; simp [hw]))
    have hE1 : dropE h xs r = 70 := by simp [dropE, hw]
    obtain rfl : E = 70 := hE.out.symm.trans hE1
    obtain rfl : Hh = 0 := hHh.out.symm.trans (by rw [dropH, hE1]; rfl)
    have HL : Hid (dropL h xs r = []) := by show _ = _; rw [dropL, hE1]; rfl
    clear hw hE1
    go_enter Tryd.func45, Tryd.ntmps45
    go_wp2_with fail
    refine HC.out.mono ?_
    rintro e w1 ⟨rfl, hB1⟩
    have K1 : Free.Bel ((w.alloc (.cells #[.int .i64 h, .slice p xs.length cp] 24)).alloc (.cells #[.int .i64 0, .slice none 0 0] 24)) w1 := hB1
    clear hB1 KE
    go_wp2_with fail
    have hrz := (HRZ.out _ K1).2
    have hst := two_stores (.int .i64 0) (.slice none 0 0) (cell_of_heap (o := 0) hrz rfl) (cell_of_heap (o := 1) hrz rfl)
    exact bodyPost_ret (v := .tuple #[.agg #[.int .i64 0, .slice none 0 0], .int .i64 70]) (by simp [results, Tryd.results45, go_sem, hst]) rfl ⟨⟨_, rfl, by rw [HL.out]; simpa [cellsR] using World.ownsRow_nil _ _ _ _⟩, ((bt KB K1).setCell (by simp) _).setCell (by simp) _⟩
  · have HC := Lib.hid (checkP_v h xs _ ((w.alloc (.cells #[.int .i64 h, .slice p xs.length cp] 24)).alloc (.cells #[.int .i64 0, .slice none 0 0] 24)) (HTAB.out.bel KB) (HU.out.keeps KB) 0 (by show _ = _; simp [hw]))
    have HW := Lib.hid hw
    clear hw
    go_enter Tryd.func45, Tryd.ntmps45
    go_wp2_with fail
    refine HC.out.mono ?_
    rintro e w1 ⟨rfl, hB1⟩
    have K1 : Free.Bel ((w.alloc (.cells #[.int .i64 h, .slice p xs.length cp] 24)).alloc (.cells #[.int .i64 0, .slice none 0 0] 24)) w1 := hB1
    clear hB1 KE
    go_wp2_with fail
    refine (indexP_v h id xs _ w1 (HU.out.keeps (bt KB K1)) r hr).mono ?_
    rintro e w2 ⟨rfl, hB2⟩
    have K2 : Free.Bel ((w.alloc (.cells #[.int .i64 h, .slice p xs.length cp] 24)).alloc (.cells #[.int .i64 0, .slice none 0 0] 24)) w2 := bt K1 hB2
    clear hB2 K1
    by_cases h0 : r < 0
    · have g0 : decide (r < 0) = true := decide_eq_true h0
      have hE1 : dropE h xs r = 6 := by rw [dropE, if_neg (by rw [HW.out]; simp), if_pos h0]
      obtain rfl : E = 6 := hE.out.symm.trans hE1
      obtain rfl : Hh = 0 := hHh.out.symm.trans (by rw [dropH, hE1]; rfl)
      have HL : Hid (dropL h xs r = []) := by show _ = _; rw [dropL, hE1]; rfl
      clear hE1
      go_wp2_with fail
      have hrz := (HRZ.out _ K2).2
      have hst := two_stores (.int .i64 0) (.slice none 0 0) (cell_of_heap (o := 0) hrz rfl) (cell_of_heap (o := 1) hrz rfl)
      exact bodyPost_ret (v := .tuple #[.agg #[.int .i64 0, .slice none 0 0], .int .i64 6]) (by simp [results, Tryd.results45, go_sem, hst]) rfl ⟨⟨_, rfl, by rw [HL.out]; simpa [cellsR] using World.ownsRow_nil _ _ _ _⟩, ((bt KB K2).setCell (by simp) _).setCell (by simp) _⟩
    · obtain ⟨k, hk, hrk⟩ : ∃ k : Nat, k < xs.length ∧ r = k := by
        rcases hr.out with ⟨h9, _⟩ | ⟨k, h9, h8, _⟩
        · omega
        · exact ⟨k, h9, h8⟩
      subst hrk
      have g0 : decide ((k : Int) < 0) = false := decide_eq_false h0
      have hE1 : dropE h xs (k : Int) = 0 := by rw [dropE, if_neg (by rw [HW.out]; simp), if_neg h0]
      obtain rfl : E = 0 := hE.out.symm.trans hE1
      obtain rfl : Hh = h := hHh.out.symm.trans (by rw [dropH, hE1]; rfl)
      have HL : Hid (dropL Hh xs (k : Int) = xs.take k ++ xs.drop (k + 1)) := by show _ = _; rw [dropL, hE1]; simp
      have hkw : IntKind.i64.wrap ((k : Int) + 1) = (k : Int) + 1 := IntWalk.i64_in _ (by have := HN.out; omega)
      have HK := Lib.hid hk
      clear hE1 h0 hk
      go_wp2_with fail
      refine (clone_any xs _ w2 (HU.out.keeps (bt KB K2)) HNZ.out HN.out).mono ?_
      rintro e w3 ⟨v3, rfl, hr3, hB3⟩
      obtain ⟨g, cap, hvg, hgg⟩ : ∃ g cap, v3 = .slice (some ⟨g, 0, none⟩) xs.length cap ∧ w2.heap.size ≤ g ∧ g < w3.heap.size := by
        rcases hr3.2 with ⟨_, h9⟩ | ⟨g, cap, cur, h9, hb9, hg9, _⟩
        · have := HK.out; omega
        · exact ⟨g, cap, h9, hb9, lt_of_heap hg9⟩
      subst hvg
      have K3 : Free.Bel ((w.alloc (.cells #[.int .i64 Hh, .slice p xs.length cp] 24)).alloc (.cells #[.int .i64 0, .slice none 0 0] 24)) w3 := bt K2 hB3
      have hdel := deleteP_any w2.heap.size g cap k xs w3 hr3 HK.out HN.out
      have HDEL := Lib.hid hdel
      have HGG := Lib.hid hgg
      have HS2 := Lib.hid K2.size
      clear hr3 hB3 hdel hgg K2
      go_wp2_with fail
      refine HDEL.out.mono ?_
      rintro e w4 ⟨rfl, hr4, hB4⟩
      have hs2 : w.heap.size + 1 + 1 ≤ w2.heap.size := by have := HS2.out; simp at this; omega
      have K4 : Free.Bel ((w.alloc (.cells #[.int .i64 Hh, .slice p xs.length cp] 24)).alloc (.cells #[.int .i64 0, .slice none 0 0] 24)) w4 := hB4.below (w0 := ((w.alloc (.cells #[.int .i64 Hh, .slice p xs.length cp] 24)).alloc (.cells #[.int .i64 0, .slice none 0 0] 24))) (s := ((w.alloc (.cells #[.int .i64 Hh, .slice p xs.length cp] 24)).alloc (.cells #[.int .i64 0, .slice none 0 0] 24)).heap.size) K3 K3.size (Nat.le_trans HS2.out HGG.out.1)
      have hlen : (dropL Hh xs (k : Int)).length = xs.length - 1 := by rw [HL.out]; simp; have := HK.out; omega
      have HR4 := Lib.hid (row_mono hr4 (show w.heap.size + 2 ≤ w2.heap.size from hs2))
      have HLEN := Lib.hid hlen
      obtain ⟨n, hn⟩ : ∃ n, xs.length - 1 = n := ⟨_, rfl⟩
      rw [hn] at HR4 HLEN ⊢
      clear hr4 hB4 hlen hn K3 hs2
      go_wp2_with fail
      have hrz := HRZ.out _ K4
      have hz0 := cell_of_heap (o := 0) hrz.2 rfl
      have hz1 := cell_of_heap (o := 1) hrz.2 rfl
      have hz4 := cell_of_heap (o := 1) hrz.1 rfl
      have hst := two_stores (w := w4.setCell ⟨w.heap.size, 1, none⟩ (.slice (some ⟨g, 0, none⟩) n cap)) (.int .i64 Hh) (.slice (some ⟨g, 0, none⟩) n cap) (by rw [World.cell?_setCell_other _ _ _ _ (by simp)]; exact hz0) (by rw [World.cell?_setCell_other _ _ _ _ (by simp)]; exact hz1)
      refine bodyPost_ret (v := .tuple #[.agg #[.int .i64 Hh, .slice (some ⟨g, 0, none⟩) n cap], .int .i64 0]) (by simp [results, Tryd.results45, go_sem, hst]) rfl ⟨⟨_, rfl, ?_⟩, (((bt KB K4).setCell (by simp) _).setCell (by simp) _).setCell (by simp) _⟩
      rw [HLEN.out, HL.out]
      exact row_mono (row_set (row_set (row_set HR4.out (by omega)) (by omega)) (by omega)) (by omega)
end Go.Proofs.YtknpglgpkkhhiaaDoor

/- Plain law: more hands, a rick less, one less moist, one that has waited less. -/
namespace Go.Proofs.YtknpglgpkkhhiaaDoor
set_option linter.unusedSimpArgs false
set_option linter.unusedVariables false

theorem rises_cons {l : Int} {x : Rk} {r : List Rk} (hl : 0 ≤ l) : risesB l (x :: r) = true ↔ (okR x ∧ l < x.1) ∧ risesB x.1 r = true := by
  simp only [risesB, inB, List.all_cons, List.all_nil, Bool.and_true, Bool.and_eq_true, decide_eq_true_eq, okR]
  constructor
  · rintro ⟨⟨a1, a2⟩, ⟨a3, a4⟩, ⟨a5, a6⟩, a7⟩
    exact ⟨⟨⟨by omega, a2, a3, a4, a5, by omega⟩, by omega⟩, a7⟩
  · rintro ⟨⟨⟨b1, b2, b3, b4, b5, b6⟩, b7⟩, b8⟩
    exact ⟨⟨by omega, b2⟩, ⟨b3, b4⟩, ⟨b5, by omega⟩, b8⟩
theorem rises_of : ∀ {xs : List Rk} {l : Int}, 0 ≤ l → (∀ x ∈ xs, okR x ∧ l < x.1) → (xs.map (·.1)).Pairwise (· < ·) → risesB l xs = true
  | [], _, _, _, _ => rfl
  | x :: r, l, hl, h, hp => by
    rw [List.map_cons, List.pairwise_cons] at hp
    have hx := h x (by simp)
    refine (rises_cons hl).2 ⟨hx, rises_of (by omega) (fun y hy => ⟨(h y (by simp [hy])).1, hp.1 _ (List.mem_map.2 ⟨y, hy, rfl⟩)⟩) hp.2⟩
theorem watch_of {h : Int} {xs : List Rk} (hh : 0 ≤ h ∧ h ≤ 3) (hl : xs.length ≤ 4) (ho : ∀ x ∈ xs, okR x) (hp : (xs.map (·.1)).Pairwise (· < ·)) : watchB h xs = true :=
  watchB_iff.2 ⟨hh, hl, rises_of (Int.le_refl _) (fun x hx => ⟨ho x hx, by have := ho x hx; unfold okR at this; omega⟩) hp⟩
theorem drop_at {h : Int} {xs : List Rk} (hw : watchB h xs = true) {i : Nat} (hi : i < xs.length) : dropE h xs i = 0 ∧ dropH h xs i = h ∧ dropL h xs i = xs.eraseIdx i := by
  have h1 : dropE h xs i = 0 := by unfold dropE; rw [hw, if_neg (by simp), if_neg (by omega)]
  refine ⟨h1, by rw [dropH, if_pos h1], ?_⟩
  rw [dropL, if_pos h1, List.eraseIdx_eq_take_drop_succ]
  simp
theorem watch_less {h : Int} {xs : List Rk} (hw : watchB h xs = true) (i : Nat) : watchB h (xs.eraseIdx i) = true := by
  have hs := List.eraseIdx_sublist xs i
  obtain ⟨h1, h2, _⟩ := watchB_iff.1 hw
  exact watch_of h1 (Nat.le_trans hs.length_le h2) (fun x hx => watchB_ok hw x (hs.mem hx)) ((watch_pair hw).sublist (hs.map _))
theorem dom_less (xs : List Rk) (i : Nat) : Dom xs (xs.eraseIdx i) := fun y hy => ⟨y, (List.eraseIdx_sublist xs i).mem hy, rfl, Int.le_refl _, Int.le_refl _⟩
/-- What was dropped is put back. -/
theorem put_back {h : Int} {xs : List Rk} (hw : watchB h xs = true) {i : Nat} (hi : i < xs.length) : insR xs[i] (xs.eraseIdx i) = xs := by
  have hp := List.pairwise_iff_getElem.1 (watch_pair hw)
  have hlen : (xs.eraseIdx i).length = xs.length - 1 := by rw [List.length_eraseIdx, if_pos hi]
  rw [insR_split xs[i] (xs.eraseIdx i) i (by omega) (fun j hj hji => ?_) (fun hk => ?_)]
  · rw [List.eraseIdx_eq_take_drop_succ, List.take_left' (by simp; omega), List.drop_left' (by simp; omega), List.getElem_cons_drop, List.take_append_drop]
  · rw [List.getElem_eraseIdx_of_lt _ hji]
    have := hp j i (by rw [List.length_map]; omega) (by simpa using hi) hji
    simpa only [List.getElem_map] using this
  · rw [List.getElem_eraseIdx_of_ge _ (Nat.le_refl _)]
    have := hp i (i + 1) (by simpa using hi) (by rw [List.length_map]; omega) (by omega)
    simp only [List.getElem_map] at this
    omega
theorem put_at {h : Int} {xs : List Rk} (hw : watchB h xs = true) {i : Nat} (hi : i < xs.length) : putE h (xs.eraseIdx i) xs[i] = 0 ∧ putH h (xs.eraseIdx i) xs[i] = h ∧ putL h (xs.eraseIdx i) xs[i] = xs := by
  have hlen : (xs.eraseIdx i).length = xs.length - 1 := by rw [List.length_eraseIdx, if_pos hi]
  have h4 := (watchB_iff.1 hw).2.1
  have h1 : putE h (xs.eraseIdx i) xs[i] = 0 := by
    unfold putE
    rw [watch_less hw i, put_back hw hi, hw, if_neg (by simp), if_neg (by omega), if_pos rfl]
  exact ⟨h1, by rw [putH, if_pos h1], by rw [putL, if_pos h1, put_back hw hi]⟩
/-- A rick that has waited so many days. -/
def coldR (xs : List Rk) (i : Nat) (n : Int) : List Rk := xs.set i ((xs.getD i (0, 0, 0)).1, (xs.getD i (0, 0, 0)).2.1, n)
theorem coldR_length (xs : List Rk) (i : Nat) (n : Int) : (coldR xs i n).length = xs.length := by simp [coldR]
theorem set_ids (xs : List Rk) (i : Nat) (a b : Int) : (xs.set i ((xs.getD i (0, 0, 0)).1, a, b)).map (·.1) = xs.map (·.1) := by
  rw [List.map_set]
  refine List.ext_getElem (by simp) fun k h1 h2 => ?_
  rw [List.getElem_set]
  split
  · rename_i e
    subst e
    have hi : i < xs.length := by simpa using h2
    simp [hi]
  · rfl
theorem watch_cold {h : Int} {xs : List Rk} (hw : watchB h xs = true) (i : Nat) (hi : i < xs.length) {n : Int} (h0 : 0 ≤ n) (h1 : n ≤ xs[i].2.2) : watchB h (coldR xs i n) = true := by
  obtain ⟨a1, a2, a3⟩ := watchB_iff.1 hw
  refine watch_of a1 (by rw [coldR_length]; exact a2) (fun x hx => ?_) (by rw [coldR, set_ids]; exact watch_pair hw)
  rcases List.mem_or_eq_of_mem_set hx with h9 | h9
  · exact watchB_ok hw x h9
  · have h3 := watchB_ok hw xs[i] (List.getElem_mem hi)
    subst h9
    simp only [okR, List.getD_eq_getElem?_getD, List.getElem?_eq_getElem hi, Option.getD_some] at h3 ⊢
    omega
theorem dom_cold (xs : List Rk) (i : Nat) (hi : i < xs.length) {n : Int} (h1 : n ≤ xs[i].2.2) : Dom xs (coldR xs i n) := by
  intro y hy
  rcases List.mem_or_eq_of_mem_set hy with h9 | h9
  · exact ⟨y, h9, rfl, Int.le_refl _, Int.le_refl _⟩
  · subst h9
    refine ⟨xs[i], List.getElem_mem hi, ?_, ?_, ?_⟩ <;> simp [List.getD_eq_getElem?_getD, List.getElem?_eq_getElem hi] <;> omega
theorem dom_dry (xs : List Rk) (i : Nat) (hi : i < xs.length) {m : Int} (hm : xs[i].2.1 ≤ m) : Dom xs (moistR xs i m) := by
  have := dom_moist xs i hm
  rwa [moistR_self xs i hi] at this
/-- What never makes it worse. -/
theorem better_hands {h : Int} {xs : List Rk} (hw : watchB h xs = true) : watchB (min 3 (h + 1)) xs = true ∧ (everB h xs = true → everB (min 3 (h + 1)) xs = true) := by
  have hh := (watchB_iff.1 hw).1
  have h2 := watch_hands (k := min 3 (h + 1)) hw (by omega) (by omega)
  exact ⟨h2, ever_dom (by omega) hw h2 (Dom.refl xs)⟩
theorem better_less {h : Int} {xs : List Rk} (hw : watchB h xs = true) (i : Nat) : everB h xs = true → everB h (xs.eraseIdx i) = true := ever_dom (Int.le_refl _) hw (watch_less hw i) (dom_less xs i)
theorem better_dry {h : Int} {xs : List Rk} (hw : watchB h xs = true) {i : Nat} (hi : i < xs.length) : watchB h (moistR xs i (min 6 (xs[i].2.1 + 1))) = true ∧ (everB h xs = true → everB h (moistR xs i (min 6 (xs[i].2.1 + 1))) = true) := by
  have hx := watchB_ok hw _ (List.getElem_mem hi)
  unfold okR at hx
  have h2 := watch_moist hw i hi (n := min 6 (xs[i].2.1 + 1)) (by omega) (by omega)
  exact ⟨h2, ever_dom (Int.le_refl _) hw h2 (dom_dry xs i hi (by omega))⟩
theorem better_cold {h : Int} {xs : List Rk} (hw : watchB h xs = true) {i : Nat} (hi : i < xs.length) : watchB h (coldR xs i (max 0 (xs[i].2.2 - 1))) = true ∧ (everB h xs = true → everB h (coldR xs i (max 0 (xs[i].2.2 - 1))) = true) := by
  have hx := watchB_ok hw _ (List.getElem_mem hi)
  unfold okR at hx
  have h2 := watch_cold hw i hi (n := max 0 (xs[i].2.2 - 1)) (by omega) (by omega)
  exact ⟨h2, ever_dom (Int.le_refl _) hw h2 (dom_cold xs i hi (by omega))⟩
end Go.Proofs.YtknpglgpkkhhiaaDoor

/- Can, at a valid watch. -/
namespace Go.Proofs.YtknpglgpkkhhiaaDoor
set_option linter.unusedSimpArgs false
set_option linter.unusedVariables false
open Go.RowKit

theorem can_at (h : Int) (xs : List Rk) (u : Value) (w : World) (hT : TabR w) (hu : RL xs u w) (hw : watchB h xs = true) (r : Bool) (hr : Hid (everB h xs = r)) :
    Calls Tryd.prog 32 #[.agg #[.int .i64 h, u]] w fun e w' => e = .returned (.tuple #[.bool r, .int .i64 0]) ∧ Below w.heap.size w w' :=
  canP_v h xs u w hT hu 0 r (by rw [hw, hr.out]; exact ⟨rfl, rfl⟩)
end Go.Proofs.YtknpglgpkkhhiaaDoor

/- A watch with ricks of its own, given by a call with an error beside it, and kept in a box made in the same statement. -/
namespace Go.Proofs.YtknpglgpkkhhiaaDoor
set_option linter.unusedSimpArgs false
set_option linter.unusedVariables false
open Go.RowKit Go.Proofs.YtknpglgpkkhhiaaDoor.Free2 Go.Proofs.YtknpglgpkkhhiaaDoor.ML RR

/-- What a call gave: a watch, with ricks of its own. -/
def AftV (n0 : Nat) (H : Int) (ys : List Rk) (E : Int) (v : Value) (W : World) : Prop := ∃ u, v = .tuple #[.agg #[.int .i64 H, u], .int .i64 E] ∧ W.ownsRow n0 47 3 u ys.length (cellsR ys)
def AftW (n0 : Nat) (H : Int) (ys : List Rk) (v : Value) (W : World) : Prop := ∃ u, v = .agg #[.int .i64 H, u] ∧ W.ownsRow n0 47 3 u ys.length (cellsR ys)
theorem AftV.stable (n0 : Nat) (H E : Int) (ys : List Rk) (m : Nat) : Free.Stable (RQt 24 m) (AftV n0 H ys E) := fun v a b hR ⟨u, h1, h2⟩ => ⟨u, h1, hR.row (by decide) h2⟩
theorem AftW.stable (n0 : Nat) (H : Int) (ys : List Rk) (m : Nat) : Free.Stable (RQt 24 m) (AftW n0 H ys) := fun v a b hR ⟨u, h1, h2⟩ => ⟨u, h1, hR.row (by decide) h2⟩
end Go.Proofs.YtknpglgpkkhhiaaDoor

/- Two watches made by calls in one statement that draws its order, and kept in two boxes made there too. -/
namespace Go.Proofs.YtknpglgpkkhhiaaDoor
set_option linter.unusedSimpArgs false
set_option linter.unusedVariables false
open Go.RowKit Go.Proofs.YtknpglgpkkhhiaaDoor.Free2 Go.Proofs.YtknpglgpkkhhiaaDoor.ML RR

section
variable {t : TypeId} {s0 ex al st ex1 al1 st1 ex2 al2 st2 : Nat} {X : XT} {W W' : World}
theorem JK.other (H : JK t s0 ex al st X W) {g o : Nat} {v : Value} (hn : ∀ b, X al = some (.pointer (some ⟨b, 0, none⟩)) → b ≠ g) : JK t s0 ex al st X (W.setCell ⟨g, o, none⟩ v) :=
  ⟨H.ord, by simpa using H.size, fun u hu => by
    obtain ⟨b, h1, h2, h3, h4⟩ := H.new u hu
    have hne : b ≠ g := hn b (by rw [hu, h1])
    have hk : (W.setCell ⟨g, o, none⟩ v).heap[b]? = W.heap[b]? := Below.heap_setCell _ _ _ _ (by simpa using hne)
    exact ⟨b, h1, h2, fun h => let ⟨x, y, h5⟩ := h3 h; ⟨x, y, hk.trans h5⟩, fun h => let ⟨x, y, h5, h6⟩ := h4 h; ⟨x, y, h5, hk.trans h6⟩⟩⟩
structure JKK (t : TypeId) (s0 ex1 al1 st1 ex2 al2 st2 : Nat) (X : XT) (W : World) : Prop where
  a : JK t s0 ex1 al1 st1 X W
  b : JK t s0 ex2 al2 st2 X W
  ne : ∀ b, X al1 = some (.pointer (some ⟨b, 0, none⟩)) → X al2 = some (.pointer (some ⟨b, 0, none⟩)) → False
theorem JKK.start (hs : s0 ≤ W.heap.size) : JKK t s0 ex1 al1 st1 ex2 al2 st2 (fun _ => none) W := ⟨JK.start hs, JK.start hs, fun b h => (by cases h)⟩
theorem JKK.bel (H : JKK t s0 ex1 al1 st1 ex2 al2 st2 X W) (hB : Free.Bel W W') : JKK t s0 ex1 al1 st1 ex2 al2 st2 X W' := ⟨H.a.bel hB, H.b.bel hB, H.ne⟩
theorem JKK.skip (H : JKK t s0 ex1 al1 st1 ex2 al2 st2 X W) (n : Nat) (v : Value) (h1 : n ≠ al1) (h2 : n ≠ st1) (h3 : n = ex1 → X ex1 = none) (k1 : n ≠ al2) (k2 : n ≠ st2) (k3 : n = ex2 → X ex2 = none) : JKK t s0 ex1 al1 st1 ex2 al2 st2 (upd X n v) W :=
  ⟨H.a.skip n v h1 h2 h3, H.b.skip n v k1 k2 k3, fun b e1 e2 => H.ne b (by rwa [upd_other _ _ (Ne.symm h1)] at e1) (by rwa [upd_other _ _ (Ne.symm k1)] at e2)⟩
theorem JK.old (H : JK t s0 ex al st X W) {b : Nat} (h : X al = some (.pointer (some ⟨b, 0, none⟩))) : b < W.heap.size := by
  obtain ⟨b', h1, h2, h3, h4⟩ := H.new _ h
  cases h1
  by_cases hs : X st = none
  · obtain ⟨x, y, h5⟩ := h3 hs; exact lt_of_heap h5
  · obtain ⟨x, y, _, h5⟩ := h4 hs; exact lt_of_heap h5
theorem JKK.made1 (H : JKK t s0 ex1 al1 st1 ex2 al2 st2 X W) (hx : X al1 = none) {x y : Value} (n1 : al1 ≠ st1) (n2 : al1 ≠ al2) (n3 : al1 ≠ st2) (n4 : al1 ≠ ex2) : JKK t s0 ex1 al1 st1 ex2 al2 st2 (upd X al1 (.pointer (some ⟨W.heap.size, 0, none⟩))) (W.alloc (.cells #[x, y] t)) :=
  ⟨H.a.made hx (belAlloc _ _) H.a.size (World.alloc_heap_new _ _) n1, (H.b.bel (belAlloc _ _)).skip al1 _ n2 n3 (fun e => absurd e n4), fun b e1 e2 => by
    rw [upd_same] at e1
    rw [upd_other _ _ (Ne.symm n2)] at e2
    have := H.b.old e2
    cases e1
    omega⟩
theorem JKK.made2 (H : JKK t s0 ex1 al1 st1 ex2 al2 st2 X W) (hx : X al2 = none) {x y : Value} (n1 : al2 ≠ st2) (n2 : al2 ≠ al1) (n3 : al2 ≠ st1) (n4 : al2 ≠ ex1) : JKK t s0 ex1 al1 st1 ex2 al2 st2 (upd X al2 (.pointer (some ⟨W.heap.size, 0, none⟩))) (W.alloc (.cells #[x, y] t)) :=
  ⟨(H.a.bel (belAlloc _ _)).skip al2 _ n2 n3 (fun e => absurd e n4), H.b.made hx (belAlloc _ _) H.b.size (World.alloc_heap_new _ _) n1, fun b e1 e2 => by
    rw [upd_same] at e2
    rw [upd_other _ _ (Ne.symm n2)] at e1
    have := H.a.old e1
    cases e2
    omega⟩
theorem JKK.put1 (H : JKK t s0 ex1 al1 st1 ex2 al2 st2 X W) (hst : X st1 = none) {b : Nat} {x y v : Value} (hal : X al1 = some (.pointer (some ⟨b, 0, none⟩))) (hex : X ex1 = some (.agg #[x, y])) (n1 : al1 ≠ st1) (n2 : ex1 ≠ st1) (k1 : st1 ≠ al2) (k2 : st1 ≠ st2) (k3 : st1 ≠ ex2) : JKK t s0 ex1 al1 st1 ex2 al2 st2 (upd X st1 v) ((W.setCell ⟨b, 0, none⟩ x).setCell ⟨b, 1, none⟩ y) :=
  have hn : ∀ b', X al2 = some (.pointer (some ⟨b', 0, none⟩)) → b' ≠ b := fun b' h9 e => H.ne b hal (by rw [← e]; exact h9)
  ⟨H.a.put hst hal hex n1 n2, ((H.b.other hn).other hn).skip st1 v k1 k2 (fun e => absurd e k3), fun b' e1 e2 => H.ne b' (by rwa [upd_other _ _ n1] at e1) (by rwa [upd_other _ _ (Ne.symm k1)] at e2)⟩
theorem JKK.put2 (H : JKK t s0 ex1 al1 st1 ex2 al2 st2 X W) (hst : X st2 = none) {b : Nat} {x y v : Value} (hal : X al2 = some (.pointer (some ⟨b, 0, none⟩))) (hex : X ex2 = some (.agg #[x, y])) (n1 : al2 ≠ st2) (n2 : ex2 ≠ st2) (k1 : st2 ≠ al1) (k2 : st2 ≠ st1) (k3 : st2 ≠ ex1) : JKK t s0 ex1 al1 st1 ex2 al2 st2 (upd X st2 v) ((W.setCell ⟨b, 0, none⟩ x).setCell ⟨b, 1, none⟩ y) :=
  have hn : ∀ b', X al1 = some (.pointer (some ⟨b', 0, none⟩)) → b' ≠ b := fun b' h9 e => H.ne b (by rw [← e]; exact h9) hal
  ⟨((H.a.other hn).other hn).skip st2 v k1 k2 (fun e => absurd e k3), H.b.put hst hal hex n1 n2, fun b' e1 e2 => H.ne b' (by rwa [upd_other _ _ (Ne.symm k1)] at e1) (by rwa [upd_other _ _ n1] at e2)⟩
end
end Go.Proofs.YtknpglgpkkhhiaaDoor

/- The bounds of small kinds of numbers. -/
namespace Go.Proofs.YtknpglgpkkhhiaaDoor
open Go
theorem u8_wf {n : Int} (h : (Lit.int .u8 n).wf = true) : 0 ≤ n ∧ n ≤ 255 := by
  have h2 : IntKind.u8.min ≤ n ∧ n ≤ IntKind.u8.max := by simpa [Lit.wf] using h
  exact h2
end Go.Proofs.YtknpglgpkkhhiaaDoor

